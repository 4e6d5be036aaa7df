import Derived.Test.YtbegnofapodldaaQL
import Derived.KernelRfl
set_option linter.unusedVariables false
set_option linter.unusedSimpArgs false
namespace Go.Proofs.Ytbegnofapodldaa
open Go Go.Gx Go.Proofs

theorem toIntS_l (N : Nat) (k : List Int → Option (List Int × Unit)) : ∀ (n : Nat) (a out : List Int) (i : Nat), a.length - i < n → i ≤ a.length → out.length = a.length → a.length ≤ 1099511627776 →
    laws_toIntS_l3 N k n a out i = k (out.take i ++ a.drop i)
  | 0, _, _, _, h, _, _, _ => by omega
  | n + 1, a, out, i, h, hi, ho, hb => by
    simp only [laws_toIntS_l3, laws_toIntS_b3]
    by_cases hlt : i < a.length
    · rw [cdt (by omega), atI_lt a i hlt, Option.bind_some, atI_lt out i (by omega), Option.bind_some, Int.toNat_natCast, List.getElem?_eq_getElem (by omega), Option.bind_some, wr (by omega) (by omega)]
      have := toIntS_l N k n a (out.set i a[i]) (i + 1) (by omega) (by omega) (by simpa using ho) hb
      rw [show ((i : Int) + 1) = ((i + 1 : Nat) : Int) by omega, this]
      congr 1
      rw [List.take_succ_eq_append_getElem (by simp; omega), List.take_set, List.set_eq_of_length_le (by simp [Nat.min_le_left]), List.append_assoc]
      congr 1
      rw [List.getElem_set_self, List.singleton_append, ← List.drop_eq_getElem_cons hlt]
    · rw [cdf (by omega)]
      have : i = a.length := by omega
      subst this
      rw [List.drop_length, List.append_nil, List.take_of_length_le (by omega)]

theorem toIntS_eq (a : List Int) (h : a.length ≤ 4294967296) : laws_toIntS big a = some (a, ()) := by
  have hb := big_ge
  unfold laws_toIntS laws_toIntS_s
  rw [mkI_nat _ _ h, Option.bind_some, Option.bind_some, cdt (by omega)]
  unfold laws_toIntS_F3
  have := toIntS_l big laws_toIntS_a3 big a (List.replicate a.length 0) 0 (by omega) (by omega) (by simp) (by omega)
  refine Eq.trans this ?_
  simp [laws_toIntS_a3]

theorem eqIntS_l (N : Nat) (k : Option (Bool × Unit)) : ∀ (n : Nat) (a b : List Int) (i : Nat), a.length - i < n → i ≤ a.length → b.length = a.length → a.length ≤ 1099511627776 →
    laws_eqIntS_l4 N k n a b i = if a.drop i = b.drop i then k else some (false, ())
  | 0, _, _, _, h, _, _, _ => by omega
  | n + 1, a, b, i, h, hi, hl, hb => by
    simp only [laws_eqIntS_l4, laws_eqIntS_b4]
    by_cases hlt : i < a.length
    · rw [cdt (by omega), atI_lt a i hlt, Option.bind_some, atI_lt b i (by omega), Option.bind_some, wr (by omega) (by omega)]
      have := eqIntS_l N k n a b (i + 1) (by omega) (by omega) hl hb
      rw [show ((i : Int) + 1) = ((i + 1 : Nat) : Int) by omega, this]
      rw [List.drop_eq_getElem_cons hlt, List.drop_eq_getElem_cons (show i < b.length by omega)]
      by_cases hx : a[i] = b[i]
      · rw [cdf (by simpa using hx), hx]; simp only [List.cons.injEq, true_and]
      · rw [cdt hx, if_neg (fun e => hx (by simp only [List.cons.injEq] at e; exact e.1))]
    · rw [cdf (by omega), List.drop_eq_nil_of_le (by omega), List.drop_eq_nil_of_le (by omega)]
      simp

theorem eqIntS_eq (a b : List Int) (h : a.length ≤ 1099511627775) : laws_eqIntS big a b = some (decide (a = b), ()) := by
  have hb := big_ge
  unfold laws_eqIntS laws_eqIntS_s
  by_cases hl : a.length = b.length
  · rw [cdf (by simp [hl])]
    unfold laws_eqIntS_F4
    have := eqIntS_l big laws_eqIntS_a4 big a b 0 (by omega) (by omega) (by omega) (by omega)
    rw [show (0 : Int) = ((0 : Nat) : Int) from rfl, this]
    simp only [List.drop_zero, laws_eqIntS_a4]
    by_cases he : a = b <;> simp [he]
  · rw [cdt (by omega)]
    have : a ≠ b := by rintro rfl; exact hl rfl
    simp [this]

theorem eqIntSS_l (N : Nat) (k : Option (Bool × Unit)) : ∀ (n : Nat) (a b : List (List Int)) (i : Nat), a.length - i < n → i ≤ a.length → b.length = a.length → a.length ≤ 1099511627776 → (∀ x ∈ a, x.length ≤ 4294967296) →
    laws_eqIntSS_l4 N k n a b i = if a.drop i = b.drop i then k else some (false, ())
  | 0, _, _, _, h, _, _, _, _ => by omega
  | n + 1, a, b, i, h, hi, hl, hb, hx => by
    simp only [laws_eqIntSS_l4, laws_eqIntSS_b4]
    by_cases hlt : i < a.length
    · have hxx := hx _ (List.getElem_mem hlt)
      rw [cdt (by omega), atI_lt a i hlt, Option.bind_some, atI_lt b i (by omega), Option.bind_some, eqIntS_eq _ _ (by omega), Option.bind_some, wr (by omega) (by omega)]
      have := eqIntSS_l N k n a b (i + 1) (by omega) (by omega) hl hb hx
      rw [show ((i : Int) + 1) = ((i + 1 : Nat) : Int) by omega, this]
      rw [List.drop_eq_getElem_cons hlt, List.drop_eq_getElem_cons (show i < b.length by omega)]
      by_cases hx : a[i] = b[i]
      · rw [hx]; simp only [decide_true, Bool.not_true, cond_false, List.cons.injEq, true_and]
      · rw [decide_eq_false hx]; exact (if_neg (fun e => hx (List.cons.inj e).1)).symm
    · rw [cdf (by omega), List.drop_eq_nil_of_le (by omega), List.drop_eq_nil_of_le (by omega)]
      simp

theorem eqIntSS_eq (a b : List (List Int)) (h : a.length ≤ 1099511627775) (hx : ∀ x ∈ a, x.length ≤ 4294967296) : laws_eqIntSS big a b = some (decide (a = b), ()) := by
  have hb := big_ge
  unfold laws_eqIntSS laws_eqIntSS_s
  by_cases hl : a.length = b.length
  · rw [cdf (by simp [hl])]
    unfold laws_eqIntSS_F4
    have := eqIntSS_l big laws_eqIntSS_a4 big a b 0 (by omega) (by omega) (by omega) (by omega) hx
    refine Eq.trans this ?_
    simp only [List.drop_zero, laws_eqIntSS_a4]
    by_cases he : a = b <;> simp [he]
  · rw [cdt (by omega)]
    have : a ≠ b := by rintro rfl; exact hl rfl
    simp [this]

theorem those_order_lowerCovers_c1 {n : Nat} {o : List (List Bool)} (ho : o.length = n) (hn : n ≤ 1048576) {c : ((List (List Bool)) × (Int × Unit))} {P : Nat → Bool} (h : ∀ i, i < n → impl_order_lowerCovers_c1 (i : Int) c.1 c.2.1 = some (P i, ())) : impl_order_those_k_order_lowerCovers_c1 big o c = some (cs (fl n P), ()) := by
  unfold impl_order_those_k_order_lowerCovers_c1 impl_order_those_k_order_lowerCovers_c1_s
  rw [ho]
  refine impl_order_those_k_order_lowerCovers_c1_h3 n (fun i l => l = cs (fl i P)) (by omega) ?_ ?_ 0 (by omega) _ rfl
  · intro rc i l hi hv ih
    have hl := fl_len i P
    unfold impl_order_those_k_order_lowerCovers_c1_b3
    rw [cdt (by omega), h i hi, Option.bind_some, wr1 (by omega)]
    cases hp : P i with
    | true => rw [cond_true, app1 (by rw [hv, cs_len]; omega), Option.bind_some]; exact ih _ (by rw [hv]; exact fl_t hp)
    | false => exact ih _ (by rw [hv]; exact fl_f hp)
  · intro rc l hv
    unfold impl_order_those_k_order_lowerCovers_c1_b3
    rw [cdf (by omega), impl_order_those_k_order_lowerCovers_c1_a3, hv]

theorem szIntS_eq (a : List Int) (l : Int) (h : a.length ≤ 9223372036854775807) (h0 : 0 ≤ l) (h1 : l ≤ 1048576) : ∃ v, laws_szIntS a l = some (v, ()) ∧ v ≤ 1048576 ∧ (0 ≤ v → a.length ≤ 1048576) := by
  unfold laws_szIntS laws_szIntS_s
  rw [wr (by omega) (by omega)]
  by_cases hl : l - (a.length : Int) < 0
  · rw [cdt hl]
    exact ⟨_, rfl, by omega, by omega⟩
  · rw [cdf hl]
    exact ⟨_, rfl, by omega, by omega⟩

theorem szIntSS_l (N : Nat) : ∀ (n : Nat) (a : List (List Int)) (l : Int) (i : Nat), a.length - i < n → i ≤ a.length → a.length ≤ 1048576 → 0 ≤ l → l ≤ 1048576 → (∀ x ∈ a, x.length ≤ 9223372036854775807) →
    ∃ v, laws_szIntSS_l5 N laws_szIntSS_a5 n a l i = some (v, ()) ∧ v ≤ 1048576 ∧ (0 ≤ v → ∀ x ∈ a.drop i, x.length ≤ 1048576)
  | 0, _, _, _, h, _, _, _, _, _ => by omega
  | n + 1, a, l, i, h, hi, hb, h0, h1, hx => by
    simp only [laws_szIntSS_l5, laws_szIntSS_b5]
    by_cases hlt : i < a.length
    · obtain ⟨v, hv, hv1, hv2⟩ := szIntS_eq _ l (hx _ (List.getElem_mem hlt)) h0 h1
      rw [cdt (by omega), atI_lt a i hlt, Option.bind_some, hv, Option.bind_some, wr1 (by omega)]
      by_cases hl : v < 0
      · rw [cdt hl]
        exact ⟨_, rfl, by omega, by omega⟩
      · rw [cdf hl]
        obtain ⟨w, hw, hw1, hw2⟩ := szIntSS_l N n a v (i + 1) (by omega) (by omega) hb (by omega) hv1 hx
        refine ⟨w, hw, hw1, fun h x hx' => ?_⟩
        rw [List.drop_eq_getElem_cons hlt] at hx'
        rcases List.mem_cons.1 hx' with rfl | hx'
        · exact hv2 (by omega)
        · exact hw2 h x hx'
    · rw [cdf (by omega), List.drop_eq_nil_of_le (by omega)]
      exact ⟨_, rfl, h1, by simp⟩

theorem szIntSS_eq (a : List (List Int)) (l : Int) (ha : a.length ≤ 9223372036854775807) (hx : ∀ x ∈ a, x.length ≤ 9223372036854775807) (h0 : 0 ≤ l) (h1 : l ≤ 1048576) : ∃ v, laws_szIntSS big a l = some (v, ()) ∧ v ≤ 1048576 ∧ (0 ≤ v → a.length ≤ 1048576 ∧ ∀ x ∈ a, x.length ≤ 1048576) := by
  have hb := big_ge
  unfold laws_szIntSS laws_szIntSS_s
  rw [wr (by omega) (by omega)]
  by_cases h : l - (a.length : Int) < 0
  · rw [cdt h]
    exact ⟨_, rfl, by omega, by omega⟩
  · rw [cdf h]
    unfold laws_szIntSS_F5
    obtain ⟨v, hv, hv1, hv2⟩ := szIntSS_l big big a (l - a.length) 0 (by omega) (by omega) (by omega) (by omega) (by omega) hx
    exact ⟨v, hv, hv1, fun h0 => ⟨by omega, by simpa using hv2 h0⟩⟩

def SmallP (p : PT) : Prop := p.1.length ≤ 1048576 ∧ ∀ r ∈ p.1, r.length ≤ 1048576

theorem szPoset_eq (p : PT) (l : Int) (hw : Wf (.pair (.sl (.sl I)) .unit) p) (h0 : 0 ≤ l) (h1 : l ≤ 1048576) : ∃ v, laws_szPoset p l = some (v, ()) ∧ v ≤ 1048576 ∧ (0 ≤ v → SmallP p) := by
  simp only [Wf, maxLen] at hw
  obtain ⟨v, hv, hv1, hv2⟩ := szIntSS_eq p.1 l hw.1.1 (fun x hx => (hw.1.2 x hx).1) h0 h1
  unfold laws_szPoset laws_szPoset_s
  rw [hv, Option.bind_some]
  by_cases h : v < 0
  · rw [cdt h]
    exact ⟨_, rfl, by omega, by omega⟩
  · rw [cdf h]
    exact ⟨_, rfl, hv1, hv2⟩

theorem toIntSS_eq (a : List (List Int)) (h : a.length ≤ 4294967296) (hx : ∀ x ∈ a, x.length ≤ 4294967296) : laws_toIntSS big a = some (a, ()) := by
  unfold laws_toIntSS laws_toIntSS_s
  rw [mkI_nat _ _ h, Option.bind_some, Option.bind_some, cdt (by omega)]
  refine laws_toIntSS_h3 a.length (fun i o => o.length = a.length ∧ o.take i = a.take i) (by omega) ?_ ?_ 0 (by omega) _ ⟨by simp, rfl⟩
  · intro rc i o hi hv ih
    have ho : i < o.length := by omega
    unfold laws_toIntSS_b3
    rw [cdt (by omega), atI_lt a i hi, Option.bind_some, toIntS_eq _ (hx _ (List.getElem_mem hi)), Option.bind_some, atI_lt o i ho, Option.bind_some, Int.toNat_natCast, List.getElem?_eq_getElem ho, Option.bind_some, wr1 (by omega)]
    refine ih _ ⟨by rw [List.length_set]; exact hv.1, ?_⟩
    rw [List.take_succ_eq_append_getElem (by rw [List.length_set]; exact ho), List.take_succ_eq_append_getElem hi, List.getElem_set_self, List.take_set, List.set_eq_of_length_le (by rw [List.length_take]; omega), hv.2]
  · intro rc o hv
    unfold laws_toIntSS_b3
    have h1 := hv.2
    rw [List.take_length, ← hv.1, List.take_length] at h1
    rw [cdf (by omega), laws_toIntSS_a3, h1]

theorem toPoset_eq {p : PT} (h : SmallP p) : laws_toPoset p = some (p, ()) := by
  unfold laws_toPoset laws_toPoset_s
  have := h.1
  rw [toIntSS_eq p.1 (by omega) fun x hx => by have := h.2 x hx; omega]
  rfl

theorem eqPoset_eq {p q : PT} (h : SmallP p) : laws_eqPoset p q = some (decide (p = q), ()) := by
  unfold laws_eqPoset laws_eqPoset_s
  have := h.1
  rw [eqIntSS_eq p.1 q.1 (by omega) fun x hx => by have := h.2 x hx; omega]
  rw [Option.bind_some]
  by_cases e : p = q
  · subst e; simp
  · rw [decide_eq_false e, decide_eq_false fun h => e (Prod.ext h rfl)]; rfl

theorem SmallP.rows {p : PT} (h : SmallP p) : ∀ r ∈ p.1, r.length ≤ 4294967296 := fun r hr => by have := h.2 r hr; omega

def ls (le : Nat → Nat → Bool) (x y : Nat) : Bool := decide (x ≠ y) && le x y

def cov (n : Nat) (le : Nat → Nat → Bool) (x y : Nat) : Bool := ls le x y && (List.range n).all fun z => !(ls le x z && ls le z y)

theorem less_eq {n : Nat} {le : Nat → Nat → Bool} {x y : Nat} (hx : x < n) (hy : y < n) : impl_order_less (mkT n le) (x : Int) (y : Int) = some (ls le x y, ()) := by
  unfold impl_order_less impl_order_less_s ls
  simp only [atI_mkR hx, atI_mkR hy, Option.bind_some]
  by_cases h : x = y
  · rw [cdf (by omega), decide_eq_false (by omega)]; rfl
  · rw [cdt (by omega), decide_eq_true h]; rfl

theorem specLess_eq {n : Nat} {le : Nat → Nat → Bool} (hn : n ≤ 4294967296) {x y : Nat} (hx : x < n) (hy : y < n) : spec_l23Less (pos n le) (x : Int) (y : Int) = some (ls le x y, ()) := by
  unfold spec_l23Less spec_l23Less_s ls
  rw [l23Leq_pos hn hx hy, Option.bind_some]
  by_cases h : x = y
  · rw [cdf (by omega), decide_eq_false (by omega)]; rfl
  · rw [cdt (by omega), decide_eq_true h]; rfl

theorem cov_t {n : Nat} {le : Nat → Nat → Bool} {x y : Nat} (h : ls le x y = true) (h2 : ∀ z, z < n → ¬ (ls le x z = true ∧ ls le z y = true)) : cov n le x y = true := by
  unfold cov
  rw [h, Bool.true_and, List.all_eq_true]
  intro z hz
  have := h2 z (List.mem_range.1 hz)
  cases h3 : ls le x z <;> cases h4 : ls le z y <;> simp_all

theorem cov_f {n : Nat} {le : Nat → Nat → Bool} {x y z : Nat} (hz : z < n) (h1 : ls le x z = true) (h2 : ls le z y = true) : cov n le x y = false := by
  unfold cov
  rw [Bool.and_eq_false_iff]
  refine .inr (List.all_eq_false.2 ⟨z, List.mem_range.2 hz, by simp [h1, h2]⟩)

theorem covers_eq {n : Nat} {le : Nat → Nat → Bool} (hn : n ≤ 1048576) {x y : Nat} (hx : x < n) (hy : y < n) : impl_order_covers big (mkT n le) (x : Int) (y : Int) = some (cov n le x y, ()) := by
  unfold impl_order_covers impl_order_covers_s
  rw [less_eq hx hy, Option.bind_some, mkR_len]
  cases h : ls le x y with
  | false => simp [cov, h]
  | true =>
    rw [Bool.not_true, cond_false]
    refine impl_order_covers_h4 n (fun i => ∀ z, z < i → ¬ (ls le x z = true ∧ ls le z y = true)) (by omega) ?_ ?_ 0 (by omega) (by intro z hz; omega)
    · intro rc i hi hv ih
      unfold impl_order_covers_b4
      rw [cdt (by omega), less_eq hx hi, Option.bind_some, less_eq hi hy, Option.bind_some, wr1 (by omega)]
      cases h1 : ls le x i with
      | false => exact ih (all_lt_succ.2 ⟨hv, by simp [h1]⟩)
      | true =>
        cases h2 : ls le i y with
        | false => exact ih (all_lt_succ.2 ⟨hv, by simp [h2]⟩)
        | true => rw [cov_f hi h1 h2]; rfl
    · intro rc hv
      unfold impl_order_covers_b4
      rw [cdf (by omega), impl_order_covers_a4, cov_t h hv]

theorem specCovers_eq {n : Nat} {le : Nat → Nat → Bool} (hn : n ≤ 1048576) {x y : Nat} (hx : x < n) (hy : y < n) : spec_l23Covers big (pos n le) (x : Int) (y : Int) = some (cov n le x y, ()) := by
  unfold spec_l23Covers spec_l23Covers_s
  rw [specLess_eq (by omega) hx hy, Option.bind_some]
  cases h : ls le x y with
  | false => simp [cov, h]
  | true =>
    rw [Bool.not_true, cond_false]
    refine spec_l23Covers_h4 n (fun i => ∀ z, z < i → ¬ (ls le x z = true ∧ ls le z y = true)) (by omega) ?_ ?_ 0 (by omega) (by intro z hz; omega)
    · intro rc i hi hv ih
      unfold spec_l23Covers_b4
      rw [pos_len, cdt (by omega), specLess_eq (by omega) hx hi, Option.bind_some, specLess_eq (by omega) hi hy, Option.bind_some, wr1 (by omega)]
      cases h1 : ls le x i with
      | false => exact ih (all_lt_succ.2 ⟨hv, by simp [h1]⟩)
      | true =>
        cases h2 : ls le i y with
        | false => exact ih (all_lt_succ.2 ⟨hv, by simp [h2]⟩)
        | true => rw [cov_f hi h1 h2]; rfl
    · intro rc hv
      unfold spec_l23Covers_b4
      rw [pos_len, cdf (by omega), spec_l23Covers_a4, cov_t h hv]

theorem lowerCovers_eq {n : Nat} {le : Nat → Nat → Bool} (hn : n ≤ 1048576) {y : Nat} (hy : y < n) : impl_order_lowerCovers (mkT n le) (y : Int) = some (cs (fl n fun x => cov n le x y), ()) := by
  unfold impl_order_lowerCovers impl_order_lowerCovers_s
  rw [those_order_lowerCovers_c1 (mkR_len n _) hn (P := fun x => cov n le x y)]
  · rfl
  · intro i hi
    unfold impl_order_lowerCovers_c1 impl_order_lowerCovers_c1_s
    rw [covers_eq hn hi hy]; rfl

theorem has_eq {n : Nat} {le : Nat → Nat → Bool} (s : List Int) (h : s.length ≤ 4294967296) : impl_order_has (mkT n le) s = some (s.all (inB n), ()) := by
  unfold impl_order_has impl_order_has_s
  rw [mkR_len, inSize_eq n s (by omega)]; rfl

theorem specIs_eq {n : Nat} {le : Nat → Nat → Bool} (x : Int) : spec_l23Is (pos n le) x = some (inB n x, ()) := by
  unfold spec_l23Is spec_l23Is_s inB
  rw [pos_len]
  by_cases h : 0 ≤ x
  · rw [cdt h]; simp [h]
  · rw [cdf h]; simp [h]

theorem inB_form {n : Nat} {x : Int} (h : inB n x = true) : ∃ k : Nat, k < n ∧ x = (k : Int) := by
  unfold inB at h
  rw [decide_eq_true_eq] at h
  exact ⟨x.toNat, by omega, by omega⟩

theorem inB_nat {n k : Nat} : inB n (k : Int) = decide (k < n) := by
  unfold inB; exact decide_eq_decide.2 (by omega)

theorem allB_form {n : Nat} : ∀ {s : List Int}, s.all (inB n) = true → ∃ S : List Nat, s = cs S ∧ ∀ x ∈ S, x < n
  | [], _ => ⟨[], rfl, by simp⟩
  | x :: s, h => by
    rw [List.all_cons, Bool.and_eq_true] at h
    obtain ⟨k, hk, e⟩ := inB_form h.1
    obtain ⟨S, hS, h2⟩ := allB_form h.2
    exact ⟨k :: S, by rw [hS, e]; rfl, by simpa using ⟨hk, h2⟩⟩

theorem takes_cases {p : PT} (hx : ∀ r ∈ p.1, r.length ≤ 4294967296) : (∃ n le, p = pos n le ∧ LatP n le ∧ n ≤ 8 ∧ spec_l27Takes p = some (true, ()) ∧ impl_smallLattice p = some ((some (lat n le), true, ()), ())) ∨
    (spec_l27Takes p = some (false, ()) ∧ ∃ l, impl_smallLattice p = some ((l, false, ()), ())) := by
  unfold spec_l27Takes spec_l27Takes_s impl_smallLattice impl_smallLattice_s
  rcases lat_cases hx with ⟨n, le, e, hl, h1, h2⟩ | ⟨h1, l, h2⟩
  · rw [h1, h2, Option.bind_some, Option.bind_some]
    by_cases h8 : n ≤ 8
    · refine .inl ⟨n, le, e, hl, h8, ?_, ?_⟩
      · rw [e, pos_len, cdt (by omega)]
      · simp only [cond_true, Option.bind_some]
        unfold lat
        rw [mkR_len, decide_eq_true (by omega)]
    · refine .inr ⟨?_, some (lat n le), ?_⟩
      · rw [e, pos_len, cdf (by omega)]
      · simp only [cond_true, Option.bind_some]
        unfold lat
        rw [mkR_len, decide_eq_false (by omega)]
  · rw [h1, h2, Option.bind_some, Option.bind_some]
    refine .inr ⟨?_, l, rfl⟩
    by_cases h : (p.1.length : Int) ≤ 8
    · rw [cdt h]
    · rw [cdf h]

def irr (n : Nat) (le : Nat → Nat → Bool) (j : Nat) : Bool := decide ((fl n fun x => cov n le x j).length = 1)

theorem specIrr_eq {n : Nat} {le : Nat → Nat → Bool} (hn : n ≤ 1048576) : spec_l24Irreducibles big (pos n le) = some (cs (fl n fun j => irr n le j), ()) := by
  unfold spec_l24Irreducibles spec_l24Irreducibles_s
  refine spec_l24Irreducibles_h3 n (fun i l => l = cs (fl i fun j => irr n le j)) (by omega) ?_ ?_ 0 (by omega) _ rfl
  · intro rc i l hi hv ih
    unfold spec_l24Irreducibles_b3
    rw [pos_len, cdt (by omega)]
    refine spec_l24Irreducibles_h7 n (fun k c => c = ((fl k fun x => cov n le x i).length : Int)) (by omega) ?_ ?_ 0 (by omega) _ rfl
    · intro rc2 k c hk hc ih2
      have hl := fl_len k fun x => cov n le x i
      unfold spec_l24Irreducibles_b7
      rw [pos_len, cdt (by omega), specCovers_eq hn hk hi, Option.bind_some, hc, wr1 (i := k) (by omega)]
      cases h : cov n le k i with
      | true =>
        rw [cond_true, wr1 (by omega)]
        refine ih2 _ ?_
        rw [fl_succ, if_pos h, List.length_append]; rfl
      | false =>
        refine ih2 _ ?_
        rw [fl_succ, if_neg (by simp [h])]
    · intro rc2 c hc
      have hl := fl_len i fun j => irr n le j
      unfold spec_l24Irreducibles_b7
      rw [pos_len, cdf (by omega), spec_l24Irreducibles_a7, wr1 (by omega), hc]
      by_cases h : (fl n fun x => cov n le x i).length = 1
      · rw [cdt (by omega), app1 (by rw [hv, cs_len]; omega), Option.bind_some]
        exact ih _ (by rw [hv]; exact fl_t (P := fun j => irr n le j) (decide_eq_true h))
      · rw [cdf (by omega)]
        exact ih _ (by rw [hv]; exact fl_f (P := fun j => irr n le j) (decide_eq_false h))
  · intro rc l hv
    unfold spec_l24Irreducibles_b3
    rw [pos_len, cdf (by omega), spec_l24Irreducibles_a3, hv]

theorem specIrrIs_eq {n : Nat} {le : Nat → Nat → Bool} (hn : n ≤ 1048576) (j : Int) : spec_l27Is (pos n le) j = some (inB n j && irr n le j.toNat, ()) := by
  have hl := fl_len n fun j => irr n le j
  unfold spec_l27Is spec_l27Is_s
  rw [specIrr_eq hn, Option.bind_some, l1Has_eq _ _ (by rw [cs_len]; omega)]
  show some (decide _, ()) = _
  congr 2
  cases h : inB n j with
  | true =>
    obtain ⟨k, hk, e⟩ := inB_form h
    subst e
    rw [Int.toNat_natCast, Bool.true_and, Bool.eq_iff_iff, decide_eq_true_eq, cs_mem, fl_mem]
    simp [hk]
  | false =>
    refine decide_eq_false fun hm => ?_
    obtain ⟨k, hk, e⟩ := List.mem_map.1 hm
    have := (fl_mem.1 hk).1
    rw [← e] at h
    unfold inB at h
    rw [decide_eq_false_iff_not] at h
    omega

theorem irrIs_eq {n : Nat} {le : Nat → Nat → Bool} (hn : n ≤ 1048576) (j : Int) : impl_lattice_isIrreducible (some (lat n le)) j = some (inB n j && irr n le j.toNat, ()) := by
  unfold impl_lattice_isIrreducible impl_lattice_isIrreducible_s lat
  rw [Option.bind_some, has_eq _ (by simp), Option.bind_some, List.all_cons, List.all_nil, Bool.and_true]
  cases h : inB n j with
  | true =>
    obtain ⟨k, hk, e⟩ := inB_form h
    subst e
    rw [cond_true, Option.bind_some, lowerCovers_eq hn hk, Option.bind_some, cs_len, Int.toNat_natCast, Bool.true_and]
    unfold irr
    congr 2
    exact decide_eq_decide.2 (by omega)
  | false => rfl

theorem fl_first {n : Nat} {P : Nat → Bool} (h : 0 < (fl n P).length) : P (fl n P)[0] = true ∧ (fl n P)[0] < n ∧ ∀ i, i < (fl n P)[0] → P i = false := by
  have h0 := fl_mem.1 (List.getElem_mem h)
  refine ⟨h0.2, h0.1, fun i hi => ?_⟩
  cases hp : P i with
  | false => rfl
  | true =>
    have hm : i ∈ fl n P := fl_mem.2 ⟨by omega, hp⟩
    have hpw : (fl n P).Pairwise (· < ·) := List.Pairwise.filter _ List.pairwise_lt_range
    obtain ⟨k, hk, e⟩ := List.getElem_of_mem hm
    rcases Nat.eq_zero_or_pos k with h1 | h1
    · subst h1; omega
    · have := List.pairwise_iff_getElem.1 hpw 0 k h hk h1
      omega

def star (n : Nat) (le : Nat → Nat → Bool) (j : Nat) : Nat := (fl n fun x => cov n le x j).headD 0

theorem star_eq {n : Nat} {le : Nat → Nat → Bool} (hn : n ≤ 1048576) {j : Nat} (hj : j < n) (hi : irr n le j = true) : impl_lattice_star (some (lat n le)) (j : Int) = some ((star n le j : Int), ()) := by
  unfold irr at hi
  rw [decide_eq_true_eq] at hi
  unfold impl_lattice_star impl_lattice_star_s lat
  rw [Option.bind_some, lowerCovers_eq hn hj, Option.bind_some]
  have h0 : 0 < (fl n fun x => cov n le x j).length := by omega
  have h1 := atI_cs h0
  have h2 := get_cs h0
  rw [show (0 : Int) = ((0 : Nat) : Int) from rfl, h1, Option.bind_some, Int.toNat_natCast, h2, Option.bind_some]
  unfold star
  congr 3
  rw [List.getElem_zero, List.headD_eq_head?_getD, List.head?_eq_some_head (List.ne_nil_of_length_pos h0)]
  rfl

theorem specStar_eq {n : Nat} {le : Nat → Nat → Bool} (hn : n ≤ 1048576) {j : Nat} (hj : j < n) (hi : irr n le j = true) : spec_l27Star big (pos n le) (j : Int) = some ((star n le j : Int), ()) := by
  unfold irr at hi
  rw [decide_eq_true_eq] at hi
  have h0 : 0 < (fl n fun x => cov n le x j).length := by omega
  have hf := fl_first h0
  have hs : star n le j = (fl n fun x => cov n le x j)[0] := by
    unfold star
    rw [List.getElem_zero, List.headD_eq_head?_getD, List.head?_eq_some_head (List.ne_nil_of_length_pos h0)]
    rfl
  rw [← hs] at hf
  unfold spec_l27Star spec_l27Star_s
  refine spec_l27Star_h2 (star n le j) (fun _ => True) (by omega) ?_ ?_ 0 (by omega) trivial
  · intro rc i hi hv ih
    unfold spec_l27Star_b2
    rw [specCovers_eq hn (by omega) hj, Option.bind_some, hf.2.2 i hi, Bool.not_false, cond_true, wr1 (by omega)]
    exact ih trivial
  · intro rc hv
    unfold spec_l27Star_b2
    rw [specCovers_eq hn hf.2.1 hj, Option.bind_some, hf.1, Bool.not_true, cond_false, spec_l27Star_a2]

theorem specStarOf_eq (p : PT) (j : Int) (hx : ∀ r ∈ p.1, r.length ≤ 4294967296) : ∃ v : Int × Bool × Unit, spec_StarOf p j = some (v, ()) ∧ impl_StarOf p j = some (v, ()) := by
  unfold spec_StarOf spec_StarOf_s impl_StarOf impl_StarOf_s
  rcases takes_cases hx with ⟨n, le, e, hl, h8, h1, h2⟩ | ⟨h1, l, h2⟩
  · subst e
    rw [h1, h2, Option.bind_some, Option.bind_some]
    simp only [Bool.not_true, cond_false]
    rw [specIrrIs_eq (by omega), irrIs_eq (by omega), Option.bind_some, Option.bind_some]
    cases hj : inB n j && irr n le j.toNat with
    | false => exact ⟨_, rfl, rfl⟩
    | true =>
      rw [Bool.and_eq_true] at hj
      obtain ⟨k, hk, e⟩ := inB_form hj.1
      subst e
      have hi := hj.2
      rw [Int.toNat_natCast] at hi
      simp only [Bool.not_true, cond_false]
      rw [specStar_eq (by omega) hk hi, star_eq (by omega) hk hi]
      exact ⟨_, rfl, rfl⟩
  · rw [h1, h2]
    exact ⟨_, rfl, rfl⟩

theorem true_StarOf (p : PT) (j : Int) (hw : Wf (.pair (.pair (.sl (.sl I)) .unit) (.pair I .unit)) (p, j, ())) : laws_FnExactStarOf p j = some (true, ()) := by
  obtain ⟨v, hv, hv1, hv2⟩ := szPoset_eq p 1048576 hw.1 (by omega) (by omega)
  unfold laws_FnExactStarOf laws_FnExactStarOf_s
  rw [hv, Option.bind_some]
  by_cases h : v < 0
  · rw [cdt h]
  · have hs := hv2 (by omega)
    obtain ⟨r, h1, h2⟩ := specStarOf_eq p j hs.rows
    simp only [cdf h, toPoset_eq hs, Option.bind_some, h1, h2, eqPoset_eq hs]
    simp

end Go.Proofs.Ytbegnofapodldaa
