import Derived.Test.YtbegnofapodldaaQM
import Derived.KernelRfl
set_option linter.unusedVariables false
set_option linter.unusedSimpArgs false
namespace Go.Proofs.Ytbegnofapodldaa
open Go Go.Gx Go.Proofs

def we : List Int → Nat → Nat → Option Nat
  | _, 0, c => some c
  | [], _ + 1, _ => none
  | x :: xs, n + 1, c => if x < -2 ∨ 5 ≤ x then none else if 0 ≤ x then we xs n (c + 1) else we xs (n + 2) (c + 1)

theorem we_zero (xs : List Int) (c : Nat) : we xs 0 c = some c := by cases xs <;> rfl

def wEnd (w : List Int) (i : Nat) : Int := match we (w.drop i) 1 i with
  | some e => e
  | none => -1

theorem wordEnd_l (N : Nat) (k : Int → Option (Int × Unit)) : ∀ (n : Nat) (w : List Int) (i need : Nat), w.length - i + 1 < n → i ≤ w.length → need + (w.length - i) ≤ 4611686018427387904 → w.length ≤ 4611686018427387904 →
    impl_wordEnd_l2 N k n w i need = match we (w.drop i) need i with | some e => k e | none => some (-1, ())
  | 0, _, _, _, h, _, _, _ => by omega
  | n + 1, w, i, need, h, hi, hn, hb => by
    simp only [impl_wordEnd_l2, impl_wordEnd_b2]
    cases need with
    | zero => rw [cdf (by omega), we_zero]
    | succ need =>
      rw [cdt (by omega)]
      by_cases hlt : i < w.length
      · rw [cdf (by omega), atI_lt w i hlt, Option.bind_some, Option.bind_some, Option.bind_some, wr (n := (i : Int) + 1) (by omega) (by omega), wr (n := ((need + 1 : Nat) : Int) - 1) (by omega) (by omega), wr (n := ((need + 1 : Nat) : Int) + 1) (by omega) (by omega)]
        have h1 := wordEnd_l N k n w (i + 1) need (by omega) (by omega) (by omega) hb
        have h2 := wordEnd_l N k n w (i + 1) (need + 2) (by omega) (by omega) (by omega) hb
        rw [show ((i : Int) + 1) = ((i + 1 : Nat) : Int) by omega, show (((need + 1 : Nat) : Int) - 1) = (need : Int) by omega, show (((need + 1 : Nat) : Int) + 1) = ((need + 2 : Nat) : Int) by omega, h1, h2]
        rw [List.drop_eq_getElem_cons hlt]
        simp only [we]
        by_cases c1 : w[i] < -2
        · rw [cdt c1, if_pos (.inl c1)]
        · rw [cdf c1]
          by_cases c2 : 5 ≤ w[i]
          · rw [cdt c2, if_pos (.inr c2)]
          · rw [cdf c2, if_neg (by omega)]
            by_cases c3 : 0 ≤ w[i]
            · rw [cdt c3, if_pos c3]
            · rw [cdf c3, if_neg c3]
      · rw [cdt (by omega), List.drop_eq_nil_of_le (by omega)]
        rfl

theorem wordEnd_eq (w : List Int) (i : Nat) (hi : i ≤ w.length) (hb : w.length ≤ 1000000000) : impl_wordEnd big w i = some (wEnd w i, ()) := by
  have hg := big_ge
  unfold impl_wordEnd impl_wordEnd_s impl_wordEnd_F2
  have := wordEnd_l big impl_wordEnd_a2 big w i 1 (by omega) hi (by omega) (by omega)
  rw [show (1 : Int) = ((1 : Nat) : Int) from rfl, this]
  unfold wEnd
  cases we (w.drop i) 1 i <;> rfl

theorem l28End_l (N : Nat) : ∀ (n : Nat) (w : List Int) (i o : Nat), w.length - i < n → i ≤ w.length → o + 1 + (w.length - i) ≤ 4611686018427387904 → w.length ≤ 4611686018427387904 →
    spec_l28End_l3 N spec_l28End_a3 n w ((o + 1 : Nat) : Int) i = some (match we (w.drop i) (o + 1) i with | some e => e | none => -1, ())
  | 0, _, _, _, h, _, _, _ => by omega
  | n + 1, w, i, o, h, hi, hn, hb => by
    simp only [spec_l28End_l3, spec_l28End_b3]
    by_cases hlt : i < w.length
    · rw [cdt (by omega), atI_lt w i hlt]
      simp only [Option.bind_some, l1In_eq]
      rw [wr (n := (i : Int) + 1) (by omega) (by omega), wr (n := ((o + 1 : Nat) : Int) - 1) (by omega) (by omega), wr (n := ((o + 1 : Nat) : Int) + 1) (by omega) (by omega)]
      have h2 := l28End_l N n w (i + 1) (o + 1) (by omega) (by omega) (by omega) hb
      rw [show ((i : Int) + 1) = ((i + 1 : Nat) : Int) by omega, show (((o + 1 : Nat) : Int) + 1) = ((o + 1 + 1 : Nat) : Int) by omega, h2]
      rw [List.drop_eq_getElem_cons hlt]
      simp only [we]
      rw [cdf (show ¬ (((o + 1 + 1 : Nat) : Int) = 0) by omega)]
      by_cases c1 : w[i] = -1
      · rw [cdt c1, if_neg (by omega), if_neg (by omega)]
      · rw [cdf c1]
        by_cases c2 : w[i] = -2
        · rw [cdt c2, if_neg (by omega), if_neg (by omega)]
        · rw [cdf c2]
          by_cases c3 : 0 ≤ w[i] ∧ w[i] ≤ 4
          · rw [cdt c3, if_neg (by omega), if_pos c3.1]
            cases o with
            | zero => rw [cdt (by omega), we_zero]
            | succ o =>
              have h1 := l28End_l N n w (i + 1) o (by omega) (by omega) (by omega) hb
              rw [cdf (by omega), show (((o + 1 + 1 : Nat) : Int) - 1) = ((o + 1 : Nat) : Int) by omega, h1]
          · rw [cdf c3, if_pos (by omega)]
    · rw [cdf (by omega), List.drop_eq_nil_of_le (by omega)]
      rfl

theorem l28End_eq (w : List Int) (i : Nat) (hi : i ≤ w.length) (hb : w.length ≤ 1000000000) : spec_l28End big w i = some (wEnd w i, ()) := by
  have hg := big_ge
  unfold spec_l28End spec_l28End_s spec_l28End_F3
  have := l28End_l big big w i 0 (by omega) hi (by omega) (by omega)
  rw [show (1 : Int) = ((0 + 1 : Nat) : Int) from rfl, this]
  rfl

def isWord (w : List Int) : Bool := decide (w.length ≤ 40) && decide (wEnd w 0 = w.length)

theorem implIsWord_eq (w : List Int) : impl_IsWord w = some (isWord w, ()) := by
  unfold impl_IsWord impl_IsWord_s isWord
  by_cases h : w.length ≤ 40
  · rw [cdt (by omega), show (0 : Int) = ((0 : Nat) : Int) from rfl, wordEnd_eq w 0 (by omega) (by omega), Option.bind_some]
    simp [h]
  · rw [cdf (by omega)]
    simp [h]

theorem l28Good_eq (w : List Int) : spec_l28Good w = some (isWord w, ()) := by
  unfold spec_l28Good spec_l28Good_s isWord
  by_cases h : w.length ≤ 40
  · rw [cdt (by omega), show (0 : Int) = ((0 : Nat) : Int) from rfl, l28End_eq w 0 (by omega) (by omega), Option.bind_some]
    by_cases he : wEnd w 0 = w.length
    · rw [cdt he]
      have : 0 < w.length := by
        rcases Nat.eq_zero_or_pos w.length with h0 | h0
        · have : w = [] := List.eq_nil_of_length_eq_zero h0
          subst this
          simp [wEnd, we] at he
        · exact h0
      simp [h, he]; omega
    · rw [cdf he]; simp [h, he]
  · rw [cdf (by omega)]
    simp [h]

theorem we_shift : ∀ (s : List Int) (n c d : Nat), we s n (c + d) = (we s n c).map (· + d)
  | s, 0, c, d => by simp [we_zero]
  | [], n + 1, c, d => by simp [we]
  | x :: xs, n + 1, c, d => by
    simp only [we]
    rw [show c + d + 1 = (c + 1) + d by omega, we_shift xs n (c + 1) d, we_shift xs (n + 2) (c + 1) d]
    split
    · rfl
    · split <;> rfl

theorem isWord_iff (w : List Int) : isWord w = true ↔ w.length ≤ 40 ∧ we w 1 0 = some w.length := by
  unfold isWord wEnd
  simp only [List.drop_zero, Bool.and_eq_true, decide_eq_true_eq]
  refine and_congr Iff.rfl ?_
  cases h : we w 1 0 with
  | none => simp
  | some e => simp; omega

theorem we_split : ∀ (xs : List Int) (n m c E : Nat), we xs (n + m) c = some E → ∃ e, we xs n c = some e ∧ c ≤ e ∧ e - c ≤ xs.length ∧ we (xs.drop (e - c)) m e = some E
  | xs, 0, m, c, E, h => ⟨c, we_zero xs c, by omega, by omega, by simpa using h⟩
  | [], n + 1, m, c, E, h => by
    rw [show n + 1 + m = (n + m) + 1 by omega] at h
    simp [we] at h
  | x :: xs, n + 1, m, c, E, h => by
    rw [show n + 1 + m = (n + m) + 1 by omega] at h
    simp only [we] at h ⊢
    split at h
    · cases h
    rename_i hx
    rw [if_neg hx]
    split at h
    · rename_i h0
      obtain ⟨e, h1, h2, h3, h4⟩ := we_split xs n m (c + 1) E h
      rw [if_pos h0]
      refine ⟨e, h1, by omega, by simp; omega, ?_⟩
      rw [show e - c = (e - (c + 1)) + 1 by omega, List.drop_succ_cons]
      exact h4
    · rename_i h0
      rw [show n + m + 2 = (n + 2) + m by omega] at h
      obtain ⟨e, h1, h2, h3, h4⟩ := we_split xs (n + 2) m (c + 1) E h
      rw [if_neg h0]
      refine ⟨e, h1, by omega, by simp; omega, ?_⟩
      rw [show e - c = (e - (c + 1)) + 1 by omega, List.drop_succ_cons]
      exact h4

theorem we_le : ∀ (xs : List Int) (n c e : Nat), we xs n c = some e → c ≤ e
  | xs, 0, c, e, h => by rw [we_zero] at h; cases h; omega
  | [], n + 1, c, e, h => by simp [we] at h
  | x :: xs, n + 1, c, e, h => by
    simp only [we] at h
    split at h
    · cases h
    split at h
    · have := we_le xs n (c + 1) e h; omega
    · have := we_le xs (n + 2) (c + 1) e h; omega

theorem we_take : ∀ (xs : List Int) (n c e : Nat), we xs n c = some e → we (xs.take (e - c)) n c = some e
  | xs, 0, c, e, h => by rw [we_zero] at h ⊢; exact h
  | [], n + 1, c, e, h => by simp [we] at h
  | x :: xs, n + 1, c, e, h => by
    simp only [we] at h
    split at h
    · cases h
    rename_i hx
    split at h
    · rename_i h0
      have h1 := we_le xs n (c + 1) e h
      rw [show e - c = (e - (c + 1)) + 1 by omega, List.take_succ_cons]
      simp only [we]
      rw [if_neg hx, if_pos h0]
      exact we_take xs n (c + 1) e h
    · rename_i h0
      have h1 := we_le xs (n + 2) (c + 1) e h
      rw [show e - c = (e - (c + 1)) + 1 by omega, List.take_succ_cons]
      simp only [we]
      rw [if_neg hx, if_neg h0]
      exact we_take xs (n + 2) (c + 1) e h

theorem we_back {s : List Int} {c : Nat} (h : we s 1 c = some (c + s.length)) : we s 1 0 = some s.length := by
  have := we_shift s 1 0 c
  rw [Nat.zero_add, h] at this
  cases hw : we s 1 0 with
  | none => rw [hw] at this; cases this
  | some e =>
    rw [hw] at this
    simp only [Option.map_some, Option.some.injEq] at this
    congr 1
    omega

theorem parts_eq {x : Int} {xs : List Int} {e : Nat} (hb : xs.length ≤ 1000000) (h : we xs 1 1 = some e) (h2 : e - 1 ≤ xs.length) :
    spec_l28Parts (x :: xs) = some ((xs.take (e - 1), xs.drop (e - 1), ()), ()) ∧ impl_partsOf (x :: xs) = some ((xs.take (e - 1), xs.drop (e - 1), ()), ()) := by
  have he := we_le _ _ _ _ h
  have hw : wEnd (x :: xs) 1 = (e : Int) := by
    unfold wEnd
    simp only [List.drop_succ_cons, List.drop_zero, h]
  have s1 : slI (x :: xs) ((1 : Nat) : Int) (e : Int) = some (xs.take (e - 1)) := by
    have := slI_nat (x :: xs) 1 e (by omega) (by simp; omega)
    rw [this]
    simp
  have s2 : slI (x :: xs) (e : Int) ((x :: xs).length : Int) = some (xs.drop (e - 1)) := by
    have := slI_nat (x :: xs) e (x :: xs).length (by simp; omega) (by simp)
    rw [this]
    rw [List.take_of_length_le (by simp)]
    rw [show e = (e - 1) + 1 by omega, List.drop_succ_cons]
    simp
  constructor
  · unfold spec_l28Parts spec_l28Parts_s
    rw [show (1 : Int) = ((1 : Nat) : Int) from rfl, l28End_eq _ 1 (by simp) (by simp; omega), Option.bind_some, hw]
    rw [s1, Option.bind_some, s2, Option.bind_some]
  · unfold impl_partsOf impl_partsOf_s
    rw [show (1 : Int) = ((1 : Nat) : Int) from rfl, wordEnd_eq _ 1 (by simp) (by simp; omega), Option.bind_some, hw]
    rw [s1, Option.bind_some, s2, Option.bind_some]

theorem l2Elements_eq (n : Nat) (s : List Int) (hn : n ≤ 1099511627776) (hs : s.length ≤ 4294967296) : spec_l2Elements big (n : Int) s = some (s.all (inB n), ()) := by
  unfold spec_l2Elements spec_l2Elements_s
  refine spec_l2Elements_h2 s.length (fun i => (s.take i).all (inB n) = true) (by omega) ?_ ?_ 0 (by omega) rfl
  · intro rc i hi hv ih
    unfold spec_l2Elements_b2
    have e : decide (0 ≤ s[i] ∧ s[i] ≤ (n : Int) - 1) = inB n s[i] := by
      unfold inB; exact decide_eq_decide.2 (by omega)
    rw [cdt (by omega), atI_lt s i hi, Option.bind_some, wr (n := (n : Int) - 1) (by omega) (by omega), l1In_eq, Option.bind_some, e, wr1 (by omega)]
    cases h : inB n s[i] with
    | true => exact ih (by rw [all_take hi, hv, h]; rfl)
    | false =>
      have : s.all (inB n) = false := List.all_eq_false.2 ⟨_, List.getElem_mem hi, by simp [h]⟩
      rw [this]; rfl
  · intro rc hv
    rw [List.take_length] at hv
    unfold spec_l2Elements_b2
    rw [cdf (by omega), spec_l2Elements_a2, hv]

def Adj (n m : Nat) (le le' : Nat → Nat → Bool) (f g : List Nat) : Prop := ∀ x y, x < n → y < m → le' (f.getD x 0) y = le x (g.getD y 0)

theorem implAdj_eq {n m : Nat} {le le' : Nat → Nat → Bool} (hn : n ≤ 1048576) (hm : m ≤ 1048576) {f g : List Nat} (hf : f.length = n) (hg : g.length = m) (hf2 : ∀ x ∈ f, x < m) (hg2 : ∀ x ∈ g, x < n) :
    impl_adjoint big (mkT n le) (mkT m le') (cs f) (cs g) = some (tv (Adj n m le le' f g), ()) := by
  unfold impl_adjoint impl_adjoint_s
  rw [mkR_len]
  refine impl_adjoint_h2 n (fun i => ∀ x, x < i → ∀ y, y < m → le' (f.getD x 0) y = le x (g.getD y 0)) (by omega) ?_ ?_ 0 (by omega) (by intro x hx; omega)
  · intro rc i hi hv ih
    have hif : i < f.length := by omega
    have hfi := hf2 _ (List.getElem_mem hif)
    have ef : f.getD i 0 = f[i] := by rw [List.getD_eq_getElem?_getD, List.getElem?_eq_getElem hif]; rfl
    unfold impl_adjoint_b2
    rw [cdt (by omega), mkR_len]
    refine impl_adjoint_h5 m (fun j => ∀ y, y < j → le' (f.getD i 0) y = le i (g.getD y 0)) (by omega) ?_ ?_ 0 (by omega) (by intro x hx; omega)
    · intro rc2 j hj hv2 ih2
      have hjg : j < g.length := by omega
      have hgj := hg2 _ (List.getElem_mem hjg)
      have eg : g.getD j 0 = g[j] := by rw [List.getD_eq_getElem?_getD, List.getElem?_eq_getElem hjg]; rfl
      unfold impl_adjoint_b5
      simp only [cdt (show (j : Int) < (m : Int) by omega), atI_cs hif, atI_cs hjg, Option.bind_some, atI_mkR hfi, atI_mkR hj, atI_mkR hi, atI_mkR hgj, wr1 (show j ≤ 4611686018427387904 by omega)]
      by_cases e : le' f[i] j = le i g[j]
      · rw [show (le' f[i] j != le i g[j]) = false by simp [e], cond_false]
        exact ih2 (all_lt_succ.2 ⟨hv2, by rw [ef, eg]; exact e⟩)
      · rw [show (le' f[i] j != le i g[j]) = true by simpa using e, cond_true, tv_f fun h => e (by have := h i j hi hj; rw [ef, eg] at this; exact this)]
    · intro rc2 hv2
      unfold impl_adjoint_b5
      rw [cdf (by omega), impl_adjoint_a5, wr1 (by omega)]
      exact ih (all_lt_succ.2 ⟨hv, hv2⟩)
  · intro rc hv
    unfold impl_adjoint_b2
    rw [cdf (by omega), impl_adjoint_a2, tv_t (P := Adj n m le le' f g) fun x y hx hy => hv x hx y hy]

theorem specAdj_eq {n m : Nat} {le le' : Nat → Nat → Bool} (hn : n ≤ 1048576) (hm : m ≤ 1048576) {f g : List Nat} (hf : f.length = n) (hg : g.length = m) (hf2 : ∀ x ∈ f, x < m) (hg2 : ∀ x ∈ g, x < n) :
    spec_l30Adjoint big (pos n le) (pos m le') (cs f) (cs g) = some (tv (Adj n m le le' f g), ()) := by
  unfold spec_l30Adjoint spec_l30Adjoint_s
  refine spec_l30Adjoint_h2 n (fun i => ∀ x, x < i → ∀ y, y < m → le' (f.getD x 0) y = le x (g.getD y 0)) (by omega) ?_ ?_ 0 (by omega) (by intro x hx; omega)
  · intro rc i hi hv ih
    have hif : i < f.length := by omega
    have hfi := hf2 _ (List.getElem_mem hif)
    have ef : f.getD i 0 = f[i] := by rw [List.getD_eq_getElem?_getD, List.getElem?_eq_getElem hif]; rfl
    unfold spec_l30Adjoint_b2
    rw [cs_len, cdt (by omega)]
    refine spec_l30Adjoint_h5 m (fun j => ∀ y, y < j → le' (f.getD i 0) y = le i (g.getD y 0)) (by omega) ?_ ?_ 0 (by omega) (by intro x hx; omega)
    · intro rc2 j hj hv2 ih2
      have hjg : j < g.length := by omega
      have hgj := hg2 _ (List.getElem_mem hjg)
      have eg : g.getD j 0 = g[j] := by rw [List.getD_eq_getElem?_getD, List.getElem?_eq_getElem hjg]; rfl
      unfold spec_l30Adjoint_b5
      simp only [cs_len, cdt (show (j : Int) < (g.length : Int) by omega), atI_cs hif, atI_cs hjg, Option.bind_some, l23Leq_pos (le := le') (show m ≤ 4294967296 by omega) hfi hj, l23Leq_pos (le := le) (show n ≤ 4294967296 by omega) hi hgj, wr1 (show j ≤ 4611686018427387904 by omega)]
      by_cases e : le' f[i] j = le i g[j]
      · rw [show (le' f[i] j != le i g[j]) = false by simp [e], cond_false]
        exact ih2 (all_lt_succ.2 ⟨hv2, by rw [ef, eg]; exact e⟩)
      · rw [show (le' f[i] j != le i g[j]) = true by simpa using e, cond_true, tv_f fun h => e (by have := h i j hi hj; rw [ef, eg] at this; exact this)]
    · intro rc2 hv2
      unfold spec_l30Adjoint_b5
      rw [cs_len, cdf (by omega), spec_l30Adjoint_a5, wr1 (by omega)]
      exact ih (all_lt_succ.2 ⟨hv, hv2⟩)
  · intro rc hv
    unfold spec_l30Adjoint_b2
    rw [cs_len, cdf (by omega), spec_l30Adjoint_a2, tv_t (P := Adj n m le le' f g) fun x y hx hy => hv x hx y hy]

theorem ord_cases {p : PT} (hx : ∀ r ∈ p.1, r.length ≤ 4294967296) : (∃ n le, p = pos n le ∧ n ≤ 10 ∧ Ord n le ∧ spec_l23Good big p = some (true, ()) ∧ impl_orderOf big p = some ((mkT n le, true, ()), ())) ∨
    (spec_l23Good big p = some (false, ()) ∧ ∃ T, impl_orderOf big p = some ((T, false, ()), ())) := by
  by_cases h : Good p
  · refine .inl ⟨p.1.length, leP p, h.form, h.len, h.ord, by rw [specPoset_eq p hx, tv_t h], ?_⟩
    have := orderOf_pos h.len h.ord
    rw [← h.form] at this
    exact this
  · exact .inr ⟨by rw [specPoset_eq p hx, tv_f h], orderOf_no p hx h⟩

theorem adjoint_eq (p q : PT) (f g : List Int) (hp : ∀ r ∈ p.1, r.length ≤ 4294967296) (hq : ∀ r ∈ q.1, r.length ≤ 4294967296) (hf : f.length ≤ 1048576) (hg : g.length ≤ 1048576) :
    ∃ v : Bool × Bool × Unit, spec_IsAdjointPair p q f g = some (v, ()) ∧ impl_IsAdjointPair p q f g = some (v, ()) := by
  unfold spec_IsAdjointPair spec_IsAdjointPair_s spec_l30Map spec_l30Map_s impl_IsAdjointPair impl_IsAdjointPair_s impl_twoOrders impl_twoOrders_s impl_isPosetMap impl_isPosetMap_s
  rcases ord_cases hp with ⟨n, le, e, h10, ho, h1, h2⟩ | ⟨h1, T, h2⟩
  · rcases ord_cases hq with ⟨m, le', e', h10', ho', h1', h2'⟩ | ⟨h1', T, h2'⟩
    · rw [h1, h2, h1', h2']
      subst e; subst e'
      simp only [Option.bind_some, cond_true, Bool.not_true, cond_false, mkR_len, pos_len]
      by_cases hfl : f.length = n
      · simp only [cdt (show (f.length : Int) = (n : Int) by omega), l2Elements_eq m f (show m ≤ 1099511627776 by omega) (show f.length ≤ 4294967296 by omega), has_eq f (show f.length ≤ 4294967296 by omega), Option.bind_some]
        cases hfa : f.all (inB m) with
        | false => exact ⟨_, rfl, rfl⟩
        | true =>
          simp only [Bool.not_true, cond_false]
          by_cases hgl : g.length = m
          · simp only [cdt (show (g.length : Int) = (m : Int) by omega), l2Elements_eq n g (show n ≤ 1099511627776 by omega) (show g.length ≤ 4294967296 by omega), has_eq g (show g.length ≤ 4294967296 by omega), Option.bind_some]
            cases hga : g.all (inB n) with
            | false => exact ⟨_, rfl, rfl⟩
            | true =>
              simp only [Bool.not_true, cond_false]
              obtain ⟨F, e1, hF⟩ := allB_form hfa
              obtain ⟨G, e2, hG⟩ := allB_form hga
              subst e1; subst e2
              rw [cs_len] at hfl hgl
              rw [implAdj_eq (by omega) (by omega) hfl hgl hF hG, specAdj_eq (by omega) (by omega) hfl hgl hF hG]
              exact ⟨_, rfl, rfl⟩
          · simp only [cdf (show ¬ (g.length : Int) = (m : Int) by omega)]
            exact ⟨_, rfl, rfl⟩
      · simp only [cdf (show ¬ (f.length : Int) = (n : Int) by omega)]
        exact ⟨_, rfl, rfl⟩
    · rw [h1, h2, h1', h2']
      exact ⟨_, rfl, rfl⟩
  · rcases ord_cases hq with ⟨m, le', e', h10', ho', h1', h2'⟩ | ⟨h1', T', h2'⟩
    · rw [h1, h2, h2']
      exact ⟨_, rfl, rfl⟩
    · rw [h1, h2, h2']
      exact ⟨_, rfl, rfl⟩

theorem true_IsAdjointPair (p q : PT) (f g : List Int) (hw : Wf (.pair (.pair (.sl (.sl I)) .unit) (.pair (.pair (.sl (.sl I)) .unit) (.pair (.sl I) (.pair (.sl I) .unit)))) (p, q, f, g, ())) : laws_FnExactIsAdjointPair p q f g = some (true, ()) := by
  unfold laws_FnExactIsAdjointPair laws_FnExactIsAdjointPair_s
  by_cases hf : f.length ≤ 1048576
  · by_cases hg : g.length ≤ 1048576
    · obtain ⟨v, hv, hv1, hv2⟩ := szPoset_eq p 1048576 hw.1 (by omega) (by omega)
      rw [cdf (by omega), cdf (by omega), hv, Option.bind_some]
      by_cases h : v < 0
      · rw [cdt h]
      · have hs := hv2 (by omega)
        obtain ⟨u, hu, hu1, hu2⟩ := szPoset_eq q v hw.2.1 (by omega) (by omega)
        rw [cdf h, hu, Option.bind_some]
        by_cases h3 : u < 0
        · rw [cdt h3]
        · have hs2 := hu2 (by omega)
          obtain ⟨r, h1, h2⟩ := adjoint_eq p q f g hs.rows hs2.rows hf hg
          simp only [cdf h3, toPoset_eq hs, toPoset_eq hs2, toIntS_eq f (show f.length ≤ 4294967296 by omega), toIntS_eq g (show g.length ≤ 4294967296 by omega), Option.bind_some, h1, h2, eqPoset_eq hs, eqPoset_eq hs2, eqIntS_eq f f (show f.length ≤ 1099511627775 by omega), eqIntS_eq g g (show g.length ≤ 1099511627775 by omega)]
          simp
    · rw [cdf (by omega), cdt (by omega)]
  · rw [cdt (by omega)]

theorem value_ok {n : Nat} {le : Nat → Nat → Bool} (h : LatP n le) {E : List Nat} (hE : ∀ x ∈ E, x < n) (hE5 : E.length = 5) : ∀ (b : Nat) (w : List Int), w.length ≤ b → b ≤ 1000 → we w 1 0 = some w.length →
    ∃ k : Nat, k < n ∧ ∀ d, b < d → R_spec_l28Value d (pos n le, w, cs E, ()) = some ((k : Int), ()) ∧ R_impl_lattice_wordValue d (some (lat n le), w, cs E, ()) = some ((k : Int), ())
  | b, [], _, _, hw => by simp [we] at hw
  | 0, x :: xs, hl, _, _ => by simp at hl
  | b + 1, x :: xs, hl, hb, hw => by
    simp only [List.length_cons] at hl hw
    simp only [we] at hw
    split at hw
    · cases hw
    · rename_i hr
      have a0 : atI (x :: xs) (0 : Int) = some x := rfl
      by_cases hx : 0 ≤ x
      · rw [if_pos hx] at hw
        have hxn : x.toNat < E.length := by omega
        have ex : x = ((x.toNat : Nat) : Int) := by omega
        refine ⟨E[x.toNat], hE _ (List.getElem_mem hxn), fun d hd => ?_⟩
        obtain ⟨d, rfl⟩ : ∃ q, d = q + 1 := ⟨d - 1, by omega⟩
        have ae : atI (cs E) x = some ((E[x.toNat] : Nat) : Int) := by
          have := atI_cs hxn
          rw [← ex] at this
          exact this
        constructor
        · simp only [R_spec_l28Value, spec_l28Value, spec_l28Value_s, a0, Option.bind_some, cdt hx, ae]
        · simp only [R_impl_lattice_wordValue, impl_lattice_wordValue, impl_lattice_wordValue_s, a0, Option.bind_some, cdt hx, ae]
      · rw [if_neg hx] at hw
        obtain ⟨e, h1, h2, h3, h4⟩ := we_split xs 1 1 1 _ hw
        obtain ⟨p1, p2⟩ := parts_eq (x := x) (by omega) h1 h3
        have ht := we_take xs 1 1 e h1
        have l1 : (xs.take (e - 1)).length = e - 1 := by simp; omega
        have l2 : (xs.drop (e - 1)).length = xs.length - (e - 1) := by simp
        have w1 : we (xs.take (e - 1)) 1 0 = some (xs.take (e - 1)).length := we_back (c := 1) (by rw [ht, l1]; congr 1; omega)
        have w2 : we (xs.drop (e - 1)) 1 0 = some (xs.drop (e - 1)).length := we_back (c := e) (by rw [h4, l2]; congr 1; omega)
        obtain ⟨k1, hk1, q1⟩ := value_ok h hE hE5 b (xs.take (e - 1)) (by omega) (by omega) w1
        obtain ⟨k2, hk2, q2⟩ := value_ok h hE hE5 b (xs.drop (e - 1)) (by omega) (by omega) w2
        by_cases hm : x = -1
        · refine ⟨mt n le k1 k2, h.mlt hk1 hk2, fun d hd => ?_⟩
          obtain ⟨d, rfl⟩ : ∃ q, d = q + 1 := ⟨d - 1, by omega⟩
          constructor
          · simp only [R_spec_l28Value, spec_l28Value, spec_l28Value_s, a0, Option.bind_some, cdf hx, p1, (q1 d (by omega)).1, (q2 d (by omega)).1, cdt hm, l24Meet_eq h hk1 hk2]
          · simp only [R_impl_lattice_wordValue, impl_lattice_wordValue, impl_lattice_wordValue_s, a0, Option.bind_some, cdf hx, p2, (q1 d (by omega)).2, (q2 d (by omega)).2, cdt hm, lat2, atI_mkR hk1, atI_mkR hk2]
        · refine ⟨mt n (Ytbegnofapodldaa.du le) k1 k2, h.du.mlt hk1 hk2, fun d hd => ?_⟩
          obtain ⟨d, rfl⟩ : ∃ q, d = q + 1 := ⟨d - 1, by omega⟩
          constructor
          · simp only [R_spec_l28Value, spec_l28Value, spec_l28Value_s, a0, Option.bind_some, cdf hx, p1, (q1 d (by omega)).1, (q2 d (by omega)).1, cdf hm, l24Join_eq h hk1 hk2]
          · simp only [R_impl_lattice_wordValue, impl_lattice_wordValue, impl_lattice_wordValue_s, a0, Option.bind_some, cdf hx, p2, (q1 d (by omega)).2, (q2 d (by omega)).2, cdf hm, lat3, atI_mkR hk1, atI_mkR hk2]

theorem wordValue_eq (p : PT) (w E : List Int) (hp : ∀ r ∈ p.1, r.length ≤ 4294967296) (hE : E.length ≤ 1048576) :
    ∃ v : Int × Bool × Unit, spec_WordValue p w E = some (v, ()) ∧ impl_WordValue p w E = some (v, ()) := by
  have hbig := big_ge
  unfold spec_WordValue spec_WordValue_s impl_WordValue impl_WordValue_s
  rw [l28Good_eq, Option.bind_some]
  rcases lat_cases hp with ⟨n, le, e, h, h1, h2⟩ | ⟨h1, l, h2⟩
  · subst e
    have h10 := h.le10
    rw [h1, h2, Option.bind_some, Option.bind_some, Bool.not_true, cond_false, cond_false, implIsWord_eq, Option.bind_some]
    cases hw : isWord w with
    | false => exact ⟨_, rfl, rfl⟩
    | true =>
      simp only [Bool.not_true, cond_false, pos_len]
      by_cases h5 : E.length = 5
      · rw [cdf (by omega), cdf (by omega), l2Elements_eq n E (by omega) (by omega), Option.bind_some, Option.bind_some, lat1, has_eq E (by omega), Option.bind_some]
        cases ha : E.all (inB n) with
        | false => exact ⟨_, rfl, rfl⟩
        | true =>
          obtain ⟨F, e1, hF⟩ := allB_form ha
          subst e1
          rw [cs_len] at h5
          obtain ⟨hw1, hw2⟩ := (isWord_iff w).1 hw
          obtain ⟨k, hk, hd⟩ := value_ok h hF h5 w.length w (by omega) (by omega) hw2
          simp only [Bool.not_true, cond_false]
          rw [(hd big (by omega)).1, (hd big (by omega)).2]
          exact ⟨_, rfl, rfl⟩
      · rw [cdt (by omega), cdt (by omega)]
        exact ⟨_, rfl, rfl⟩
  · rw [h1, h2]
    cases isWord w
    · exact ⟨_, rfl, rfl⟩
    · exact ⟨_, rfl, rfl⟩

theorem true_WordValue (p : PT) (w E : List Int) (hw : Wf (.pair (.pair (.sl (.sl I)) .unit) (.pair (.sl I) (.pair (.sl I) .unit))) (p, w, E, ())) : laws_FnExactWordValue p w E = some (true, ()) := by
  unfold laws_FnExactWordValue laws_FnExactWordValue_s
  by_cases hf : w.length ≤ 1048576
  · by_cases hg : E.length ≤ 1048576
    · obtain ⟨v, hv, hv1, hv2⟩ := szPoset_eq p 1048576 hw.1 (by omega) (by omega)
      rw [cdf (by omega), cdf (by omega), hv, Option.bind_some]
      by_cases h : v < 0
      · rw [cdt h]
      · have hs := hv2 (by omega)
        obtain ⟨r, h1, h2⟩ := wordValue_eq p w E hs.rows hg
        simp only [cdf h, toPoset_eq hs, toIntS_eq w (show w.length ≤ 4294967296 by omega), toIntS_eq E (show E.length ≤ 4294967296 by omega), Option.bind_some, h1, h2, eqPoset_eq hs, eqIntS_eq w w (show w.length ≤ 1099511627775 by omega), eqIntS_eq E E (show E.length ≤ 1099511627775 by omega)]
        simp
    · rw [cdf (by omega), cdt (by omega)]
  · rw [cdt (by omega)]

end Go.Proofs.Ytbegnofapodldaa
