import Derived.Test.YtmpeokbbmicdgaaPTab
import Derived.Test.YtmpeokbbmicdgaaHA
import Derived.KernelRfl
set_option linter.unusedVariables false
set_option linter.unusedSimpArgs false
namespace Go.Proofs.Ytmpeokbbmicdgaa
open Go Go.Gx Go.Proofs

theorem toIntS_l (N : Nat) (k : List Int → Option (List Int × Unit)) : ∀ (n : Nat) (a out : List Int) (i : Nat), a.length - i < n → i ≤ a.length → out.length = a.length → a.length ≤ 1099511627776 →
    laws_toIntS_l3 N k n a out i = k (out.take i ++ a.drop i)
  | 0, _, _, _, h, _, _, _ => by omega
  | n + 1, a, out, i, h, hi, ho, hb => by
    simp only [laws_toIntS_l3, laws_toIntS_b3]
    by_cases hlt : i < a.length
    · rw [cdt (by omega), atI_lt a i hlt, Option.bind_some, atI_lt out i (by omega), Option.bind_some, Int.toNat_natCast, List.getElem?_eq_getElem (by omega), Option.bind_some, wr (by omega) (by omega)]
      have := toIntS_l N k n a (out.set i a[i]) (i + 1) (by omega) (by omega) (by simpa using ho) hb
      rw [show ((i : Int) + 1) = ((i + 1 : Nat) : Int) by omega, this]
      congr 1
      rw [List.take_succ_eq_append_getElem (by simp; omega), List.take_set, List.set_eq_of_length_le (by simp [Nat.min_le_left]), List.append_assoc]
      congr 1
      rw [List.getElem_set_self, List.singleton_append, ← List.drop_eq_getElem_cons hlt]
    · rw [cdf (by omega)]
      have : i = a.length := by omega
      subst this
      rw [List.drop_length, List.append_nil, List.take_of_length_le (by omega)]

theorem toIntS_eq (a : List Int) (h : a.length ≤ 4294967296) : laws_toIntS big a = some (a, ()) := by
  have hb := big_ge
  unfold laws_toIntS laws_toIntS_s
  rw [mkI_nat _ _ h, Option.bind_some, Option.bind_some, cdt (by omega)]
  unfold laws_toIntS_F3
  have := toIntS_l big laws_toIntS_a3 big a (List.replicate a.length 0) 0 (by omega) (by omega) (by simp) (by omega)
  refine Eq.trans this ?_
  simp [laws_toIntS_a3]

theorem eqIntS_l (N : Nat) (k : Option (Bool × Unit)) : ∀ (n : Nat) (a b : List Int) (i : Nat), a.length - i < n → i ≤ a.length → b.length = a.length → a.length ≤ 1099511627776 →
    laws_eqIntS_l4 N k n a b i = if a.drop i = b.drop i then k else some (false, ())
  | 0, _, _, _, h, _, _, _ => by omega
  | n + 1, a, b, i, h, hi, hl, hb => by
    simp only [laws_eqIntS_l4, laws_eqIntS_b4]
    by_cases hlt : i < a.length
    · rw [cdt (by omega), atI_lt a i hlt, Option.bind_some, atI_lt b i (by omega), Option.bind_some, wr (by omega) (by omega)]
      have := eqIntS_l N k n a b (i + 1) (by omega) (by omega) hl hb
      rw [show ((i : Int) + 1) = ((i + 1 : Nat) : Int) by omega, this]
      rw [List.drop_eq_getElem_cons hlt, List.drop_eq_getElem_cons (show i < b.length by omega)]
      by_cases hx : a[i] = b[i]
      · rw [cdf (by simpa using hx), hx]; simp only [List.cons.injEq, true_and]
      · rw [cdt hx, if_neg (fun e => hx (by simp only [List.cons.injEq] at e; exact e.1))]
    · rw [cdf (by omega), List.drop_eq_nil_of_le (by omega), List.drop_eq_nil_of_le (by omega)]
      simp

theorem eqIntS_eq (a b : List Int) (h : a.length ≤ 1099511627775) : laws_eqIntS big a b = some (decide (a = b), ()) := by
  have hb := big_ge
  unfold laws_eqIntS laws_eqIntS_s
  by_cases hl : a.length = b.length
  · rw [cdf (by simp [hl])]
    unfold laws_eqIntS_F4
    have := eqIntS_l big laws_eqIntS_a4 big a b 0 (by omega) (by omega) (by omega) (by omega)
    rw [show (0 : Int) = ((0 : Nat) : Int) from rfl, this]
    simp only [List.drop_zero, laws_eqIntS_a4]
    by_cases he : a = b <;> simp [he]
  · rw [cdt (by omega)]
    have : a ≠ b := by rintro rfl; exact hl rfl
    simp [this]

def we : List Int → Nat → Nat → Option Nat
  | _, 0, c => some c
  | [], _ + 1, _ => none
  | x :: xs, n + 1, c => if x < -2 ∨ 5 ≤ x then none else if 0 ≤ x then we xs n (c + 1) else we xs (n + 2) (c + 1)

theorem we_zero (xs : List Int) (c : Nat) : we xs 0 c = some c := by cases xs <;> rfl

def wEnd (w : List Int) (i : Nat) : Int := match we (w.drop i) 1 i with
  | some e => e
  | none => -1

theorem wordEnd_l (N : Nat) (k : Int → Option (Int × Unit)) : ∀ (n : Nat) (w : List Int) (i need : Nat), w.length - i + 1 < n → i ≤ w.length → need + (w.length - i) ≤ 4611686018427387904 → w.length ≤ 4611686018427387904 →
    impl_wordEnd_l2 N k n w i need = match we (w.drop i) need i with | some e => k e | none => some (-1, ())
  | 0, _, _, _, h, _, _, _ => by omega
  | n + 1, w, i, need, h, hi, hn, hb => by
    simp only [impl_wordEnd_l2, impl_wordEnd_b2]
    cases need with
    | zero => rw [cdf (by omega), we_zero]
    | succ need =>
      rw [cdt (by omega)]
      by_cases hlt : i < w.length
      · rw [cdf (by omega), atI_lt w i hlt, Option.bind_some, Option.bind_some, Option.bind_some, wr (n := (i : Int) + 1) (by omega) (by omega), wr (n := ((need + 1 : Nat) : Int) - 1) (by omega) (by omega), wr (n := ((need + 1 : Nat) : Int) + 1) (by omega) (by omega)]
        have h1 := wordEnd_l N k n w (i + 1) need (by omega) (by omega) (by omega) hb
        have h2 := wordEnd_l N k n w (i + 1) (need + 2) (by omega) (by omega) (by omega) hb
        rw [show ((i : Int) + 1) = ((i + 1 : Nat) : Int) by omega, show (((need + 1 : Nat) : Int) - 1) = (need : Int) by omega, show (((need + 1 : Nat) : Int) + 1) = ((need + 2 : Nat) : Int) by omega, h1, h2]
        rw [List.drop_eq_getElem_cons hlt]
        simp only [we]
        by_cases c1 : w[i] < -2
        · rw [cdt c1, if_pos (.inl c1)]
        · rw [cdf c1]
          by_cases c2 : 5 ≤ w[i]
          · rw [cdt c2, if_pos (.inr c2)]
          · rw [cdf c2, if_neg (by omega)]
            by_cases c3 : 0 ≤ w[i]
            · rw [cdt c3, if_pos c3]
            · rw [cdf c3, if_neg c3]
      · rw [cdt (by omega), List.drop_eq_nil_of_le (by omega)]
        rfl

theorem wordEnd_eq (w : List Int) (i : Nat) (hi : i ≤ w.length) (hb : w.length ≤ 1000000000) : impl_wordEnd big w i = some (wEnd w i, ()) := by
  have hg := big_ge
  unfold impl_wordEnd impl_wordEnd_s impl_wordEnd_F2
  have := wordEnd_l big impl_wordEnd_a2 big w i 1 (by omega) hi (by omega) (by omega)
  rw [show (1 : Int) = ((1 : Nat) : Int) from rfl, this]
  unfold wEnd
  cases we (w.drop i) 1 i <;> rfl

theorem l1In_eq (x a b : Int) : spec_l1In x a b = some (decide (a ≤ x ∧ x ≤ b), ()) := by
  unfold spec_l1In spec_l1In_s
  by_cases h : a ≤ x <;> simp [h]

theorem l28End_l (N : Nat) : ∀ (n : Nat) (w : List Int) (i o : Nat), w.length - i < n → i ≤ w.length → o + 1 + (w.length - i) ≤ 4611686018427387904 → w.length ≤ 4611686018427387904 →
    spec_l28End_l3 N spec_l28End_a3 n w ((o + 1 : Nat) : Int) i = some (match we (w.drop i) (o + 1) i with | some e => e | none => -1, ())
  | 0, _, _, _, h, _, _, _ => by omega
  | n + 1, w, i, o, h, hi, hn, hb => by
    simp only [spec_l28End_l3, spec_l28End_b3]
    by_cases hlt : i < w.length
    · rw [cdt (by omega), atI_lt w i hlt]
      simp only [Option.bind_some, l1In_eq]
      rw [wr (n := (i : Int) + 1) (by omega) (by omega), wr (n := ((o + 1 : Nat) : Int) - 1) (by omega) (by omega), wr (n := ((o + 1 : Nat) : Int) + 1) (by omega) (by omega)]
      have h2 := l28End_l N n w (i + 1) (o + 1) (by omega) (by omega) (by omega) hb
      rw [show ((i : Int) + 1) = ((i + 1 : Nat) : Int) by omega, show (((o + 1 : Nat) : Int) + 1) = ((o + 1 + 1 : Nat) : Int) by omega, h2]
      rw [List.drop_eq_getElem_cons hlt]
      simp only [we]
      rw [cdf (show ¬ (((o + 1 + 1 : Nat) : Int) = 0) by omega)]
      by_cases c1 : w[i] = -1
      · rw [cdt c1, if_neg (by omega), if_neg (by omega)]
      · rw [cdf c1]
        by_cases c2 : w[i] = -2
        · rw [cdt c2, if_neg (by omega), if_neg (by omega)]
        · rw [cdf c2]
          by_cases c3 : 0 ≤ w[i] ∧ w[i] ≤ 4
          · rw [cdt c3, if_neg (by omega), if_pos c3.1]
            cases o with
            | zero => rw [cdt (by omega), we_zero]
            | succ o =>
              have h1 := l28End_l N n w (i + 1) o (by omega) (by omega) (by omega) hb
              rw [cdf (by omega), show (((o + 1 + 1 : Nat) : Int) - 1) = ((o + 1 : Nat) : Int) by omega, h1]
          · rw [cdf c3, if_pos (by omega)]
    · rw [cdf (by omega), List.drop_eq_nil_of_le (by omega)]
      rfl

theorem l28End_eq (w : List Int) (i : Nat) (hi : i ≤ w.length) (hb : w.length ≤ 1000000000) : spec_l28End big w i = some (wEnd w i, ()) := by
  have hg := big_ge
  unfold spec_l28End spec_l28End_s spec_l28End_F3
  have := l28End_l big big w i 0 (by omega) hi (by omega) (by omega)
  rw [show (1 : Int) = ((0 + 1 : Nat) : Int) from rfl, this]
  rfl

def isWord (w : List Int) : Bool := decide (w.length ≤ 40) && decide (wEnd w 0 = w.length)

theorem implIsWord_eq (w : List Int) : impl_IsWord w = some (isWord w, ()) := by
  unfold impl_IsWord impl_IsWord_s isWord
  by_cases h : w.length ≤ 40
  · rw [cdt (by omega), show (0 : Int) = ((0 : Nat) : Int) from rfl, wordEnd_eq w 0 (by omega) (by omega), Option.bind_some]
    simp [h]
  · rw [cdf (by omega)]
    simp [h]

theorem l28Good_eq (w : List Int) : spec_l28Good w = some (isWord w, ()) := by
  unfold spec_l28Good spec_l28Good_s isWord
  by_cases h : w.length ≤ 40
  · rw [cdt (by omega), show (0 : Int) = ((0 : Nat) : Int) from rfl, l28End_eq w 0 (by omega) (by omega), Option.bind_some]
    by_cases he : wEnd w 0 = w.length
    · rw [cdt he]
      have : 0 < w.length := by
        rcases Nat.eq_zero_or_pos w.length with h0 | h0
        · have : w = [] := List.eq_nil_of_length_eq_zero h0
          subst this
          simp [wEnd, we] at he
        · exact h0
      simp [h, he]; omega
    · rw [cdf he]; simp [h, he]
  · rw [cdf (by omega)]
    simp [h]

theorem isWord_iff (w : List Int) : isWord w = true ↔ w.length ≤ 40 ∧ we w 1 0 = some w.length := by
  unfold isWord wEnd
  simp only [List.drop_zero, Bool.and_eq_true, decide_eq_true_eq]
  refine and_congr Iff.rfl ?_
  cases h : we w 1 0 with
  | none => simp
  | some e => simp; omega

def subst (l : Int) (s : List Int) : List Int → List Int
  | [] => []
  | x :: xs => if x = l then s ++ subst l s xs else x :: subst l s xs

structure Pt (n : Nat) (P : Nat → Nat) : Prop where
  lo : ∀ x, x < n → P x ≤ x
  id : ∀ x, x < n → P (P x) = P x

theorem Pt.lt {n : Nat} {P : Nat → Nat} (h : Pt n P) {x : Nat} (hx : x < n) : P x < n := Nat.lt_of_le_of_lt (h.lo x hx) hx

def Lep (n : Nat) (P C : Nat → Nat) : Prop := ∀ x, x < n → C (P x) = C x

theorem Lep.trans {n : Nat} {P Q C : Nat → Nat} (h : Pt n P) (h1 : Lep n P Q) (h2 : Lep n Q C) : Lep n P C := fun x hx => by
  have e1 := h1 x hx
  have e2 := h2 (P x) (h.lt hx)
  have e3 := h2 x hx
  rw [← e2, e1, e3]

theorem we_fl : ∀ (A : Wd), A.ok → ∀ (r : List Int) (n c : Nat), we (A.fl ++ r) (n + 1) c = we r n (c + A.fl.length)
  | .v x, h, r, n, c => by
    simp only [Wd.ok] at h
    simp only [Wd.fl, List.cons_append, List.nil_append, we, List.length_cons, List.length_nil]
    rw [if_neg (by omega), if_pos h.1]
  | .op g a b, h, r, n, c => by
    obtain ⟨hg, ha, hb⟩ := h
    simp only [Wd.fl, List.cons_append, we]
    rw [if_neg (by omega), if_neg (by omega), List.append_assoc, we_fl a ha, we_fl b hb]
    simp only [List.length_cons, List.length_append]
    congr 1
    omega

theorem we_parse : ∀ (m : Nat) (xs : List Int) (n c e : Nat), xs.length ≤ m → we xs (n + 1) c = some e → ∃ A r, A.ok ∧ xs = Wd.fl A ++ r ∧ we r n (c + A.fl.length) = some e
  | _, [], n, c, e, _, h => by simp [we] at h
  | 0, _ :: _, _, _, _, hm, _ => by simp at hm
  | m + 1, x :: xs, n, c, e, hm, h => by
    simp only [List.length_cons] at hm
    simp only [we] at h
    split at h
    · cases h
    rename_i hx
    split at h
    · rename_i h0
      exact ⟨.v x, xs, ⟨h0, by omega⟩, rfl, h⟩
    · rename_i h0
      obtain ⟨A, r1, hA, e1, h1⟩ := we_parse m xs (n + 1) (c + 1) e (by omega) h
      have hl : r1.length ≤ m := by
        have := congrArg List.length e1
        simp only [List.length_append] at this
        omega
      obtain ⟨B, r2, hB, e2, h2⟩ := we_parse m r1 n _ e hl h1
      refine ⟨.op x A B, r2, ⟨by omega, hA, hB⟩, ?_, ?_⟩
      · rw [e1, e2]; simp [Wd.fl]
      · rw [← h2]
        congr 1
        simp [Wd.fl]
        omega

theorem fl_inj : ∀ (A B : Wd), A.ok → B.ok → ∀ (r r' : List Int), A.fl ++ r = B.fl ++ r' → A = B ∧ r = r'
  | .v x, .v y, _, _, r, r', h => by
    simp only [Wd.fl, List.cons_append, List.nil_append, List.cons.injEq] at h
    exact ⟨by rw [h.1], h.2⟩
  | .v x, .op g a b, ha, hb, r, r', h => by
    simp only [Wd.fl, List.cons_append, List.nil_append, List.cons.injEq] at h
    have h1 := ha.1
    have h2 := hb.1
    omega
  | .op g a b, .v x, ha, hb, r, r', h => by
    simp only [Wd.fl, List.cons_append, List.nil_append, List.cons.injEq] at h
    have h1 := ha.1
    have h2 := hb.1
    omega
  | .op g a b, .op g' a' b', ha, hb, r, r', h => by
    simp only [Wd.fl, List.cons_append, List.append_assoc, List.cons.injEq] at h
    obtain ⟨e0, h⟩ := h
    obtain ⟨e1, h⟩ := fl_inj a a' ha.2.1 hb.2.1 _ _ h
    obtain ⟨e2, h⟩ := fl_inj b b' ha.2.2 hb.2.2 _ _ h
    exact ⟨by rw [e0, e1, e2], h⟩

theorem word_tree {w : List Int} (h : isWord w = true) : ∃ A : Wd, A.ok ∧ A.fl = w := by
  obtain ⟨_, h⟩ := (isWord_iff w).1 h
  obtain ⟨A, r, hA, e, h2⟩ := we_parse w.length w 0 0 w.length (Nat.le_refl _) h
  rw [we_zero] at h2
  simp only [Option.some.injEq] at h2
  have := congrArg List.length e
  simp only [List.length_append] at this
  have hr : r = [] := List.eq_nil_of_length_eq_zero (by omega)
  exact ⟨A, hA, by rw [e, hr, List.append_nil]⟩

def At (s : List Int) (i : Nat) (A : Wd) : Prop := A.ok ∧ ∃ r, s.drop i = A.fl ++ r

theorem At.lt {s : List Int} {i : Nat} {A : Wd} (h : At s i A) : i + A.fl.length ≤ s.length := by
  obtain ⟨_, r, e⟩ := h
  have := congrArg List.length e
  have := A.pos
  simp only [List.length_drop, List.length_append] at *
  omega

theorem At.end_ {s : List Int} {i : Nat} {A : Wd} (h : At s i A) : wEnd s i = ((i + A.fl.length : Nat) : Int) := by
  obtain ⟨ha, r, e⟩ := h
  unfold wEnd
  rw [e, we_fl A ha, we_zero]

theorem implEnd_at {s : List Int} {i : Nat} {A : Wd} (hs : s.length ≤ 1000000) (h : At s i A) : impl_wordEnd big s (i : Int) = some (((i + A.fl.length : Nat) : Int), ()) := by
  rw [wordEnd_eq s i (by have := h.lt; omega) (by omega), h.end_]

theorem specEnd_at {s : List Int} {i : Nat} {A : Wd} (hs : s.length ≤ 1000000) (h : At s i A) : spec_l28End big s (i : Int) = some (((i + A.fl.length : Nat) : Int), ()) := by
  rw [l28End_eq s i (by have := h.lt; omega) (by omega), h.end_]

theorem tx_len : ∀ A : Wd, A.tx.length ≤ 4 * A.fl.length
  | .v n => by simp [Wd.tx, Wd.fl]
  | .op g a b => by
    have h1 := tx_len a
    have h2 := tx_len b
    simp only [Wd.tx, Wd.fl, List.length_cons, List.length_append, List.length_nil]
    omega

theorem parts_fl {g : Int} {a b : Wd} (h : (Wd.op g a b).ok) (hl : (Wd.op g a b).fl.length ≤ 1000000) : spec_l28Parts (Wd.op g a b).fl = some ((a.fl, b.fl, ()), ()) := by
  have hat : At (Wd.op g a b).fl 1 a := ⟨h.2.1, b.fl, by simp [Wd.fl]⟩
  have e := specEnd_at hl hat
  simp only [Wd.fl, List.length_cons, List.length_append] at hl
  unfold spec_l28Parts spec_l28Parts_s
  rw [show (1 : Int) = ((1 : Nat) : Int) from rfl, e, Option.bind_some, slI_nat _ 1 _ (by omega) (by simp [Wd.fl]; omega), Option.bind_some, slI_nat _ _ _ (by simp [Wd.fl]; omega) (Nat.le_refl _), Option.bind_some]
  have e1 : ((Wd.op g a b).fl.drop 1).take (1 + a.fl.length - 1) = a.fl := by
    rw [show 1 + a.fl.length - 1 = a.fl.length by omega]
    simp [Wd.fl]
  have e2 : ((Wd.op g a b).fl.drop (1 + a.fl.length)).take ((Wd.op g a b).fl.length - (1 + a.fl.length)) = b.fl := by
    rw [show 1 + a.fl.length = a.fl.length + 1 by omega]
    simp [Wd.fl]
  rw [e1, e2]

theorem letter_text {n : Int} (h0 : 0 ≤ n) (h5 : n < 5) : slI ([97, 98, 99, 100, 101] : List UInt8) n (IntKind.i64.wrap (n + 1)) = some [UInt8.ofNat (97 + n.toNat)] := by
  have : n = 0 ∨ n = 1 ∨ n = 2 ∨ n = 3 ∨ n = 4 := by omega
  rcases this with rfl | rfl | rfl | rfl | rfl <;> rfl

theorem specText_eq : ∀ (A : Wd), A.ok → A.fl.length ≤ 1000000 → ∀ d, A.fl.length < d → R_spec_l28Text d (A.fl, ()) = some (A.tx, ())
  | A, h, hl, 0, hd => by omega
  | .v n, h, hl, d + 1, hd => by
    obtain ⟨h0, h5⟩ := h
    show spec_l28Text _ [n] = _
    unfold spec_l28Text spec_l28Text_s
    have a0 : atI [n] (0 : Int) = some n := rfl
    rw [a0, Option.bind_some, cdt h0, Option.bind_some, Option.bind_some, letter_text h0 h5]
    rfl
  | .op g a b, h, hl, d + 1, hd => by
    have hp := parts_fl h hl
    have hg := h.1
    have la := tx_len a
    have lb := tx_len b
    simp only [Wd.fl, List.length_cons, List.length_append] at hl hd
    have ia := specText_eq a h.2.1 (by omega) d (by omega)
    have ib := specText_eq b h.2.2 (by omega) d (by omega)
    show spec_l28Text _ (Wd.op g a b).fl = _
    have a0 : atI (Wd.op g a b).fl (0 : Int) = some g := rfl
    unfold spec_l28Text spec_l28Text_s
    rw [a0, Option.bind_some, cdf (by omega), hp, Option.bind_some, Option.bind_some]
    simp only [Wd.tx]
    by_cases h2 : g = -2
    · rw [cdt h2, ia, Option.bind_some, appI_ok (by simp; omega), Option.bind_some, appI_ok (by simp; omega), Option.bind_some, ib, Option.bind_some, appI_ok (by simp; omega), Option.bind_some, appI_ok (by simp; omega), Option.bind_some, if_pos h2]
      simp
    · rw [cdf h2, ia, Option.bind_some, appI_ok (by simp; omega), Option.bind_some, appI_ok (by simp; omega), Option.bind_some, ib, Option.bind_some, appI_ok (by simp; omega), Option.bind_some, appI_ok (by simp; omega), Option.bind_some, if_neg h2]
      simp

theorem endPure : EndPure := by
  intro g a b h hl
  have hat : At (Wd.op g a b).fl 1 a := ⟨h.2.1, b.fl, by simp [Wd.fl]⟩
  exact implEnd_at hl hat

theorem implText_eq {A : Wd} (h : A.ok) (hl : A.fl.length ≤ 40) : impl_wordText A.fl = some (A.tx, ()) := by
  have hx : (∃ B : Wd, B.ok ∧ B.fl.length ≤ 40 ∧ B.fl = A.fl) ∧ EndPure := ⟨⟨A, h, hl, rfl⟩, endPure⟩
  unfold impl_wordText
  rw [dif_pos hx]
  have hc := Classical.choose_spec hx.1
  have := (fl_inj _ _ hc.1 h [] [] (by rw [hc.2.2])).1
  rw [this]

theorem wordText_eq (w : List Int) : ∃ v : List UInt8 × Bool × Unit, spec_WordText w = some (v, ()) ∧ impl_WordText w = some (v, ()) := by
  unfold spec_WordText spec_WordText_s impl_WordText impl_WordText_s
  rw [l28Good_eq, implIsWord_eq, Option.bind_some, Option.bind_some]
  cases h : isWord w with
  | false => exact ⟨_, rfl, rfl⟩
  | true =>
    obtain ⟨A, hA, rfl⟩ := word_tree h
    have hl := ((isWord_iff _).1 h).1
    have hb := big_ge
    rw [Bool.not_true, cond_false, cond_false, specText_eq A hA (by omega) big (by omega), implText_eq hA hl, Option.bind_some]
    exact ⟨_, rfl, rfl⟩

theorem true_WordText (w : List Int) (_ : Wf (.pair (.sl I) .unit) (w, ())) : laws_FnExactWordText w = some (true, ()) := by
  unfold laws_FnExactWordText laws_FnExactWordText_s
  by_cases h : w.length ≤ 1048576
  · obtain ⟨v, h1, h2⟩ := wordText_eq w
    rw [cdf (by omega)]
    simp only [toIntS_eq w (show w.length ≤ 4294967296 by omega), Option.bind_some, h1, h2, eqIntS_eq w w (show w.length ≤ 1099511627775 by omega)]
    simp
  · rw [cdt (by omega)]


end Go.Proofs.Ytmpeokbbmicdgaa
