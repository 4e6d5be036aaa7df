import Derived.Test.YtpomjejencfiiaaPWordsB
import Derived.KernelRfl
set_option linter.unusedVariables false
namespace Go.Proofs.Ytpomjejencfiiaa
open Go Go.Gx Go.Proofs

/-! letters of a word -/
def lets (h : List Bool) : List Int := (List.range h.length).filterMap fun (j : Nat) => if h[j]? = some true then some (Int.ofNat j) else none

def all5 : List (List Bool) := [false, true].flatMap fun a => [false, true].flatMap fun b => [false, true].flatMap fun c => [false, true].flatMap fun d => [false, true].map fun e => [a, b, c, d, e]

theorem mem_all5 {h : List Bool} (hl : h.length = 5) : h ∈ all5 := by
  match h, hl with
  | [a, b, c, d, e], _ => cases a <;> cases b <;> cases c <;> cases d <;> cases e <;> decide

def okLets (h : List Bool) : Bool := decide (impl_marked big h = some (lets h, ())) && decide ((lets h).length ≤ 5) && [0, 1, 2, 3, 4].all fun x => decide (spec_l1Put big (lets h) x = some (lets (h.set x.toNat true), ()))

theorem okLets_all : all5.all okLets = true := by kernel_rfl

theorem lets_ok {h : List Bool} (hl : h.length = 5) : impl_marked big h = some (lets h, ()) ∧ (lets h).length ≤ 5 ∧ ∀ x : Int, 0 ≤ x → x < 5 → spec_l1Put big (lets h) x = some (lets (h.set x.toNat true), ()) := by
  have := List.all_eq_true.1 okLets_all h (mem_all5 hl)
  unfold okLets at this
  simp only [Bool.and_eq_true, decide_eq_true_eq, List.all_eq_true] at this
  refine ⟨this.1.1, this.1.2, fun x h0 h5 => this.2 x ?_⟩
  have : x = 0 ∨ x = 1 ∨ x = 2 ∨ x = 3 ∨ x = 4 := by omega
  rcases this with rfl | rfl | rfl | rfl | rfl <;> simp

def fl : List Int → List Bool → List Bool
  | [], h => h
  | x :: xs, h => fl xs (if 0 ≤ x then h.set x.toNat true else h)

theorem fl_len : ∀ (xs : List Int) (h : List Bool), (fl xs h).length = h.length
  | [], _ => rfl
  | x :: xs, h => by
    simp only [fl]
    rw [fl_len xs]
    split <;> simp

theorem specLets_l (N : Nat) (k : List Int → Option ((List Int × (Bool × Unit)) × Unit)) : ∀ (n : Nat) (w : List Int) (h : List Bool) (i : Nat), w.length - i < n → i ≤ w.length → w.length ≤ 1000000 → h.length = 5 → (∀ x ∈ w, -2 ≤ x ∧ x < 5) →
    spec_LettersOf_l5 N k n w (lets h) i = k (lets (fl (w.drop i) h))
  | 0, _, _, _, h, _, _, _, _ => by omega
  | n + 1, w, h, i, hn, hi, hb, hl, hw => by
    simp only [spec_LettersOf_l5, spec_LettersOf_b5]
    by_cases hlt : i < w.length
    · have hx := hw w[i] (List.getElem_mem hlt)
      rw [cdt (by omega), atI_lt w i hlt, Option.bind_some, Option.bind_some, wr (n := (i : Int) + 1) (by omega) (by omega), show ((i : Int) + 1) = ((i + 1 : Nat) : Int) by omega, List.drop_eq_getElem_cons hlt]
      simp only [fl]
      by_cases h0 : 0 ≤ w[i]
      · rw [cdt h0, (lets_ok hl).2.2 _ h0 hx.2, Option.bind_some, if_pos h0, specLets_l N k n w _ (i + 1) (by omega) (by omega) hb (by simpa using hl) hw]
      · rw [cdf h0, if_neg h0, specLets_l N k n w h (i + 1) (by omega) (by omega) hb hl hw]
    · rw [cdf (by omega), List.drop_eq_nil_of_le (by omega)]
      rfl

theorem implLets_l (N : Nat) (k : List Bool → Option ((List Int × (Bool × Unit)) × Unit)) : ∀ (n : Nat) (w : List Int) (h : List Bool) (i : Nat), w.length - i < n → i ≤ w.length → w.length ≤ 1000000 → h.length = 5 → (∀ x ∈ w, -2 ≤ x ∧ x < 5) →
    impl_LettersOf_l5 N k n h w (w.length : Int) i = k (fl (w.drop i) h)
  | 0, _, _, _, h, _, _, _, _ => by omega
  | n + 1, w, h, i, hn, hi, hb, hl, hw => by
    simp only [impl_LettersOf_l5, impl_LettersOf_b5]
    by_cases hlt : i < w.length
    · have hx := hw w[i] (List.getElem_mem hlt)
      rw [cdt (by omega), atI_lt w i hlt, Option.bind_some, wr (n := (i : Int) + 1) (by omega) (by omega), show ((i : Int) + 1) = ((i + 1 : Nat) : Int) by omega, List.drop_eq_getElem_cons hlt]
      simp only [fl]
      by_cases h0 : 0 ≤ w[i]
      · have e : w[i] = ((w[i].toNat : Nat) : Int) := by omega
        have hlt2 : w[i].toNat < h.length := by omega
        have ha : atI h w[i] = some h[w[i].toNat] := by
          conv => lhs; rw [e]
          exact atI_lt h _ hlt2
        rw [cdt h0, ha, Option.bind_some, List.getElem?_eq_getElem hlt2, Option.bind_some, if_pos h0, implLets_l N k n w _ (i + 1) (by omega) (by omega) hb (by simpa using hl) hw]
      · rw [cdf h0, if_neg h0, implLets_l N k n w h (i + 1) (by omega) (by omega) hb hl hw]
    · rw [cdf (by omega), List.drop_eq_nil_of_le (by omega)]
      rfl

def lettersV (w : List Int) : List Int × Bool × Unit := if isWord w then (lets (fl w (List.replicate 5 false)), true, ()) else ([], false, ())

theorem specLetters_eq (w : List Int) : spec_LettersOf big w = some (lettersV w, ()) := by
  have hg := big_ge
  unfold spec_LettersOf spec_LettersOf_s lettersV
  rw [l28Good_eq, Option.bind_some]
  cases h : isWord w with
  | false => simp
  | true =>
    have h1 := isWord_len h
    unfold spec_LettersOf_F5
    have := specLets_l big spec_LettersOf_a5 big w (List.replicate 5 false) 0 (by omega) (by omega) (by omega) (by simp) (isWord_mem h)
    have e0 : lets (List.replicate 5 false) = [] := by decide
    rw [e0] at this
    simp only [Bool.not_true, cond_false, if_true]
    refine Eq.trans this ?_
    simp [spec_LettersOf_a5]

theorem implLetters_eq (w : List Int) : impl_LettersOf big w = some (lettersV w, ()) := by
  have hg := big_ge
  unfold impl_LettersOf impl_LettersOf_s lettersV
  rw [implIsWord_eq, Option.bind_some]
  cases h : isWord w with
  | false => simp
  | true =>
    have h1 := isWord_len h
    have e5 : mkI false (5 : Int) = some (List.replicate 5 false) := mkI_nat false 5 (by omega)
    simp only [Bool.not_true, cond_false, if_true, e5, Option.bind_some]
    rw [cdt (by omega)]
    unfold impl_LettersOf_F5
    have := implLets_l big impl_LettersOf_a5 big w (List.replicate 5 false) 0 (by omega) (by omega) (by omega) (by simp) (isWord_mem h)
    refine Eq.trans this ?_
    simp only [List.drop_zero, impl_LettersOf_a5]
    rw [(lets_ok (by rw [fl_len]; simp)).1, Option.bind_some]

theorem lettersV_len (w : List Int) : (lettersV w).1.length ≤ 40 := by
  unfold lettersV
  split
  · have := (lets_ok (h := fl w (List.replicate 5 false)) (by rw [fl_len]; simp)).2.1
    simp only; omega
  · simp

theorem true_LettersOf (w : List Int) (_ : Wf (.pair (.sl I) .unit) (w, ())) : laws_FnExactLettersOf w = some (true, ()) := by
  unfold laws_FnExactLettersOf laws_FnExactLettersOf_s
  by_cases h : w.length ≤ 1048576
  · have hl := lettersV_len w
    rw [cdf (by omega)]
    simp only [toIntS_eq w (by omega), Option.bind_some, specLetters_eq, implLetters_eq, eqIntS_eq w w (by omega), eqIntS_eq _ _ (show (lettersV w).1.length ≤ 1099511627775 by omega),
      markIntS_eq w 1 (by omega) (by omega) (by omega), markIntS_eq (lettersV w).1 1 (by omega) (by omega) (by omega), heldIntS_eq 1 (lettersV w).1.length (by omega) (by omega) (by omega)]
    simp
    repeat rw [cdf (by omega)]
  · rw [cdt (by omega)]
end Go.Proofs.Ytpomjejencfiiaa
