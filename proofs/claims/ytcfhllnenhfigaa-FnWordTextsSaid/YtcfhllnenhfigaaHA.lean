import Derived.Test.YtcfhllnenhfigaaPLib
import Derived.Test.YtcfhllnenhfigaaGA
set_option linter.unusedVariables false
namespace Go.Proofs.Ytcfhllnenhfigaa
open Go Go.Gx Go.Proofs

/-! rules for the loops -/
theorem spec_l1Cur_word_w10 (mu : ((List Int) × (Int × (Int × Unit))) → (List Int) → Nat) (Inv : ((List Int) × (Int × (Int × Unit))) → (List Int) → Prop) {res : Option ((List Int) × (((List Int) × (Int × (Int × Unit))) × Unit))}
  (hs : ∀ (rc : ((List Int) × (Int × (Int × Unit))) → (List Int) → Option ((List Int) × (((List Int) × (Int × (Int × Unit))) × Unit))) (c0 : ((List Int) × (Int × (Int × Unit)))) (w3 : (List Int)), Inv c0 w3 → (∀ (c0' : ((List Int) × (Int × (Int × Unit)))) (w3' : (List Int)), Inv c0' w3' → mu c0' w3' < mu c0 w3 → rc c0' w3' = res) → spec_l1Cur_word_b10 rc spec_l1Cur_word_a10 c0 w3 = res)
  (c0 : ((List Int) × (Int × (Int × Unit)))) (w3 : (List Int)) (hm : mu c0 w3 ≤ 500000000000) (h0 : Inv c0 w3) : spec_l1Cur_word_F10 big c0 w3 = res := by
  have key : ∀ (m : Nat) (c0 : ((List Int) × (Int × (Int × Unit)))) (w3 : (List Int)), mu c0 w3 < m → Inv c0 w3 → spec_l1Cur_word_l10 big spec_l1Cur_word_a10 m c0 w3 = res := by
    intro m
    induction m with
    | zero => intro c0 w3 h2 h3; exact absurd h2 (by omega)
    | succ m ih =>
      intro c0 w3 h2 h3
      exact hs _ c0 w3 h3 (fun c0' w3' h4 h5 => ih c0' w3' (by omega) h4)
  exact key big c0 w3 (by have := big_ge; omega) h0
theorem impl_wordEnd_h2 {w0 : (List Int)} (cnt : Nat) (Inv : Nat → Int → Prop) {res : Option (Int × Unit)} (hn : cnt ≤ 500000000000)
  (hs : ∀ (rc : (List Int) → Int → Int → Option (Int × Unit)) (i : Nat) (need5 : Int), i < cnt → Inv i need5 → (∀ (need5' : Int), Inv (i + 1) need5' → rc w0 ((i + 1 : Nat) : Int) need5' = res) → impl_wordEnd_b2 rc impl_wordEnd_a2 w0 (i : Int) need5 = res)
  (he : ∀ (rc : (List Int) → Int → Int → Option (Int × Unit)) (need5 : Int), Inv cnt need5 → impl_wordEnd_b2 rc impl_wordEnd_a2 w0 (cnt : Int) need5 = res)
  (i0 : Nat) (hi : i0 ≤ cnt) (need5 : Int) (h0 : Inv i0 need5) : impl_wordEnd_F2 big w0 (i0 : Int) need5 = res := by
  have key : ∀ (m i : Nat) (need5 : Int), i ≤ cnt → cnt < m + i → Inv i need5 → impl_wordEnd_l2 big impl_wordEnd_a2 m w0 (i : Int) need5 = res := by
    intro m
    induction m with
    | zero => intro i need5 h1 h2 h3; exact absurd h2 (by omega)
    | succ m ih =>
      intro i need5 h1 h2 h3
      rcases Nat.lt_or_ge i cnt with hlt | hge
      · exact hs _ i need5 hlt h3 (fun need5' h4 => ih (i + 1) need5' (by omega) (by omega) h4)
      · obtain rfl : i = cnt := by omega
        exact he _ need5 h3
  exact key big i0 need5 hi (by have := big_ge; omega) h0
theorem spec_l28End_h3 {w0 : (List Int)} (cnt : Nat) (Inv : Nat → Int → Prop) {res : Option (Int × Unit)} (hn : cnt ≤ 500000000000)
  (hs : ∀ (rc : (List Int) → Int → Int → Option (Int × Unit)) (i : Nat) (open5 : Int), i < cnt → Inv i open5 → (∀ (open5' : Int), Inv (i + 1) open5' → rc w0 open5' ((i + 1 : Nat) : Int) = res) → spec_l28End_b3 rc spec_l28End_a3 w0 open5 (i : Int) = res)
  (he : ∀ (rc : (List Int) → Int → Int → Option (Int × Unit)) (open5 : Int), Inv cnt open5 → spec_l28End_b3 rc spec_l28End_a3 w0 open5 (cnt : Int) = res)
  (i0 : Nat) (hi : i0 ≤ cnt) (open5 : Int) (h0 : Inv i0 open5) : spec_l28End_F3 big w0 open5 (i0 : Int) = res := by
  have key : ∀ (m i : Nat) (open5 : Int), i ≤ cnt → cnt < m + i → Inv i open5 → spec_l28End_l3 big spec_l28End_a3 m w0 open5 (i : Int) = res := by
    intro m
    induction m with
    | zero => intro i open5 h1 h2 h3; exact absurd h2 (by omega)
    | succ m ih =>
      intro i open5 h1 h2 h3
      rcases Nat.lt_or_ge i cnt with hlt | hge
      · exact hs _ i open5 hlt h3 (fun open5' h4 => ih (i + 1) open5' (by omega) (by omega) h4)
      · obtain rfl : i = cnt := by omega
        exact he _ open5 h3
  exact key big i0 open5 hi (by have := big_ge; omega) h0
theorem laws_rInts_h4 {a0 : (List Int)} {b1 : (List Int)} (cnt : Nat) (Inv : Nat → Prop) {res : Option (Bool × Unit)} (hn : cnt ≤ 500000000000)
  (hs : ∀ (rc : (List Int) → (List Int) → Int → Option (Bool × Unit)) (i : Nat), i < cnt → Inv i → (Inv (i + 1) → rc a0 b1 ((i + 1 : Nat) : Int) = res) → laws_rInts_b4 rc laws_rInts_a4 a0 b1 (i : Int) = res)
  (he : ∀ (rc : (List Int) → (List Int) → Int → Option (Bool × Unit)), Inv cnt → laws_rInts_b4 rc laws_rInts_a4 a0 b1 (cnt : Int) = res)
  (i0 : Nat) (hi : i0 ≤ cnt) (h0 : Inv i0) : laws_rInts_F4 big a0 b1 (i0 : Int) = res := by
  have key : ∀ (m i : Nat), i ≤ cnt → cnt < m + i → Inv i → laws_rInts_l4 big laws_rInts_a4 m a0 b1 (i : Int) = res := by
    intro m
    induction m with
    | zero => intro i h1 h2 h3; exact absurd h2 (by omega)
    | succ m ih =>
      intro i h1 h2 h3
      rcases Nat.lt_or_ge i cnt with hlt | hge
      · exact hs _ i hlt h3 (fun h4 => ih (i + 1) (by omega) (by omega) h4)
      · obtain rfl : i = cnt := by omega
        exact he _ h3
  exact key big i0 hi (by have := big_ge; omega) h0
theorem impl_marked_h3 {t7 : (List Bool)} {t8 : Int} (cnt : Nat) (Inv : Nat → (List Int) → Prop) {res : Option ((List Int) × Unit)} (hn : cnt ≤ 500000000000)
  (hs : ∀ (rc : (List Int) → (List Bool) → Int → Int → Option ((List Int) × Unit)) (i : Nat) (list3 : (List Int)), i < cnt → Inv i list3 → (∀ (list3' : (List Int)), Inv (i + 1) list3' → rc list3' t7 t8 ((i + 1 : Nat) : Int) = res) → impl_marked_b3 rc impl_marked_a3 list3 t7 t8 (i : Int) = res)
  (he : ∀ (rc : (List Int) → (List Bool) → Int → Int → Option ((List Int) × Unit)) (list3 : (List Int)), Inv cnt list3 → impl_marked_b3 rc impl_marked_a3 list3 t7 t8 (cnt : Int) = res)
  (i0 : Nat) (hi : i0 ≤ cnt) (list3 : (List Int)) (h0 : Inv i0 list3) : impl_marked_F3 big list3 t7 t8 (i0 : Int) = res := by
  have key : ∀ (m i : Nat) (list3 : (List Int)), i ≤ cnt → cnt < m + i → Inv i list3 → impl_marked_l3 big impl_marked_a3 m list3 t7 t8 (i : Int) = res := by
    intro m
    induction m with
    | zero => intro i list3 h1 h2 h3; exact absurd h2 (by omega)
    | succ m ih =>
      intro i list3 h1 h2 h3
      rcases Nat.lt_or_ge i cnt with hlt | hge
      · exact hs _ i list3 hlt h3 (fun list3' h4 => ih (i + 1) list3' (by omega) (by omega) h4)
      · obtain rfl : i = cnt := by omega
        exact he _ list3 h3
  exact key big i0 list3 hi (by have := big_ge; omega) h0
theorem impl_LettersOf_h5 {t12 : (List Int)} {t13 : Int} (cnt : Nat) (Inv : Nat → (List Bool) → Prop) {res : Option (((List Int) × (Bool × Unit)) × Unit)} (hn : cnt ≤ 500000000000)
  (hs : ∀ (rc : (List Bool) → (List Int) → Int → Int → Option (((List Int) × (Bool × Unit)) × Unit)) (i : Nat) (have4 : (List Bool)), i < cnt → Inv i have4 → (∀ (have4' : (List Bool)), Inv (i + 1) have4' → rc have4' t12 t13 ((i + 1 : Nat) : Int) = res) → impl_LettersOf_b5 rc impl_LettersOf_a5 have4 t12 t13 (i : Int) = res)
  (he : ∀ (rc : (List Bool) → (List Int) → Int → Int → Option (((List Int) × (Bool × Unit)) × Unit)) (have4 : (List Bool)), Inv cnt have4 → impl_LettersOf_b5 rc impl_LettersOf_a5 have4 t12 t13 (cnt : Int) = res)
  (i0 : Nat) (hi : i0 ≤ cnt) (have4 : (List Bool)) (h0 : Inv i0 have4) : impl_LettersOf_F5 big have4 t12 t13 (i0 : Int) = res := by
  have key : ∀ (m i : Nat) (have4 : (List Bool)), i ≤ cnt → cnt < m + i → Inv i have4 → impl_LettersOf_l5 big impl_LettersOf_a5 m have4 t12 t13 (i : Int) = res := by
    intro m
    induction m with
    | zero => intro i have4 h1 h2 h3; exact absurd h2 (by omega)
    | succ m ih =>
      intro i have4 h1 h2 h3
      rcases Nat.lt_or_ge i cnt with hlt | hge
      · exact hs _ i have4 hlt h3 (fun have4' h4 => ih (i + 1) have4' (by omega) (by omega) h4)
      · obtain rfl : i = cnt := by omega
        exact he _ have4 h3
  exact key big i0 have4 hi (by have := big_ge; omega) h0
theorem impl_SubstituteWord_h5 {letter1 : Int} {s2 : (List Int)} {t25 : (List Int)} {t26 : Int} (cnt : Nat) (Inv : Nat → (List Int) → Prop) {res : Option (((List Int) × (Bool × Unit)) × Unit)} (hn : cnt ≤ 500000000000)
  (hs : ∀ (rc : Int → (List Int) → (List Int) → (List Int) → Int → Int → Option (((List Int) × (Bool × Unit)) × Unit)) (i : Nat) (list8 : (List Int)), i < cnt → Inv i list8 → (∀ (list8' : (List Int)), Inv (i + 1) list8' → rc letter1 s2 list8' t25 t26 ((i + 1 : Nat) : Int) = res) → impl_SubstituteWord_b5 rc impl_SubstituteWord_a5 letter1 s2 list8 t25 t26 (i : Int) = res)
  (he : ∀ (rc : Int → (List Int) → (List Int) → (List Int) → Int → Int → Option (((List Int) × (Bool × Unit)) × Unit)) (list8 : (List Int)), Inv cnt list8 → impl_SubstituteWord_b5 rc impl_SubstituteWord_a5 letter1 s2 list8 t25 t26 (cnt : Int) = res)
  (i0 : Nat) (hi : i0 ≤ cnt) (list8 : (List Int)) (h0 : Inv i0 list8) : impl_SubstituteWord_F5 big letter1 s2 list8 t25 t26 (i0 : Int) = res := by
  have key : ∀ (m i : Nat) (list8 : (List Int)), i ≤ cnt → cnt < m + i → Inv i list8 → impl_SubstituteWord_l5 big impl_SubstituteWord_a5 m letter1 s2 list8 t25 t26 (i : Int) = res := by
    intro m
    induction m with
    | zero => intro i list8 h1 h2 h3; exact absurd h2 (by omega)
    | succ m ih =>
      intro i list8 h1 h2 h3
      rcases Nat.lt_or_ge i cnt with hlt | hge
      · exact hs _ i list8 hlt h3 (fun list8' h4 => ih (i + 1) list8' (by omega) (by omega) h4)
      · obtain rfl : i = cnt := by omega
        exact he _ list8 h3
  exact key big i0 list8 hi (by have := big_ge; omega) h0
theorem spec_SubstituteWord_h5 {w0 : (List Int)} {letter1 : Int} {s2 : (List Int)} (cnt : Nat) (Inv : Nat → (List Int) → Prop) {res : Option (((List Int) × (Bool × Unit)) × Unit)} (hn : cnt ≤ 500000000000)
  (hs : ∀ (rc : (List Int) → Int → (List Int) → (List Int) → Int → Option (((List Int) × (Bool × Unit)) × Unit)) (i : Nat) (out8 : (List Int)), i < cnt → Inv i out8 → (∀ (out8' : (List Int)), Inv (i + 1) out8' → rc w0 letter1 s2 out8' ((i + 1 : Nat) : Int) = res) → spec_SubstituteWord_b5 rc spec_SubstituteWord_a5 w0 letter1 s2 out8 (i : Int) = res)
  (he : ∀ (rc : (List Int) → Int → (List Int) → (List Int) → Int → Option (((List Int) × (Bool × Unit)) × Unit)) (out8 : (List Int)), Inv cnt out8 → spec_SubstituteWord_b5 rc spec_SubstituteWord_a5 w0 letter1 s2 out8 (cnt : Int) = res)
  (i0 : Nat) (hi : i0 ≤ cnt) (out8 : (List Int)) (h0 : Inv i0 out8) : spec_SubstituteWord_F5 big w0 letter1 s2 out8 (i0 : Int) = res := by
  have key : ∀ (m i : Nat) (out8 : (List Int)), i ≤ cnt → cnt < m + i → Inv i out8 → spec_SubstituteWord_l5 big spec_SubstituteWord_a5 m w0 letter1 s2 out8 (i : Int) = res := by
    intro m
    induction m with
    | zero => intro i out8 h1 h2 h3; exact absurd h2 (by omega)
    | succ m ih =>
      intro i out8 h1 h2 h3
      rcases Nat.lt_or_ge i cnt with hlt | hge
      · exact hs _ i out8 hlt h3 (fun out8' h4 => ih (i + 1) out8' (by omega) (by omega) h4)
      · obtain rfl : i = cnt := by omega
        exact he _ out8 h3
  exact key big i0 out8 hi (by have := big_ge; omega) h0
theorem laws_FnWordTexts_h17 {code0 : (List Int)} {w3 : (List Int)} {letters10 : (List Int)} (cnt : Nat) (Inv : Nat → Prop) {res : Option (Bool × Unit)} (hn : cnt ≤ 500000000000)
  (hs : ∀ (rc : (List Int) → (List Int) → (List Int) → Int → Option (Bool × Unit)) (i : Nat), i < cnt → Inv i → (Inv (i + 1) → rc code0 w3 letters10 ((i + 1 : Nat) : Int) = res) → laws_FnWordTexts_b17 rc laws_FnWordTexts_a17 code0 w3 letters10 (i : Int) = res)
  (he : ∀ (rc : (List Int) → (List Int) → (List Int) → Int → Option (Bool × Unit)), Inv cnt → laws_FnWordTexts_b17 rc laws_FnWordTexts_a17 code0 w3 letters10 (cnt : Int) = res)
  (i0 : Nat) (hi : i0 ≤ cnt) (h0 : Inv i0) : laws_FnWordTexts_F17 big code0 w3 letters10 (i0 : Int) = res := by
  have key : ∀ (m i : Nat), i ≤ cnt → cnt < m + i → Inv i → laws_FnWordTexts_l17 big laws_FnWordTexts_a17 m code0 w3 letters10 (i : Int) = res := by
    intro m
    induction m with
    | zero => intro i h1 h2 h3; exact absurd h2 (by omega)
    | succ m ih =>
      intro i h1 h2 h3
      rcases Nat.lt_or_ge i cnt with hlt | hge
      · exact hs _ i hlt h3 (fun h4 => ih (i + 1) (by omega) (by omega) h4)
      · obtain rfl : i = cnt := by omega
        exact he _ h3
  exact key big i0 hi (by have := big_ge; omega) h0
end Go.Proofs.Ytcfhllnenhfigaa
