import Derived.Test.YtmpeokbbmicdgaaPLib
import Derived.Test.YtmpeokbbmicdgaaGA
set_option linter.unusedVariables false
namespace Go.Proofs.Ytmpeokbbmicdgaa
open Go Go.Gx Go.Proofs

/-! rules for the loops -/
theorem laws_toIntS_h3 {a0 : (List Int)} (cnt : Nat) (Inv : Nat → (List Int) → Prop) {res : Option ((List Int) × Unit)} (hn : cnt ≤ 500000000000)
  (hs : ∀ (rc : (List Int) → (List Int) → Int → Option ((List Int) × Unit)) (i : Nat) (out3 : (List Int)), i < cnt → Inv i out3 → (∀ (out3' : (List Int)), Inv (i + 1) out3' → rc a0 out3' ((i + 1 : Nat) : Int) = res) → laws_toIntS_b3 rc laws_toIntS_a3 a0 out3 (i : Int) = res)
  (he : ∀ (rc : (List Int) → (List Int) → Int → Option ((List Int) × Unit)) (out3 : (List Int)), Inv cnt out3 → laws_toIntS_b3 rc laws_toIntS_a3 a0 out3 (cnt : Int) = res)
  (i0 : Nat) (hi : i0 ≤ cnt) (out3 : (List Int)) (h0 : Inv i0 out3) : laws_toIntS_F3 big a0 out3 (i0 : Int) = res := by
  have key : ∀ (m i : Nat) (out3 : (List Int)), i ≤ cnt → cnt < m + i → Inv i out3 → laws_toIntS_l3 big laws_toIntS_a3 m a0 out3 (i : Int) = res := by
    intro m
    induction m with
    | zero => intro i out3 h1 h2 h3; exact absurd h2 (by omega)
    | succ m ih =>
      intro i out3 h1 h2 h3
      rcases Nat.lt_or_ge i cnt with hlt | hge
      · exact hs _ i out3 hlt h3 (fun out3' h4 => ih (i + 1) out3' (by omega) (by omega) h4)
      · obtain rfl : i = cnt := by omega
        exact he _ out3 h3
  exact key big i0 out3 hi (by have := big_ge; omega) h0
theorem spec_l28End_h3 {w0 : (List Int)} (cnt : Nat) (Inv : Nat → Int → Prop) {res : Option (Int × Unit)} (hn : cnt ≤ 500000000000)
  (hs : ∀ (rc : (List Int) → Int → Int → Option (Int × Unit)) (i : Nat) (open5 : Int), i < cnt → Inv i open5 → (∀ (open5' : Int), Inv (i + 1) open5' → rc w0 open5' ((i + 1 : Nat) : Int) = res) → spec_l28End_b3 rc spec_l28End_a3 w0 open5 (i : Int) = res)
  (he : ∀ (rc : (List Int) → Int → Int → Option (Int × Unit)) (open5 : Int), Inv cnt open5 → spec_l28End_b3 rc spec_l28End_a3 w0 open5 (cnt : Int) = res)
  (i0 : Nat) (hi : i0 ≤ cnt) (open5 : Int) (h0 : Inv i0 open5) : spec_l28End_F3 big w0 open5 (i0 : Int) = res := by
  have key : ∀ (m i : Nat) (open5 : Int), i ≤ cnt → cnt < m + i → Inv i open5 → spec_l28End_l3 big spec_l28End_a3 m w0 open5 (i : Int) = res := by
    intro m
    induction m with
    | zero => intro i open5 h1 h2 h3; exact absurd h2 (by omega)
    | succ m ih =>
      intro i open5 h1 h2 h3
      rcases Nat.lt_or_ge i cnt with hlt | hge
      · exact hs _ i open5 hlt h3 (fun open5' h4 => ih (i + 1) open5' (by omega) (by omega) h4)
      · obtain rfl : i = cnt := by omega
        exact he _ open5 h3
  exact key big i0 open5 hi (by have := big_ge; omega) h0
theorem impl_wordEnd_h2 {w0 : (List Int)} (cnt : Nat) (Inv : Nat → Int → Prop) {res : Option (Int × Unit)} (hn : cnt ≤ 500000000000)
  (hs : ∀ (rc : (List Int) → Int → Int → Option (Int × Unit)) (i : Nat) (need5 : Int), i < cnt → Inv i need5 → (∀ (need5' : Int), Inv (i + 1) need5' → rc w0 ((i + 1 : Nat) : Int) need5' = res) → impl_wordEnd_b2 rc impl_wordEnd_a2 w0 (i : Int) need5 = res)
  (he : ∀ (rc : (List Int) → Int → Int → Option (Int × Unit)) (need5 : Int), Inv cnt need5 → impl_wordEnd_b2 rc impl_wordEnd_a2 w0 (cnt : Int) need5 = res)
  (i0 : Nat) (hi : i0 ≤ cnt) (need5 : Int) (h0 : Inv i0 need5) : impl_wordEnd_F2 big w0 (i0 : Int) need5 = res := by
  have key : ∀ (m i : Nat) (need5 : Int), i ≤ cnt → cnt < m + i → Inv i need5 → impl_wordEnd_l2 big impl_wordEnd_a2 m w0 (i : Int) need5 = res := by
    intro m
    induction m with
    | zero => intro i need5 h1 h2 h3; exact absurd h2 (by omega)
    | succ m ih =>
      intro i need5 h1 h2 h3
      rcases Nat.lt_or_ge i cnt with hlt | hge
      · exact hs _ i need5 hlt h3 (fun need5' h4 => ih (i + 1) need5' (by omega) (by omega) h4)
      · obtain rfl : i = cnt := by omega
        exact he _ need5 h3
  exact key big i0 need5 hi (by have := big_ge; omega) h0
theorem laws_eqIntS_h4 {a0 : (List Int)} {b1 : (List Int)} (cnt : Nat) (Inv : Nat → Prop) {res : Option (Bool × Unit)} (hn : cnt ≤ 500000000000)
  (hs : ∀ (rc : (List Int) → (List Int) → Int → Option (Bool × Unit)) (i : Nat), i < cnt → Inv i → (Inv (i + 1) → rc a0 b1 ((i + 1 : Nat) : Int) = res) → laws_eqIntS_b4 rc laws_eqIntS_a4 a0 b1 (i : Int) = res)
  (he : ∀ (rc : (List Int) → (List Int) → Int → Option (Bool × Unit)), Inv cnt → laws_eqIntS_b4 rc laws_eqIntS_a4 a0 b1 (cnt : Int) = res)
  (i0 : Nat) (hi : i0 ≤ cnt) (h0 : Inv i0) : laws_eqIntS_F4 big a0 b1 (i0 : Int) = res := by
  have key : ∀ (m i : Nat), i ≤ cnt → cnt < m + i → Inv i → laws_eqIntS_l4 big laws_eqIntS_a4 m a0 b1 (i : Int) = res := by
    intro m
    induction m with
    | zero => intro i h1 h2 h3; exact absurd h2 (by omega)
    | succ m ih =>
      intro i h1 h2 h3
      rcases Nat.lt_or_ge i cnt with hlt | hge
      · exact hs _ i hlt h3 (fun h4 => ih (i + 1) (by omega) (by omega) h4)
      · obtain rfl : i = cnt := by omega
        exact he _ h3
  exact key big i0 hi (by have := big_ge; omega) h0
end Go.Proofs.Ytmpeokbbmicdgaa
