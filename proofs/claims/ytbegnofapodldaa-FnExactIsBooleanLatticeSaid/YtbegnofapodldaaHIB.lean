import Derived.Test.YtbegnofapodldaaPLib
import Derived.Test.YtbegnofapodldaaGIB
set_option linter.unusedVariables false
namespace Go.Proofs.Ytbegnofapodldaa
open Go Go.Gx Go.Proofs

/-! rules for the loops -/
theorem laws_szIntSS_h5 {a0 : (List (List Int))} (cnt : Nat) (Inv : Nat → Int → Prop) {res : Option (Int × Unit)} (hn : cnt ≤ 500000000000)
  (hs : ∀ (rc : (List (List Int)) → Int → Int → Option (Int × Unit)) (i : Nat) (left1 : Int), i < cnt → Inv i left1 → (∀ (left1' : Int), Inv (i + 1) left1' → rc a0 left1' ((i + 1 : Nat) : Int) = res) → laws_szIntSS_b5 rc laws_szIntSS_a5 a0 left1 (i : Int) = res)
  (he : ∀ (rc : (List (List Int)) → Int → Int → Option (Int × Unit)) (left1 : Int), Inv cnt left1 → laws_szIntSS_b5 rc laws_szIntSS_a5 a0 left1 (cnt : Int) = res)
  (i0 : Nat) (hi : i0 ≤ cnt) (left1 : Int) (h0 : Inv i0 left1) : laws_szIntSS_F5 big a0 left1 (i0 : Int) = res := by
  have key : ∀ (m i : Nat) (left1 : Int), i ≤ cnt → cnt < m + i → Inv i left1 → laws_szIntSS_l5 big laws_szIntSS_a5 m a0 left1 (i : Int) = res := by
    intro m
    induction m with
    | zero => intro i left1 h1 h2 h3; exact absurd h2 (by omega)
    | succ m ih =>
      intro i left1 h1 h2 h3
      rcases Nat.lt_or_ge i cnt with hlt | hge
      · exact hs _ i left1 hlt h3 (fun left1' h4 => ih (i + 1) left1' (by omega) (by omega) h4)
      · obtain rfl : i = cnt := by omega
        exact he _ left1 h3
  exact key big i0 left1 hi (by have := big_ge; omega) h0
theorem laws_toIntS_h3 {a0 : (List Int)} (cnt : Nat) (Inv : Nat → (List Int) → Prop) {res : Option ((List Int) × Unit)} (hn : cnt ≤ 500000000000)
  (hs : ∀ (rc : (List Int) → (List Int) → Int → Option ((List Int) × Unit)) (i : Nat) (out3 : (List Int)), i < cnt → Inv i out3 → (∀ (out3' : (List Int)), Inv (i + 1) out3' → rc a0 out3' ((i + 1 : Nat) : Int) = res) → laws_toIntS_b3 rc laws_toIntS_a3 a0 out3 (i : Int) = res)
  (he : ∀ (rc : (List Int) → (List Int) → Int → Option ((List Int) × Unit)) (out3 : (List Int)), Inv cnt out3 → laws_toIntS_b3 rc laws_toIntS_a3 a0 out3 (cnt : Int) = res)
  (i0 : Nat) (hi : i0 ≤ cnt) (out3 : (List Int)) (h0 : Inv i0 out3) : laws_toIntS_F3 big a0 out3 (i0 : Int) = res := by
  have key : ∀ (m i : Nat) (out3 : (List Int)), i ≤ cnt → cnt < m + i → Inv i out3 → laws_toIntS_l3 big laws_toIntS_a3 m a0 out3 (i : Int) = res := by
    intro m
    induction m with
    | zero => intro i out3 h1 h2 h3; exact absurd h2 (by omega)
    | succ m ih =>
      intro i out3 h1 h2 h3
      rcases Nat.lt_or_ge i cnt with hlt | hge
      · exact hs _ i out3 hlt h3 (fun out3' h4 => ih (i + 1) out3' (by omega) (by omega) h4)
      · obtain rfl : i = cnt := by omega
        exact he _ out3 h3
  exact key big i0 out3 hi (by have := big_ge; omega) h0
theorem laws_toIntSS_h3 {a0 : (List (List Int))} (cnt : Nat) (Inv : Nat → (List (List Int)) → Prop) {res : Option ((List (List Int)) × Unit)} (hn : cnt ≤ 500000000000)
  (hs : ∀ (rc : (List (List Int)) → (List (List Int)) → Int → Option ((List (List Int)) × Unit)) (i : Nat) (out3 : (List (List Int))), i < cnt → Inv i out3 → (∀ (out3' : (List (List Int))), Inv (i + 1) out3' → rc a0 out3' ((i + 1 : Nat) : Int) = res) → laws_toIntSS_b3 rc laws_toIntSS_a3 a0 out3 (i : Int) = res)
  (he : ∀ (rc : (List (List Int)) → (List (List Int)) → Int → Option ((List (List Int)) × Unit)) (out3 : (List (List Int))), Inv cnt out3 → laws_toIntSS_b3 rc laws_toIntSS_a3 a0 out3 (cnt : Int) = res)
  (i0 : Nat) (hi : i0 ≤ cnt) (out3 : (List (List Int))) (h0 : Inv i0 out3) : laws_toIntSS_F3 big a0 out3 (i0 : Int) = res := by
  have key : ∀ (m i : Nat) (out3 : (List (List Int))), i ≤ cnt → cnt < m + i → Inv i out3 → laws_toIntSS_l3 big laws_toIntSS_a3 m a0 out3 (i : Int) = res := by
    intro m
    induction m with
    | zero => intro i out3 h1 h2 h3; exact absurd h2 (by omega)
    | succ m ih =>
      intro i out3 h1 h2 h3
      rcases Nat.lt_or_ge i cnt with hlt | hge
      · exact hs _ i out3 hlt h3 (fun out3' h4 => ih (i + 1) out3' (by omega) (by omega) h4)
      · obtain rfl : i = cnt := by omega
        exact he _ out3 h3
  exact key big i0 out3 hi (by have := big_ge; omega) h0
theorem spec_l1Rising_h2 {l0 : (List Int)} {lo1 : Int} {hi2 : Int} (cnt : Nat) (Inv : Nat → Prop) {res : Option (Bool × Unit)} (hn : cnt ≤ 500000000000)
  (hs : ∀ (rc : (List Int) → Int → Int → Int → Option (Bool × Unit)) (i : Nat), i < cnt → Inv i → (Inv (i + 1) → rc l0 lo1 hi2 ((i + 1 : Nat) : Int) = res) → spec_l1Rising_b2 rc spec_l1Rising_a2 l0 lo1 hi2 (i : Int) = res)
  (he : ∀ (rc : (List Int) → Int → Int → Int → Option (Bool × Unit)), Inv cnt → spec_l1Rising_b2 rc spec_l1Rising_a2 l0 lo1 hi2 (cnt : Int) = res)
  (i0 : Nat) (hi : i0 ≤ cnt) (h0 : Inv i0) : spec_l1Rising_F2 big l0 lo1 hi2 (i0 : Int) = res := by
  have key : ∀ (m i : Nat), i ≤ cnt → cnt < m + i → Inv i → spec_l1Rising_l2 big spec_l1Rising_a2 m l0 lo1 hi2 (i : Int) = res := by
    intro m
    induction m with
    | zero => intro i h1 h2 h3; exact absurd h2 (by omega)
    | succ m ih =>
      intro i h1 h2 h3
      rcases Nat.lt_or_ge i cnt with hlt | hge
      · exact hs _ i hlt h3 (fun h4 => ih (i + 1) (by omega) (by omega) h4)
      · obtain rfl : i = cnt := by omega
        exact he _ h3
  exact key big i0 hi (by have := big_ge; omega) h0
theorem spec_l1Has_h2 {l0 : (List Int)} {n1 : Int} (cnt : Nat) (Inv : Nat → Prop) {res : Option (Bool × Unit)} (hn : cnt ≤ 500000000000)
  (hs : ∀ (rc : (List Int) → Int → Int → Option (Bool × Unit)) (i : Nat), i < cnt → Inv i → (Inv (i + 1) → rc l0 n1 ((i + 1 : Nat) : Int) = res) → spec_l1Has_b2 rc spec_l1Has_a2 l0 n1 (i : Int) = res)
  (he : ∀ (rc : (List Int) → Int → Int → Option (Bool × Unit)), Inv cnt → spec_l1Has_b2 rc spec_l1Has_a2 l0 n1 (cnt : Int) = res)
  (i0 : Nat) (hi : i0 ≤ cnt) (h0 : Inv i0) : spec_l1Has_F2 big l0 n1 (i0 : Int) = res := by
  have key : ∀ (m i : Nat), i ≤ cnt → cnt < m + i → Inv i → spec_l1Has_l2 big spec_l1Has_a2 m l0 n1 (i : Int) = res := by
    intro m
    induction m with
    | zero => intro i h1 h2 h3; exact absurd h2 (by omega)
    | succ m ih =>
      intro i h1 h2 h3
      rcases Nat.lt_or_ge i cnt with hlt | hge
      · exact hs _ i hlt h3 (fun h4 => ih (i + 1) (by omega) (by omega) h4)
      · obtain rfl : i = cnt := by omega
        exact he _ h3
  exact key big i0 hi (by have := big_ge; omega) h0
theorem spec_l5Within_h2 {x0 : (List Int)} {y1 : (List Int)} (cnt : Nat) (Inv : Nat → Prop) {res : Option (Bool × Unit)} (hn : cnt ≤ 500000000000)
  (hs : ∀ (rc : (List Int) → (List Int) → Int → Option (Bool × Unit)) (i : Nat), i < cnt → Inv i → (Inv (i + 1) → rc x0 y1 ((i + 1 : Nat) : Int) = res) → spec_l5Within_b2 rc spec_l5Within_a2 x0 y1 (i : Int) = res)
  (he : ∀ (rc : (List Int) → (List Int) → Int → Option (Bool × Unit)), Inv cnt → spec_l5Within_b2 rc spec_l5Within_a2 x0 y1 (cnt : Int) = res)
  (i0 : Nat) (hi : i0 ≤ cnt) (h0 : Inv i0) : spec_l5Within_F2 big x0 y1 (i0 : Int) = res := by
  have key : ∀ (m i : Nat), i ≤ cnt → cnt < m + i → Inv i → spec_l5Within_l2 big spec_l5Within_a2 m x0 y1 (i : Int) = res := by
    intro m
    induction m with
    | zero => intro i h1 h2 h3; exact absurd h2 (by omega)
    | succ m ih =>
      intro i h1 h2 h3
      rcases Nat.lt_or_ge i cnt with hlt | hge
      · exact hs _ i hlt h3 (fun h4 => ih (i + 1) (by omega) (by omega) h4)
      · obtain rfl : i = cnt := by omega
        exact he _ h3
  exact key big i0 hi (by have := big_ge; omega) h0
theorem spec_l23Good_h5 {p1 : ((List (List Int)) × Unit)} {n3 : Int} (cnt : Nat) (Inv : Nat → Prop) {res : Option (Bool × Unit)} (hn : cnt ≤ 500000000000)
  (hs : ∀ (rc : ((List (List Int)) × Unit) → Int → Int → Option (Bool × Unit)) (i : Nat), i < cnt → Inv i → (Inv (i + 1) → rc p1 n3 ((i + 1 : Nat) : Int) = res) → spec_l23Good_b5 rc (spec_l23Good_a5 (spec_l23Good_F10 big)) p1 n3 (i : Int) = res)
  (he : ∀ (rc : ((List (List Int)) × Unit) → Int → Int → Option (Bool × Unit)), Inv cnt → spec_l23Good_b5 rc (spec_l23Good_a5 (spec_l23Good_F10 big)) p1 n3 (cnt : Int) = res)
  (i0 : Nat) (hi : i0 ≤ cnt) (h0 : Inv i0) : spec_l23Good_F5 big p1 n3 (i0 : Int) = res := by
  have key : ∀ (m i : Nat), i ≤ cnt → cnt < m + i → Inv i → spec_l23Good_l5 big (spec_l23Good_a5 (spec_l23Good_F10 big)) m p1 n3 (i : Int) = res := by
    intro m
    induction m with
    | zero => intro i h1 h2 h3; exact absurd h2 (by omega)
    | succ m ih =>
      intro i h1 h2 h3
      rcases Nat.lt_or_ge i cnt with hlt | hge
      · exact hs _ i hlt h3 (fun h4 => ih (i + 1) (by omega) (by omega) h4)
      · obtain rfl : i = cnt := by omega
        exact he _ h3
  exact key big i0 hi (by have := big_ge; omega) h0
theorem spec_l23Good_h10 {p1 : ((List (List Int)) × Unit)} {n3 : Int} (cnt : Nat) (Inv : Nat → Prop) {res : Option (Bool × Unit)} (hn : cnt ≤ 500000000000)
  (hs : ∀ (rc : ((List (List Int)) × Unit) → Int → Int → Option (Bool × Unit)) (i : Nat), i < cnt → Inv i → (Inv (i + 1) → rc p1 n3 ((i + 1 : Nat) : Int) = res) → spec_l23Good_b10 (spec_l23Good_F13 big rc spec_l23Good_a10) spec_l23Good_a10 p1 n3 (i : Int) = res)
  (he : ∀ (rc : ((List (List Int)) × Unit) → Int → Int → Option (Bool × Unit)), Inv cnt → spec_l23Good_b10 (spec_l23Good_F13 big rc spec_l23Good_a10) spec_l23Good_a10 p1 n3 (cnt : Int) = res)
  (i0 : Nat) (hi : i0 ≤ cnt) (h0 : Inv i0) : spec_l23Good_F10 big p1 n3 (i0 : Int) = res := by
  have key : ∀ (m i : Nat), i ≤ cnt → cnt < m + i → Inv i → spec_l23Good_l10 big spec_l23Good_a10 m p1 n3 (i : Int) = res := by
    intro m
    induction m with
    | zero => intro i h1 h2 h3; exact absurd h2 (by omega)
    | succ m ih =>
      intro i h1 h2 h3
      rcases Nat.lt_or_ge i cnt with hlt | hge
      · exact hs _ i hlt h3 (fun h4 => ih (i + 1) (by omega) (by omega) h4)
      · obtain rfl : i = cnt := by omega
        exact he _ h3
  exact key big i0 hi (by have := big_ge; omega) h0
theorem spec_l23Good_h13 {rec : ((List (List Int)) × Unit) → Int → Int → Option (Bool × Unit)} {k : Option (Bool × Unit)} {p1 : ((List (List Int)) × Unit)} {n3 : Int} {x5 : Int} (cnt : Nat) (Inv : Nat → Prop) {res : Option (Bool × Unit)} (hn : cnt ≤ 500000000000)
  (hs : ∀ (rc : ((List (List Int)) × Unit) → Int → Int → Int → Option (Bool × Unit)) (i : Nat), i < cnt → Inv i → (Inv (i + 1) → rc p1 n3 x5 ((i + 1 : Nat) : Int) = res) → spec_l23Good_b13 rc (spec_l23Good_a13 rec) p1 n3 x5 (i : Int) = res)
  (he : ∀ (rc : ((List (List Int)) × Unit) → Int → Int → Int → Option (Bool × Unit)), Inv cnt → spec_l23Good_b13 rc (spec_l23Good_a13 rec) p1 n3 x5 (cnt : Int) = res)
  (i0 : Nat) (hi : i0 ≤ cnt) (h0 : Inv i0) : spec_l23Good_F13 big rec k p1 n3 x5 (i0 : Int) = res := by
  have key : ∀ (m i : Nat), i ≤ cnt → cnt < m + i → Inv i → spec_l23Good_l13 big (spec_l23Good_a13 rec) m p1 n3 x5 (i : Int) = res := by
    intro m
    induction m with
    | zero => intro i h1 h2 h3; exact absurd h2 (by omega)
    | succ m ih =>
      intro i h1 h2 h3
      rcases Nat.lt_or_ge i cnt with hlt | hge
      · exact hs _ i hlt h3 (fun h4 => ih (i + 1) (by omega) (by omega) h4)
      · obtain rfl : i = cnt := by omega
        exact he _ h3
  exact key big i0 hi (by have := big_ge; omega) h0
theorem spec_l23Dual_h3 {p1 : ((List (List Int)) × Unit)} {t2 : ((List (List Int)) × Unit)} (cnt : Nat) (Inv : Nat → ((List (List Int)) × Unit) → Prop) {res : Option (((List (List Int)) × Unit) × Unit)} (hn : cnt ≤ 500000000000)
  (hs : ∀ (rc : ((List (List Int)) × Unit) → ((List (List Int)) × Unit) → ((List (List Int)) × Unit) → Int → Option (((List (List Int)) × Unit) × Unit)) (i : Nat) (out3 : ((List (List Int)) × Unit)), i < cnt → Inv i out3 → (∀ (out3' : ((List (List Int)) × Unit)), Inv (i + 1) out3' → rc p1 t2 out3' ((i + 1 : Nat) : Int) = res) → spec_l23Dual_b3 (spec_l23Dual_F7 big rc spec_l23Dual_a3) spec_l23Dual_a3 p1 t2 out3 (i : Int) = res)
  (he : ∀ (rc : ((List (List Int)) × Unit) → ((List (List Int)) × Unit) → ((List (List Int)) × Unit) → Int → Option (((List (List Int)) × Unit) × Unit)) (out3 : ((List (List Int)) × Unit)), Inv cnt out3 → spec_l23Dual_b3 (spec_l23Dual_F7 big rc spec_l23Dual_a3) spec_l23Dual_a3 p1 t2 out3 (cnt : Int) = res)
  (i0 : Nat) (hi : i0 ≤ cnt) (out3 : ((List (List Int)) × Unit)) (h0 : Inv i0 out3) : spec_l23Dual_F3 big p1 t2 out3 (i0 : Int) = res := by
  have key : ∀ (m i : Nat) (out3 : ((List (List Int)) × Unit)), i ≤ cnt → cnt < m + i → Inv i out3 → spec_l23Dual_l3 big spec_l23Dual_a3 m p1 t2 out3 (i : Int) = res := by
    intro m
    induction m with
    | zero => intro i out3 h1 h2 h3; exact absurd h2 (by omega)
    | succ m ih =>
      intro i out3 h1 h2 h3
      rcases Nat.lt_or_ge i cnt with hlt | hge
      · exact hs _ i out3 hlt h3 (fun out3' h4 => ih (i + 1) out3' (by omega) (by omega) h4)
      · obtain rfl : i = cnt := by omega
        exact he _ out3 h3
  exact key big i0 out3 hi (by have := big_ge; omega) h0
theorem spec_l23Dual_h7 {rec : ((List (List Int)) × Unit) → ((List (List Int)) × Unit) → ((List (List Int)) × Unit) → Int → Option (((List (List Int)) × Unit) × Unit)} {k : ((List (List Int)) × Unit) → ((List (List Int)) × Unit) → Option (((List (List Int)) × Unit) × Unit)} {p1 : ((List (List Int)) × Unit)} {t2 : ((List (List Int)) × Unit)} {out3 : ((List (List Int)) × Unit)} {x4 : Int} (cnt : Nat) (Inv : Nat → (List Int) → Prop) {res : Option (((List (List Int)) × Unit) × Unit)} (hn : cnt ≤ 500000000000)
  (hs : ∀ (rc : ((List (List Int)) × Unit) → ((List (List Int)) × Unit) → ((List (List Int)) × Unit) → Int → (List Int) → Int → Option (((List (List Int)) × Unit) × Unit)) (i : Nat) (below5 : (List Int)), i < cnt → Inv i below5 → (∀ (below5' : (List Int)), Inv (i + 1) below5' → rc p1 t2 out3 x4 below5' ((i + 1 : Nat) : Int) = res) → spec_l23Dual_b7 rc (spec_l23Dual_a7 rec) p1 t2 out3 x4 below5 (i : Int) = res)
  (he : ∀ (rc : ((List (List Int)) × Unit) → ((List (List Int)) × Unit) → ((List (List Int)) × Unit) → Int → (List Int) → Int → Option (((List (List Int)) × Unit) × Unit)) (below5 : (List Int)), Inv cnt below5 → spec_l23Dual_b7 rc (spec_l23Dual_a7 rec) p1 t2 out3 x4 below5 (cnt : Int) = res)
  (i0 : Nat) (hi : i0 ≤ cnt) (below5 : (List Int)) (h0 : Inv i0 below5) : spec_l23Dual_F7 big rec k p1 t2 out3 x4 below5 (i0 : Int) = res := by
  have key : ∀ (m i : Nat) (below5 : (List Int)), i ≤ cnt → cnt < m + i → Inv i below5 → spec_l23Dual_l7 big (spec_l23Dual_a7 rec) m p1 t2 out3 x4 below5 (i : Int) = res := by
    intro m
    induction m with
    | zero => intro i below5 h1 h2 h3; exact absurd h2 (by omega)
    | succ m ih =>
      intro i below5 h1 h2 h3
      rcases Nat.lt_or_ge i cnt with hlt | hge
      · exact hs _ i below5 hlt h3 (fun below5' h4 => ih (i + 1) below5' (by omega) (by omega) h4)
      · obtain rfl : i = cnt := by omega
        exact he _ below5 h3
  exact key big i0 below5 hi (by have := big_ge; omega) h0
theorem spec_l24Bound_h3 {some1 : (List Int)} {p2 : ((List (List Int)) × Unit)} (cnt : Nat) (Inv : Nat → (List Int) → Prop) {res : Option (Int × Unit)} (hn : cnt ≤ 500000000000)
  (hs : ∀ (rc : (List Int) → ((List (List Int)) × Unit) → (List Int) → Int → Option (Int × Unit)) (i : Nat) (low5 : (List Int)), i < cnt → Inv i low5 → (∀ (low5' : (List Int)), Inv (i + 1) low5' → rc some1 p2 low5' ((i + 1 : Nat) : Int) = res) → spec_l24Bound_b3 (spec_l24Bound_F7 big rc (spec_l24Bound_a3 (spec_l24Bound_F13 big))) (spec_l24Bound_a3 (spec_l24Bound_F13 big)) some1 p2 low5 (i : Int) = res)
  (he : ∀ (rc : (List Int) → ((List (List Int)) × Unit) → (List Int) → Int → Option (Int × Unit)) (low5 : (List Int)), Inv cnt low5 → spec_l24Bound_b3 (spec_l24Bound_F7 big rc (spec_l24Bound_a3 (spec_l24Bound_F13 big))) (spec_l24Bound_a3 (spec_l24Bound_F13 big)) some1 p2 low5 (cnt : Int) = res)
  (i0 : Nat) (hi : i0 ≤ cnt) (low5 : (List Int)) (h0 : Inv i0 low5) : spec_l24Bound_F3 big some1 p2 low5 (i0 : Int) = res := by
  have key : ∀ (m i : Nat) (low5 : (List Int)), i ≤ cnt → cnt < m + i → Inv i low5 → spec_l24Bound_l3 big (spec_l24Bound_a3 (spec_l24Bound_F13 big)) m some1 p2 low5 (i : Int) = res := by
    intro m
    induction m with
    | zero => intro i low5 h1 h2 h3; exact absurd h2 (by omega)
    | succ m ih =>
      intro i low5 h1 h2 h3
      rcases Nat.lt_or_ge i cnt with hlt | hge
      · exact hs _ i low5 hlt h3 (fun low5' h4 => ih (i + 1) low5' (by omega) (by omega) h4)
      · obtain rfl : i = cnt := by omega
        exact he _ low5 h3
  exact key big i0 low5 hi (by have := big_ge; omega) h0
theorem spec_l24Bound_h7 {rec : (List Int) → ((List (List Int)) × Unit) → (List Int) → Int → Option (Int × Unit)} {k : ((List (List Int)) × Unit) → (List Int) → Option (Int × Unit)} {some1 : (List Int)} {p2 : ((List (List Int)) × Unit)} {low5 : (List Int)} {z6 : Int} (cnt : Nat) (Inv : Nat → Bool → Prop) {res : Option (Int × Unit)} (hn : cnt ≤ 500000000000)
  (hs : ∀ (rc : (List Int) → ((List (List Int)) × Unit) → (List Int) → Int → Bool → Int → Option (Int × Unit)) (i : Nat) (all7 : Bool), i < cnt → Inv i all7 → (∀ (all7' : Bool), Inv (i + 1) all7' → rc some1 p2 low5 z6 all7' ((i + 1 : Nat) : Int) = res) → spec_l24Bound_b7 rc (spec_l24Bound_a7 rec) some1 p2 low5 z6 all7 (i : Int) = res)
  (he : ∀ (rc : (List Int) → ((List (List Int)) × Unit) → (List Int) → Int → Bool → Int → Option (Int × Unit)) (all7 : Bool), Inv cnt all7 → spec_l24Bound_b7 rc (spec_l24Bound_a7 rec) some1 p2 low5 z6 all7 (cnt : Int) = res)
  (i0 : Nat) (hi : i0 ≤ cnt) (all7 : Bool) (h0 : Inv i0 all7) : spec_l24Bound_F7 big rec k some1 p2 low5 z6 all7 (i0 : Int) = res := by
  have key : ∀ (m i : Nat) (all7 : Bool), i ≤ cnt → cnt < m + i → Inv i all7 → spec_l24Bound_l7 big (spec_l24Bound_a7 rec) m some1 p2 low5 z6 all7 (i : Int) = res := by
    intro m
    induction m with
    | zero => intro i all7 h1 h2 h3; exact absurd h2 (by omega)
    | succ m ih =>
      intro i all7 h1 h2 h3
      rcases Nat.lt_or_ge i cnt with hlt | hge
      · exact hs _ i all7 hlt h3 (fun all7' h4 => ih (i + 1) all7' (by omega) (by omega) h4)
      · obtain rfl : i = cnt := by omega
        exact he _ all7 h3
  exact key big i0 all7 hi (by have := big_ge; omega) h0
theorem spec_l24Bound_h13 {p2 : ((List (List Int)) × Unit)} {low5 : (List Int)} (cnt : Nat) (Inv : Nat → Prop) {res : Option (Int × Unit)} (hn : cnt ≤ 500000000000)
  (hs : ∀ (rc : ((List (List Int)) × Unit) → (List Int) → Int → Option (Int × Unit)) (i : Nat), i < cnt → Inv i → (Inv (i + 1) → rc p2 low5 ((i + 1 : Nat) : Int) = res) → spec_l24Bound_b13 rc spec_l24Bound_a13 p2 low5 (i : Int) = res)
  (he : ∀ (rc : ((List (List Int)) × Unit) → (List Int) → Int → Option (Int × Unit)), Inv cnt → spec_l24Bound_b13 rc spec_l24Bound_a13 p2 low5 (cnt : Int) = res)
  (i0 : Nat) (hi : i0 ≤ cnt) (h0 : Inv i0) : spec_l24Bound_F13 big p2 low5 (i0 : Int) = res := by
  have key : ∀ (m i : Nat), i ≤ cnt → cnt < m + i → Inv i → spec_l24Bound_l13 big spec_l24Bound_a13 m p2 low5 (i : Int) = res := by
    intro m
    induction m with
    | zero => intro i h1 h2 h3; exact absurd h2 (by omega)
    | succ m ih =>
      intro i h1 h2 h3
      rcases Nat.lt_or_ge i cnt with hlt | hge
      · exact hs _ i hlt h3 (fun h4 => ih (i + 1) (by omega) (by omega) h4)
      · obtain rfl : i = cnt := by omega
        exact he _ h3
  exact key big i0 hi (by have := big_ge; omega) h0
theorem spec_l24Good_h5 {p1 : ((List (List Int)) × Unit)} {dual3 : ((List (List Int)) × Unit)} (cnt : Nat) (Inv : Nat → Prop) {res : Option (Bool × Unit)} (hn : cnt ≤ 500000000000)
  (hs : ∀ (rc : ((List (List Int)) × Unit) → ((List (List Int)) × Unit) → Int → Option (Bool × Unit)) (i : Nat), i < cnt → Inv i → (Inv (i + 1) → rc p1 dual3 ((i + 1 : Nat) : Int) = res) → spec_l24Good_b5 (spec_l24Good_F8 big rc spec_l24Good_a5) spec_l24Good_a5 p1 dual3 (i : Int) = res)
  (he : ∀ (rc : ((List (List Int)) × Unit) → ((List (List Int)) × Unit) → Int → Option (Bool × Unit)), Inv cnt → spec_l24Good_b5 (spec_l24Good_F8 big rc spec_l24Good_a5) spec_l24Good_a5 p1 dual3 (cnt : Int) = res)
  (i0 : Nat) (hi : i0 ≤ cnt) (h0 : Inv i0) : spec_l24Good_F5 big p1 dual3 (i0 : Int) = res := by
  have key : ∀ (m i : Nat), i ≤ cnt → cnt < m + i → Inv i → spec_l24Good_l5 big spec_l24Good_a5 m p1 dual3 (i : Int) = res := by
    intro m
    induction m with
    | zero => intro i h1 h2 h3; exact absurd h2 (by omega)
    | succ m ih =>
      intro i h1 h2 h3
      rcases Nat.lt_or_ge i cnt with hlt | hge
      · exact hs _ i hlt h3 (fun h4 => ih (i + 1) (by omega) (by omega) h4)
      · obtain rfl : i = cnt := by omega
        exact he _ h3
  exact key big i0 hi (by have := big_ge; omega) h0
theorem spec_l24Good_h8 {rec : ((List (List Int)) × Unit) → ((List (List Int)) × Unit) → Int → Option (Bool × Unit)} {k : Option (Bool × Unit)} {p1 : ((List (List Int)) × Unit)} {dual3 : ((List (List Int)) × Unit)} {x4 : Int} (cnt : Nat) (Inv : Nat → Prop) {res : Option (Bool × Unit)} (hn : cnt ≤ 500000000000)
  (hs : ∀ (rc : ((List (List Int)) × Unit) → ((List (List Int)) × Unit) → Int → Int → Option (Bool × Unit)) (i : Nat), i < cnt → Inv i → (Inv (i + 1) → rc p1 dual3 x4 ((i + 1 : Nat) : Int) = res) → spec_l24Good_b8 rc (spec_l24Good_a8 rec) p1 dual3 x4 (i : Int) = res)
  (he : ∀ (rc : ((List (List Int)) × Unit) → ((List (List Int)) × Unit) → Int → Int → Option (Bool × Unit)), Inv cnt → spec_l24Good_b8 rc (spec_l24Good_a8 rec) p1 dual3 x4 (cnt : Int) = res)
  (i0 : Nat) (hi : i0 ≤ cnt) (h0 : Inv i0) : spec_l24Good_F8 big rec k p1 dual3 x4 (i0 : Int) = res := by
  have key : ∀ (m i : Nat), i ≤ cnt → cnt < m + i → Inv i → spec_l24Good_l8 big (spec_l24Good_a8 rec) m p1 dual3 x4 (i : Int) = res := by
    intro m
    induction m with
    | zero => intro i h1 h2 h3; exact absurd h2 (by omega)
    | succ m ih =>
      intro i h1 h2 h3
      rcases Nat.lt_or_ge i cnt with hlt | hge
      · exact hs _ i hlt h3 (fun h4 => ih (i + 1) (by omega) (by omega) h4)
      · obtain rfl : i = cnt := by omega
        exact he _ h3
  exact key big i0 hi (by have := big_ge; omega) h0
theorem spec_l25Apart_h3 {p1 : ((List (List Int)) × Unit)} {n4 : Int} (cnt : Nat) (Inv : Nat → Prop) {res : Option (((List Int) × (Bool × Unit)) × Unit)} (hn : cnt ≤ 500000000000)
  (hs : ∀ (rc : ((List (List Int)) × Unit) → Int → Int → Option (((List Int) × (Bool × Unit)) × Unit)) (i : Nat), i < cnt → Inv i → (Inv (i + 1) → rc p1 n4 ((i + 1 : Nat) : Int) = res) → spec_l25Apart_b3 (spec_l25Apart_F6 big rc spec_l25Apart_a3) spec_l25Apart_a3 p1 n4 (i : Int) = res)
  (he : ∀ (rc : ((List (List Int)) × Unit) → Int → Int → Option (((List Int) × (Bool × Unit)) × Unit)), Inv cnt → spec_l25Apart_b3 (spec_l25Apart_F6 big rc spec_l25Apart_a3) spec_l25Apart_a3 p1 n4 (cnt : Int) = res)
  (i0 : Nat) (hi : i0 ≤ cnt) (h0 : Inv i0) : spec_l25Apart_F3 big p1 n4 (i0 : Int) = res := by
  have key : ∀ (m i : Nat), i ≤ cnt → cnt < m + i → Inv i → spec_l25Apart_l3 big spec_l25Apart_a3 m p1 n4 (i : Int) = res := by
    intro m
    induction m with
    | zero => intro i h1 h2 h3; exact absurd h2 (by omega)
    | succ m ih =>
      intro i h1 h2 h3
      rcases Nat.lt_or_ge i cnt with hlt | hge
      · exact hs _ i hlt h3 (fun h4 => ih (i + 1) (by omega) (by omega) h4)
      · obtain rfl : i = cnt := by omega
        exact he _ h3
  exact key big i0 hi (by have := big_ge; omega) h0
theorem spec_l25Apart_q3 {p1 : ((List (List Int)) × Unit)} {n4 : Int} (cnt : Nat) (Inv : Nat → Prop) {Q : Option (((List Int) × (Bool × Unit)) × Unit) → Prop} (hn : cnt ≤ 500000000000)
  (hs : ∀ (rc : ((List (List Int)) × Unit) → Int → Int → Option (((List Int) × (Bool × Unit)) × Unit)) (i : Nat), i < cnt → Inv i → (Inv (i + 1) → Q (rc p1 n4 ((i + 1 : Nat) : Int))) → Q (spec_l25Apart_b3 (spec_l25Apart_F6 big rc spec_l25Apart_a3) spec_l25Apart_a3 p1 n4 (i : Int)))
  (he : ∀ (rc : ((List (List Int)) × Unit) → Int → Int → Option (((List Int) × (Bool × Unit)) × Unit)), Inv cnt → Q (spec_l25Apart_b3 (spec_l25Apart_F6 big rc spec_l25Apart_a3) spec_l25Apart_a3 p1 n4 (cnt : Int)))
  (i0 : Nat) (hi : i0 ≤ cnt) (h0 : Inv i0) : Q (spec_l25Apart_F3 big p1 n4 (i0 : Int)) := by
  have key : ∀ (m i : Nat), i ≤ cnt → cnt < m + i → Inv i → Q (spec_l25Apart_l3 big spec_l25Apart_a3 m p1 n4 (i : Int)) := by
    intro m
    induction m with
    | zero => intro i h1 h2 h3; exact absurd h2 (by omega)
    | succ m ih =>
      intro i h1 h2 h3
      rcases Nat.lt_or_ge i cnt with hlt | hge
      · exact hs _ i hlt h3 (fun h4 => ih (i + 1) (by omega) (by omega) h4)
      · obtain rfl : i = cnt := by omega
        exact he _ h3
  exact key big i0 hi (by have := big_ge; omega) h0
theorem spec_l25Apart_h6 {rec : ((List (List Int)) × Unit) → Int → Int → Option (((List Int) × (Bool × Unit)) × Unit)} {k : Option (((List Int) × (Bool × Unit)) × Unit)} {p1 : ((List (List Int)) × Unit)} {n4 : Int} {x5 : Int} (cnt : Nat) (Inv : Nat → Prop) {res : Option (((List Int) × (Bool × Unit)) × Unit)} (hn : cnt ≤ 500000000000)
  (hs : ∀ (rc : ((List (List Int)) × Unit) → Int → Int → Int → Option (((List Int) × (Bool × Unit)) × Unit)) (i : Nat), i < cnt → Inv i → (Inv (i + 1) → rc p1 n4 x5 ((i + 1 : Nat) : Int) = res) → spec_l25Apart_b6 (spec_l25Apart_F9 big rc (spec_l25Apart_a6 rec)) (spec_l25Apart_a6 rec) p1 n4 x5 (i : Int) = res)
  (he : ∀ (rc : ((List (List Int)) × Unit) → Int → Int → Int → Option (((List Int) × (Bool × Unit)) × Unit)), Inv cnt → spec_l25Apart_b6 (spec_l25Apart_F9 big rc (spec_l25Apart_a6 rec)) (spec_l25Apart_a6 rec) p1 n4 x5 (cnt : Int) = res)
  (i0 : Nat) (hi : i0 ≤ cnt) (h0 : Inv i0) : spec_l25Apart_F6 big rec k p1 n4 x5 (i0 : Int) = res := by
  have key : ∀ (m i : Nat), i ≤ cnt → cnt < m + i → Inv i → spec_l25Apart_l6 big (spec_l25Apart_a6 rec) m p1 n4 x5 (i : Int) = res := by
    intro m
    induction m with
    | zero => intro i h1 h2 h3; exact absurd h2 (by omega)
    | succ m ih =>
      intro i h1 h2 h3
      rcases Nat.lt_or_ge i cnt with hlt | hge
      · exact hs _ i hlt h3 (fun h4 => ih (i + 1) (by omega) (by omega) h4)
      · obtain rfl : i = cnt := by omega
        exact he _ h3
  exact key big i0 hi (by have := big_ge; omega) h0
theorem spec_l25Apart_q6 {rec : ((List (List Int)) × Unit) → Int → Int → Option (((List Int) × (Bool × Unit)) × Unit)} {k : Option (((List Int) × (Bool × Unit)) × Unit)} {p1 : ((List (List Int)) × Unit)} {n4 : Int} {x5 : Int} (cnt : Nat) (Inv : Nat → Prop) {Q : Option (((List Int) × (Bool × Unit)) × Unit) → Prop} (hn : cnt ≤ 500000000000)
  (hs : ∀ (rc : ((List (List Int)) × Unit) → Int → Int → Int → Option (((List Int) × (Bool × Unit)) × Unit)) (i : Nat), i < cnt → Inv i → (Inv (i + 1) → Q (rc p1 n4 x5 ((i + 1 : Nat) : Int))) → Q (spec_l25Apart_b6 (spec_l25Apart_F9 big rc (spec_l25Apart_a6 rec)) (spec_l25Apart_a6 rec) p1 n4 x5 (i : Int)))
  (he : ∀ (rc : ((List (List Int)) × Unit) → Int → Int → Int → Option (((List Int) × (Bool × Unit)) × Unit)), Inv cnt → Q (spec_l25Apart_b6 (spec_l25Apart_F9 big rc (spec_l25Apart_a6 rec)) (spec_l25Apart_a6 rec) p1 n4 x5 (cnt : Int)))
  (i0 : Nat) (hi : i0 ≤ cnt) (h0 : Inv i0) : Q (spec_l25Apart_F6 big rec k p1 n4 x5 (i0 : Int)) := by
  have key : ∀ (m i : Nat), i ≤ cnt → cnt < m + i → Inv i → Q (spec_l25Apart_l6 big (spec_l25Apart_a6 rec) m p1 n4 x5 (i : Int)) := by
    intro m
    induction m with
    | zero => intro i h1 h2 h3; exact absurd h2 (by omega)
    | succ m ih =>
      intro i h1 h2 h3
      rcases Nat.lt_or_ge i cnt with hlt | hge
      · exact hs _ i hlt h3 (fun h4 => ih (i + 1) (by omega) (by omega) h4)
      · obtain rfl : i = cnt := by omega
        exact he _ h3
  exact key big i0 hi (by have := big_ge; omega) h0
theorem spec_l25Apart_h9 {rec : ((List (List Int)) × Unit) → Int → Int → Int → Option (((List Int) × (Bool × Unit)) × Unit)} {k : ((List (List Int)) × Unit) → Int → Int → Option (((List Int) × (Bool × Unit)) × Unit)} {p1 : ((List (List Int)) × Unit)} {n4 : Int} {x5 : Int} {y6 : Int} (cnt : Nat) (Inv : Nat → Prop) {res : Option (((List Int) × (Bool × Unit)) × Unit)} (hn : cnt ≤ 500000000000)
  (hs : ∀ (rc : ((List (List Int)) × Unit) → Int → Int → Int → Int → Option (((List Int) × (Bool × Unit)) × Unit)) (i : Nat), i < cnt → Inv i → (Inv (i + 1) → rc p1 n4 x5 y6 ((i + 1 : Nat) : Int) = res) → spec_l25Apart_b9 rc (spec_l25Apart_a9 rec) p1 n4 x5 y6 (i : Int) = res)
  (he : ∀ (rc : ((List (List Int)) × Unit) → Int → Int → Int → Int → Option (((List Int) × (Bool × Unit)) × Unit)), Inv cnt → spec_l25Apart_b9 rc (spec_l25Apart_a9 rec) p1 n4 x5 y6 (cnt : Int) = res)
  (i0 : Nat) (hi : i0 ≤ cnt) (h0 : Inv i0) : spec_l25Apart_F9 big rec k p1 n4 x5 y6 (i0 : Int) = res := by
  have key : ∀ (m i : Nat), i ≤ cnt → cnt < m + i → Inv i → spec_l25Apart_l9 big (spec_l25Apart_a9 rec) m p1 n4 x5 y6 (i : Int) = res := by
    intro m
    induction m with
    | zero => intro i h1 h2 h3; exact absurd h2 (by omega)
    | succ m ih =>
      intro i h1 h2 h3
      rcases Nat.lt_or_ge i cnt with hlt | hge
      · exact hs _ i hlt h3 (fun h4 => ih (i + 1) (by omega) (by omega) h4)
      · obtain rfl : i = cnt := by omega
        exact he _ h3
  exact key big i0 hi (by have := big_ge; omega) h0
theorem spec_l25Apart_q9 {rec : ((List (List Int)) × Unit) → Int → Int → Int → Option (((List Int) × (Bool × Unit)) × Unit)} {k : ((List (List Int)) × Unit) → Int → Int → Option (((List Int) × (Bool × Unit)) × Unit)} {p1 : ((List (List Int)) × Unit)} {n4 : Int} {x5 : Int} {y6 : Int} (cnt : Nat) (Inv : Nat → Prop) {Q : Option (((List Int) × (Bool × Unit)) × Unit) → Prop} (hn : cnt ≤ 500000000000)
  (hs : ∀ (rc : ((List (List Int)) × Unit) → Int → Int → Int → Int → Option (((List Int) × (Bool × Unit)) × Unit)) (i : Nat), i < cnt → Inv i → (Inv (i + 1) → Q (rc p1 n4 x5 y6 ((i + 1 : Nat) : Int))) → Q (spec_l25Apart_b9 rc (spec_l25Apart_a9 rec) p1 n4 x5 y6 (i : Int)))
  (he : ∀ (rc : ((List (List Int)) × Unit) → Int → Int → Int → Int → Option (((List Int) × (Bool × Unit)) × Unit)), Inv cnt → Q (spec_l25Apart_b9 rc (spec_l25Apart_a9 rec) p1 n4 x5 y6 (cnt : Int)))
  (i0 : Nat) (hi : i0 ≤ cnt) (h0 : Inv i0) : Q (spec_l25Apart_F9 big rec k p1 n4 x5 y6 (i0 : Int)) := by
  have key : ∀ (m i : Nat), i ≤ cnt → cnt < m + i → Inv i → Q (spec_l25Apart_l9 big (spec_l25Apart_a9 rec) m p1 n4 x5 y6 (i : Int)) := by
    intro m
    induction m with
    | zero => intro i h1 h2 h3; exact absurd h2 (by omega)
    | succ m ih =>
      intro i h1 h2 h3
      rcases Nat.lt_or_ge i cnt with hlt | hge
      · exact hs _ i hlt h3 (fun h4 => ih (i + 1) (by omega) (by omega) h4)
      · obtain rfl : i = cnt := by omega
        exact he _ h3
  exact key big i0 hi (by have := big_ge; omega) h0
theorem spec_l26Relative_h3 {x1 : Int} {y2 : Int} {z3 : Int} {p4 : ((List (List Int)) × Unit)} (cnt : Nat) (Inv : Nat → (List Int) → Prop) {res : Option ((List Int) × Unit)} (hn : cnt ≤ 500000000000)
  (hs : ∀ (rc : Int → Int → Int → ((List (List Int)) × Unit) → (List Int) → Int → Option ((List Int) × Unit)) (i : Nat) (out9 : (List Int)), i < cnt → Inv i out9 → (∀ (out9' : (List Int)), Inv (i + 1) out9' → rc x1 y2 z3 p4 out9' ((i + 1 : Nat) : Int) = res) → spec_l26Relative_b3 rc spec_l26Relative_a3 x1 y2 z3 p4 out9 (i : Int) = res)
  (he : ∀ (rc : Int → Int → Int → ((List (List Int)) × Unit) → (List Int) → Int → Option ((List Int) × Unit)) (out9 : (List Int)), Inv cnt out9 → spec_l26Relative_b3 rc spec_l26Relative_a3 x1 y2 z3 p4 out9 (cnt : Int) = res)
  (i0 : Nat) (hi : i0 ≤ cnt) (out9 : (List Int)) (h0 : Inv i0 out9) : spec_l26Relative_F3 big x1 y2 z3 p4 out9 (i0 : Int) = res := by
  have key : ∀ (m i : Nat) (out9 : (List Int)), i ≤ cnt → cnt < m + i → Inv i out9 → spec_l26Relative_l3 big spec_l26Relative_a3 m x1 y2 z3 p4 out9 (i : Int) = res := by
    intro m
    induction m with
    | zero => intro i out9 h1 h2 h3; exact absurd h2 (by omega)
    | succ m ih =>
      intro i out9 h1 h2 h3
      rcases Nat.lt_or_ge i cnt with hlt | hge
      · exact hs _ i out9 hlt h3 (fun out9' h4 => ih (i + 1) out9' (by omega) (by omega) h4)
      · obtain rfl : i = cnt := by omega
        exact he _ out9 h3
  exact key big i0 out9 hi (by have := big_ge; omega) h0
theorem spec_l26Counts_h3 {p1 : ((List (List Int)) × Unit)} (cnt : Nat) (Inv : Nat → (List Int) → Prop) {res : Option ((List Int) × Unit)} (hn : cnt ≤ 500000000000)
  (hs : ∀ (rc : ((List (List Int)) × Unit) → (List Int) → Int → Option ((List Int) × Unit)) (i : Nat) (out3 : (List Int)), i < cnt → Inv i out3 → (∀ (out3' : (List Int)), Inv (i + 1) out3' → rc p1 out3' ((i + 1 : Nat) : Int) = res) → spec_l26Counts_b3 rc spec_l26Counts_a3 p1 out3 (i : Int) = res)
  (he : ∀ (rc : ((List (List Int)) × Unit) → (List Int) → Int → Option ((List Int) × Unit)) (out3 : (List Int)), Inv cnt out3 → spec_l26Counts_b3 rc spec_l26Counts_a3 p1 out3 (cnt : Int) = res)
  (i0 : Nat) (hi : i0 ≤ cnt) (out3 : (List Int)) (h0 : Inv i0 out3) : spec_l26Counts_F3 big p1 out3 (i0 : Int) = res := by
  have key : ∀ (m i : Nat) (out3 : (List Int)), i ≤ cnt → cnt < m + i → Inv i out3 → spec_l26Counts_l3 big spec_l26Counts_a3 m p1 out3 (i : Int) = res := by
    intro m
    induction m with
    | zero => intro i out3 h1 h2 h3; exact absurd h2 (by omega)
    | succ m ih =>
      intro i out3 h1 h2 h3
      rcases Nat.lt_or_ge i cnt with hlt | hge
      · exact hs _ i out3 hlt h3 (fun out3' h4 => ih (i + 1) out3' (by omega) (by omega) h4)
      · obtain rfl : i = cnt := by omega
        exact he _ out3 h3
  exact key big i0 out3 hi (by have := big_ge; omega) h0
theorem impl_newOrder_h3 {n0 : Int} {t8 : Int} (cnt : Nat) (Inv : Nat → (List (List Bool)) → Prop) {res : Option ((List (List Bool)) × Unit)} (hn : cnt ≤ 500000000000)
  (hs : ∀ (rc : Int → (List (List Bool)) → Int → Int → Option ((List (List Bool)) × Unit)) (i : Nat) (o3 : (List (List Bool))), i < cnt → Inv i o3 → (∀ (o3' : (List (List Bool))), Inv (i + 1) o3' → rc n0 o3' t8 ((i + 1 : Nat) : Int) = res) → impl_newOrder_b3 rc impl_newOrder_a3 n0 o3 t8 (i : Int) = res)
  (he : ∀ (rc : Int → (List (List Bool)) → Int → Int → Option ((List (List Bool)) × Unit)) (o3 : (List (List Bool))), Inv cnt o3 → impl_newOrder_b3 rc impl_newOrder_a3 n0 o3 t8 (cnt : Int) = res)
  (i0 : Nat) (hi : i0 ≤ cnt) (o3 : (List (List Bool))) (h0 : Inv i0 o3) : impl_newOrder_F3 big n0 o3 t8 (i0 : Int) = res := by
  have key : ∀ (m i : Nat) (o3 : (List (List Bool))), i ≤ cnt → cnt < m + i → Inv i o3 → impl_newOrder_l3 big impl_newOrder_a3 m n0 o3 t8 (i : Int) = res := by
    intro m
    induction m with
    | zero => intro i o3 h1 h2 h3; exact absurd h2 (by omega)
    | succ m ih =>
      intro i o3 h1 h2 h3
      rcases Nat.lt_or_ge i cnt with hlt | hge
      · exact hs _ i o3 hlt h3 (fun o3' h4 => ih (i + 1) o3' (by omega) (by omega) h4)
      · obtain rfl : i = cnt := by omega
        exact he _ o3 h3
  exact key big i0 o3 hi (by have := big_ge; omega) h0
theorem impl_rises_h2 {list0 : (List Int)} (cnt : Nat) (Inv : Nat → Prop) {res : Option (Bool × Unit)} (hn : cnt ≤ 500000000000)
  (hs : ∀ (rc : (List Int) → Int → Option (Bool × Unit)) (i : Nat), i < cnt → Inv i → (Inv (i + 1) → rc list0 ((i + 1 : Nat) : Int) = res) → impl_rises_b2 rc impl_rises_a2 list0 (i : Int) = res)
  (he : ∀ (rc : (List Int) → Int → Option (Bool × Unit)), Inv cnt → impl_rises_b2 rc impl_rises_a2 list0 (cnt : Int) = res)
  (i0 : Nat) (hi : i0 ≤ cnt) (h0 : Inv i0) : impl_rises_F2 big list0 (i0 : Int) = res := by
  have key : ∀ (m i : Nat), i ≤ cnt → cnt < m + i → Inv i → impl_rises_l2 big impl_rises_a2 m list0 (i : Int) = res := by
    intro m
    induction m with
    | zero => intro i h1 h2 h3; exact absurd h2 (by omega)
    | succ m ih =>
      intro i h1 h2 h3
      rcases Nat.lt_or_ge i cnt with hlt | hge
      · exact hs _ i hlt h3 (fun h4 => ih (i + 1) (by omega) (by omega) h4)
      · obtain rfl : i = cnt := by omega
        exact he _ h3
  exact key big i0 hi (by have := big_ge; omega) h0
theorem impl_inSize_h2 {n1 : Int} {t7 : (List Int)} {t8 : Int} (cnt : Nat) (Inv : Nat → Prop) {res : Option (Bool × Unit)} (hn : cnt ≤ 500000000000)
  (hs : ∀ (rc : Int → (List Int) → Int → Int → Option (Bool × Unit)) (i : Nat), i < cnt → Inv i → (Inv (i + 1) → rc n1 t7 t8 ((i + 1 : Nat) : Int) = res) → impl_inSize_b2 rc impl_inSize_a2 n1 t7 t8 (i : Int) = res)
  (he : ∀ (rc : Int → (List Int) → Int → Int → Option (Bool × Unit)), Inv cnt → impl_inSize_b2 rc impl_inSize_a2 n1 t7 t8 (cnt : Int) = res)
  (i0 : Nat) (hi : i0 ≤ cnt) (h0 : Inv i0) : impl_inSize_F2 big n1 t7 t8 (i0 : Int) = res := by
  have key : ∀ (m i : Nat), i ≤ cnt → cnt < m + i → Inv i → impl_inSize_l2 big impl_inSize_a2 m n1 t7 t8 (i : Int) = res := by
    intro m
    induction m with
    | zero => intro i h1 h2 h3; exact absurd h2 (by omega)
    | succ m ih =>
      intro i h1 h2 h3
      rcases Nat.lt_or_ge i cnt with hlt | hge
      · exact hs _ i hlt h3 (fun h4 => ih (i + 1) (by omega) (by omega) h4)
      · obtain rfl : i = cnt := by omega
        exact he _ h3
  exact key big i0 hi (by have := big_ge; omega) h0
theorem impl_order_isOrder_h2 {o0 : (List (List Bool))} {t7 : Int} (cnt : Nat) (Inv : Nat → Prop) {res : Option (Bool × Unit)} (hn : cnt ≤ 500000000000)
  (hs : ∀ (rc : (List (List Bool)) → Int → Int → Option (Bool × Unit)) (i : Nat), i < cnt → Inv i → (Inv (i + 1) → rc o0 t7 ((i + 1 : Nat) : Int) = res) → impl_order_isOrder_b2 (impl_order_isOrder_F7 big rc impl_order_isOrder_a2) impl_order_isOrder_a2 o0 t7 (i : Int) = res)
  (he : ∀ (rc : (List (List Bool)) → Int → Int → Option (Bool × Unit)), Inv cnt → impl_order_isOrder_b2 (impl_order_isOrder_F7 big rc impl_order_isOrder_a2) impl_order_isOrder_a2 o0 t7 (cnt : Int) = res)
  (i0 : Nat) (hi : i0 ≤ cnt) (h0 : Inv i0) : impl_order_isOrder_F2 big o0 t7 (i0 : Int) = res := by
  have key : ∀ (m i : Nat), i ≤ cnt → cnt < m + i → Inv i → impl_order_isOrder_l2 big impl_order_isOrder_a2 m o0 t7 (i : Int) = res := by
    intro m
    induction m with
    | zero => intro i h1 h2 h3; exact absurd h2 (by omega)
    | succ m ih =>
      intro i h1 h2 h3
      rcases Nat.lt_or_ge i cnt with hlt | hge
      · exact hs _ i hlt h3 (fun h4 => ih (i + 1) (by omega) (by omega) h4)
      · obtain rfl : i = cnt := by omega
        exact he _ h3
  exact key big i0 hi (by have := big_ge; omega) h0
theorem impl_order_isOrder_h7 {rec : (List (List Bool)) → Int → Int → Option (Bool × Unit)} {k : Option (Bool × Unit)} {o0 : (List (List Bool))} {x3 : Int} {t7 : Int} {t8 : Int} {t20 : Int} (cnt : Nat) (Inv : Nat → Prop) {res : Option (Bool × Unit)} (hn : cnt ≤ 500000000000)
  (hs : ∀ (rc : (List (List Bool)) → Int → Int → Int → Int → Int → Option (Bool × Unit)) (i : Nat), i < cnt → Inv i → (Inv (i + 1) → rc o0 x3 t7 t8 t20 ((i + 1 : Nat) : Int) = res) → impl_order_isOrder_b7 (impl_order_isOrder_F12 big rc (impl_order_isOrder_a7 rec)) (impl_order_isOrder_a7 rec) o0 x3 t7 t8 t20 (i : Int) = res)
  (he : ∀ (rc : (List (List Bool)) → Int → Int → Int → Int → Int → Option (Bool × Unit)), Inv cnt → impl_order_isOrder_b7 (impl_order_isOrder_F12 big rc (impl_order_isOrder_a7 rec)) (impl_order_isOrder_a7 rec) o0 x3 t7 t8 t20 (cnt : Int) = res)
  (i0 : Nat) (hi : i0 ≤ cnt) (h0 : Inv i0) : impl_order_isOrder_F7 big rec k o0 x3 t7 t8 t20 (i0 : Int) = res := by
  have key : ∀ (m i : Nat), i ≤ cnt → cnt < m + i → Inv i → impl_order_isOrder_l7 big (impl_order_isOrder_a7 rec) m o0 x3 t7 t8 t20 (i : Int) = res := by
    intro m
    induction m with
    | zero => intro i h1 h2 h3; exact absurd h2 (by omega)
    | succ m ih =>
      intro i h1 h2 h3
      rcases Nat.lt_or_ge i cnt with hlt | hge
      · exact hs _ i hlt h3 (fun h4 => ih (i + 1) (by omega) (by omega) h4)
      · obtain rfl : i = cnt := by omega
        exact he _ h3
  exact key big i0 hi (by have := big_ge; omega) h0
theorem impl_order_isOrder_h12 {rec : (List (List Bool)) → Int → Int → Int → Int → Int → Option (Bool × Unit)} {k : (List (List Bool)) → Int → Int → Option (Bool × Unit)} {o0 : (List (List Bool))} {x3 : Int} {y4 : Int} {t7 : Int} {t8 : Int} {t20 : Int} {t21 : Int} {t46 : Int} (cnt : Nat) (Inv : Nat → Prop) {res : Option (Bool × Unit)} (hn : cnt ≤ 500000000000)
  (hs : ∀ (rc : (List (List Bool)) → Int → Int → Int → Int → Int → Int → Int → Int → Option (Bool × Unit)) (i : Nat), i < cnt → Inv i → (Inv (i + 1) → rc o0 x3 y4 t7 t8 t20 t21 t46 ((i + 1 : Nat) : Int) = res) → impl_order_isOrder_b12 rc (impl_order_isOrder_a12 rec) o0 x3 y4 t7 t8 t20 t21 t46 (i : Int) = res)
  (he : ∀ (rc : (List (List Bool)) → Int → Int → Int → Int → Int → Int → Int → Int → Option (Bool × Unit)), Inv cnt → impl_order_isOrder_b12 rc (impl_order_isOrder_a12 rec) o0 x3 y4 t7 t8 t20 t21 t46 (cnt : Int) = res)
  (i0 : Nat) (hi : i0 ≤ cnt) (h0 : Inv i0) : impl_order_isOrder_F12 big rec k o0 x3 y4 t7 t8 t20 t21 t46 (i0 : Int) = res := by
  have key : ∀ (m i : Nat), i ≤ cnt → cnt < m + i → Inv i → impl_order_isOrder_l12 big (impl_order_isOrder_a12 rec) m o0 x3 y4 t7 t8 t20 t21 t46 (i : Int) = res := by
    intro m
    induction m with
    | zero => intro i h1 h2 h3; exact absurd h2 (by omega)
    | succ m ih =>
      intro i h1 h2 h3
      rcases Nat.lt_or_ge i cnt with hlt | hge
      · exact hs _ i hlt h3 (fun h4 => ih (i + 1) (by omega) (by omega) h4)
      · obtain rfl : i = cnt := by omega
        exact he _ h3
  exact key big i0 hi (by have := big_ge; omega) h0
theorem impl_orderOf_h6 {n4 : Int} {t18 : (List (List Int))} {t19 : Int} (cnt : Nat) (Inv : Nat → (List (List Bool)) → Prop) {res : Option (((List (List Bool)) × (Bool × Unit)) × Unit)} (hn : cnt ≤ 500000000000)
  (hs : ∀ (rc : Int → (List (List Bool)) → (List (List Int)) → Int → Int → Option (((List (List Bool)) × (Bool × Unit)) × Unit)) (i : Nat) (o5 : (List (List Bool))), i < cnt → Inv i o5 → (∀ (o5' : (List (List Bool))), Inv (i + 1) o5' → rc n4 o5' t18 t19 ((i + 1 : Nat) : Int) = res) → impl_orderOf_b6 (impl_orderOf_F11 big rc impl_orderOf_a6) impl_orderOf_a6 n4 o5 t18 t19 (i : Int) = res)
  (he : ∀ (rc : Int → (List (List Bool)) → (List (List Int)) → Int → Int → Option (((List (List Bool)) × (Bool × Unit)) × Unit)) (o5 : (List (List Bool))), Inv cnt o5 → impl_orderOf_b6 (impl_orderOf_F11 big rc impl_orderOf_a6) impl_orderOf_a6 n4 o5 t18 t19 (cnt : Int) = res)
  (i0 : Nat) (hi : i0 ≤ cnt) (o5 : (List (List Bool))) (h0 : Inv i0 o5) : impl_orderOf_F6 big n4 o5 t18 t19 (i0 : Int) = res := by
  have key : ∀ (m i : Nat) (o5 : (List (List Bool))), i ≤ cnt → cnt < m + i → Inv i o5 → impl_orderOf_l6 big impl_orderOf_a6 m n4 o5 t18 t19 (i : Int) = res := by
    intro m
    induction m with
    | zero => intro i o5 h1 h2 h3; exact absurd h2 (by omega)
    | succ m ih =>
      intro i o5 h1 h2 h3
      rcases Nat.lt_or_ge i cnt with hlt | hge
      · exact hs _ i o5 hlt h3 (fun o5' h4 => ih (i + 1) o5' (by omega) (by omega) h4)
      · obtain rfl : i = cnt := by omega
        exact he _ o5 h3
  exact key big i0 o5 hi (by have := big_ge; omega) h0
theorem impl_orderOf_h11 {rec : Int → (List (List Bool)) → (List (List Int)) → Int → Int → Option (((List (List Bool)) × (Bool × Unit)) × Unit)} {k : (List (List Bool)) → Option (((List (List Bool)) × (Bool × Unit)) × Unit)} {n4 : Int} {x6 : Int} {t18 : (List (List Int))} {t19 : Int} {t20 : Int} {t29 : (List Int)} {t30 : Int} {t31 : Bool} {t32 : Bool} {t34 : (List Int)} {t35 : Int} (cnt : Nat) (Inv : Nat → (List (List Bool)) → Prop) {res : Option (((List (List Bool)) × (Bool × Unit)) × Unit)} (hn : cnt ≤ 500000000000)
  (hs : ∀ (rc : Int → (List (List Bool)) → Int → (List (List Int)) → Int → Int → (List Int) → Int → Bool → Bool → (List Int) → Int → Int → Option (((List (List Bool)) × (Bool × Unit)) × Unit)) (i : Nat) (o5 : (List (List Bool))), i < cnt → Inv i o5 → (∀ (o5' : (List (List Bool))), Inv (i + 1) o5' → rc n4 o5' x6 t18 t19 t20 t29 t30 t31 t32 t34 t35 ((i + 1 : Nat) : Int) = res) → impl_orderOf_b11 rc (impl_orderOf_a11 rec) n4 o5 x6 t18 t19 t20 t29 t30 t31 t32 t34 t35 (i : Int) = res)
  (he : ∀ (rc : Int → (List (List Bool)) → Int → (List (List Int)) → Int → Int → (List Int) → Int → Bool → Bool → (List Int) → Int → Int → Option (((List (List Bool)) × (Bool × Unit)) × Unit)) (o5 : (List (List Bool))), Inv cnt o5 → impl_orderOf_b11 rc (impl_orderOf_a11 rec) n4 o5 x6 t18 t19 t20 t29 t30 t31 t32 t34 t35 (cnt : Int) = res)
  (i0 : Nat) (hi : i0 ≤ cnt) (o5 : (List (List Bool))) (h0 : Inv i0 o5) : impl_orderOf_F11 big rec k n4 o5 x6 t18 t19 t20 t29 t30 t31 t32 t34 t35 (i0 : Int) = res := by
  have key : ∀ (m i : Nat) (o5 : (List (List Bool))), i ≤ cnt → cnt < m + i → Inv i o5 → impl_orderOf_l11 big (impl_orderOf_a11 rec) m n4 o5 x6 t18 t19 t20 t29 t30 t31 t32 t34 t35 (i : Int) = res := by
    intro m
    induction m with
    | zero => intro i o5 h1 h2 h3; exact absurd h2 (by omega)
    | succ m ih =>
      intro i o5 h1 h2 h3
      rcases Nat.lt_or_ge i cnt with hlt | hge
      · exact hs _ i o5 hlt h3 (fun o5' h4 => ih (i + 1) o5' (by omega) (by omega) h4)
      · obtain rfl : i = cnt := by omega
        exact he _ o5 h3
  exact key big i0 o5 hi (by have := big_ge; omega) h0
theorem impl_order_greatest_h2 {o0 : (List (List Bool))} {list1 : (List Int)} {t10 : (List Int)} {t11 : Int} (cnt : Nat) (Inv : Nat → Prop) {res : Option (Int × Unit)} (hn : cnt ≤ 500000000000)
  (hs : ∀ (rc : (List (List Bool)) → (List Int) → (List Int) → Int → Int → Option (Int × Unit)) (i : Nat), i < cnt → Inv i → (Inv (i + 1) → rc o0 list1 t10 t11 ((i + 1 : Nat) : Int) = res) → impl_order_greatest_b2 (impl_order_greatest_F6 big rc impl_order_greatest_a2) impl_order_greatest_a2 o0 list1 t10 t11 (i : Int) = res)
  (he : ∀ (rc : (List (List Bool)) → (List Int) → (List Int) → Int → Int → Option (Int × Unit)), Inv cnt → impl_order_greatest_b2 (impl_order_greatest_F6 big rc impl_order_greatest_a2) impl_order_greatest_a2 o0 list1 t10 t11 (cnt : Int) = res)
  (i0 : Nat) (hi : i0 ≤ cnt) (h0 : Inv i0) : impl_order_greatest_F2 big o0 list1 t10 t11 (i0 : Int) = res := by
  have key : ∀ (m i : Nat), i ≤ cnt → cnt < m + i → Inv i → impl_order_greatest_l2 big impl_order_greatest_a2 m o0 list1 t10 t11 (i : Int) = res := by
    intro m
    induction m with
    | zero => intro i h1 h2 h3; exact absurd h2 (by omega)
    | succ m ih =>
      intro i h1 h2 h3
      rcases Nat.lt_or_ge i cnt with hlt | hge
      · exact hs _ i hlt h3 (fun h4 => ih (i + 1) (by omega) (by omega) h4)
      · obtain rfl : i = cnt := by omega
        exact he _ h3
  exact key big i0 hi (by have := big_ge; omega) h0
theorem impl_order_greatest_h6 {rec : (List (List Bool)) → (List Int) → (List Int) → Int → Int → Option (Int × Unit)} {k : Option (Int × Unit)} {o0 : (List (List Bool))} {list1 : (List Int)} {x6 : Int} {t10 : (List Int)} {t11 : Int} {t12 : Int} {t16 : (List Int)} {t17 : Int} (cnt : Nat) (Inv : Nat → Bool → Prop) {res : Option (Int × Unit)} (hn : cnt ≤ 500000000000)
  (hs : ∀ (rc : (List (List Bool)) → (List Int) → Int → Bool → (List Int) → Int → Int → (List Int) → Int → Int → Option (Int × Unit)) (i : Nat) (top7 : Bool), i < cnt → Inv i top7 → (∀ (top7' : Bool), Inv (i + 1) top7' → rc o0 list1 x6 top7' t10 t11 t12 t16 t17 ((i + 1 : Nat) : Int) = res) → impl_order_greatest_b6 rc (impl_order_greatest_a6 rec) o0 list1 x6 top7 t10 t11 t12 t16 t17 (i : Int) = res)
  (he : ∀ (rc : (List (List Bool)) → (List Int) → Int → Bool → (List Int) → Int → Int → (List Int) → Int → Int → Option (Int × Unit)) (top7 : Bool), Inv cnt top7 → impl_order_greatest_b6 rc (impl_order_greatest_a6 rec) o0 list1 x6 top7 t10 t11 t12 t16 t17 (cnt : Int) = res)
  (i0 : Nat) (hi : i0 ≤ cnt) (top7 : Bool) (h0 : Inv i0 top7) : impl_order_greatest_F6 big rec k o0 list1 x6 top7 t10 t11 t12 t16 t17 (i0 : Int) = res := by
  have key : ∀ (m i : Nat) (top7 : Bool), i ≤ cnt → cnt < m + i → Inv i top7 → impl_order_greatest_l6 big (impl_order_greatest_a6 rec) m o0 list1 x6 top7 t10 t11 t12 t16 t17 (i : Int) = res := by
    intro m
    induction m with
    | zero => intro i top7 h1 h2 h3; exact absurd h2 (by omega)
    | succ m ih =>
      intro i top7 h1 h2 h3
      rcases Nat.lt_or_ge i cnt with hlt | hge
      · exact hs _ i top7 hlt h3 (fun top7' h4 => ih (i + 1) top7' (by omega) (by omega) h4)
      · obtain rfl : i = cnt := by omega
        exact he _ top7 h3
  exact key big i0 top7 hi (by have := big_ge; omega) h0
theorem impl_order_those_k_order_meetTable_c1_h3 {so1 : ((List (List Bool)) × (Int × (Int × Unit)))} {t9 : Int} (cnt : Nat) (Inv : Nat → (List Int) → Prop) {res : Option ((List Int) × Unit)} (hn : cnt ≤ 500000000000)
  (hs : ∀ (rc : ((List (List Bool)) × (Int × (Int × Unit))) → (List Int) → Int → Int → Option ((List Int) × Unit)) (i : Nat) (list5 : (List Int)), i < cnt → Inv i list5 → (∀ (list5' : (List Int)), Inv (i + 1) list5' → rc so1 list5' t9 ((i + 1 : Nat) : Int) = res) → impl_order_those_k_order_meetTable_c1_b3 rc impl_order_those_k_order_meetTable_c1_a3 so1 list5 t9 (i : Int) = res)
  (he : ∀ (rc : ((List (List Bool)) × (Int × (Int × Unit))) → (List Int) → Int → Int → Option ((List Int) × Unit)) (list5 : (List Int)), Inv cnt list5 → impl_order_those_k_order_meetTable_c1_b3 rc impl_order_those_k_order_meetTable_c1_a3 so1 list5 t9 (cnt : Int) = res)
  (i0 : Nat) (hi : i0 ≤ cnt) (list5 : (List Int)) (h0 : Inv i0 list5) : impl_order_those_k_order_meetTable_c1_F3 big so1 list5 t9 (i0 : Int) = res := by
  have key : ∀ (m i : Nat) (list5 : (List Int)), i ≤ cnt → cnt < m + i → Inv i list5 → impl_order_those_k_order_meetTable_c1_l3 big impl_order_those_k_order_meetTable_c1_a3 m so1 list5 t9 (i : Int) = res := by
    intro m
    induction m with
    | zero => intro i list5 h1 h2 h3; exact absurd h2 (by omega)
    | succ m ih =>
      intro i list5 h1 h2 h3
      rcases Nat.lt_or_ge i cnt with hlt | hge
      · exact hs _ i list5 hlt h3 (fun list5' h4 => ih (i + 1) list5' (by omega) (by omega) h4)
      · obtain rfl : i = cnt := by omega
        exact he _ list5 h3
  exact key big i0 list5 hi (by have := big_ge; omega) h0
theorem impl_order_meetTable_h3 {o1 : (List (List Bool))} {t11 : Int} (cnt : Nat) (Inv : Nat → (List (List Int)) → Prop) {res : Option (((List (List Int)) × (Bool × Unit)) × Unit)} (hn : cnt ≤ 500000000000)
  (hs : ∀ (rc : (List (List Bool)) → (List (List Int)) → Int → Int → Option (((List (List Int)) × (Bool × Unit)) × Unit)) (i : Nat) (table4 : (List (List Int))), i < cnt → Inv i table4 → (∀ (table4' : (List (List Int))), Inv (i + 1) table4' → rc o1 table4' t11 ((i + 1 : Nat) : Int) = res) → impl_order_meetTable_b3 (impl_order_meetTable_F7 big rc impl_order_meetTable_a3) impl_order_meetTable_a3 o1 table4 t11 (i : Int) = res)
  (he : ∀ (rc : (List (List Bool)) → (List (List Int)) → Int → Int → Option (((List (List Int)) × (Bool × Unit)) × Unit)) (table4 : (List (List Int))), Inv cnt table4 → impl_order_meetTable_b3 (impl_order_meetTable_F7 big rc impl_order_meetTable_a3) impl_order_meetTable_a3 o1 table4 t11 (cnt : Int) = res)
  (i0 : Nat) (hi : i0 ≤ cnt) (table4 : (List (List Int))) (h0 : Inv i0 table4) : impl_order_meetTable_F3 big o1 table4 t11 (i0 : Int) = res := by
  have key : ∀ (m i : Nat) (table4 : (List (List Int))), i ≤ cnt → cnt < m + i → Inv i table4 → impl_order_meetTable_l3 big impl_order_meetTable_a3 m o1 table4 t11 (i : Int) = res := by
    intro m
    induction m with
    | zero => intro i table4 h1 h2 h3; exact absurd h2 (by omega)
    | succ m ih =>
      intro i table4 h1 h2 h3
      rcases Nat.lt_or_ge i cnt with hlt | hge
      · exact hs _ i table4 hlt h3 (fun table4' h4 => ih (i + 1) table4' (by omega) (by omega) h4)
      · obtain rfl : i = cnt := by omega
        exact he _ table4 h3
  exact key big i0 table4 hi (by have := big_ge; omega) h0
theorem impl_order_meetTable_h7 {rec : (List (List Bool)) → (List (List Int)) → Int → Int → Option (((List (List Int)) × (Bool × Unit)) × Unit)} {k : (List (List Int)) → Option (((List (List Int)) × (Bool × Unit)) × Unit)} {o1 : (List (List Bool))} {table4 : (List (List Int))} {x5 : Int} {t11 : Int} {t12 : Int} {t17 : Int} (cnt : Nat) (Inv : Nat → (List Int) → Prop) {res : Option (((List (List Int)) × (Bool × Unit)) × Unit)} (hn : cnt ≤ 500000000000)
  (hs : ∀ (rc : (List (List Bool)) → (List (List Int)) → Int → (List Int) → Int → Int → Int → Int → Option (((List (List Int)) × (Bool × Unit)) × Unit)) (i : Nat) (row6 : (List Int)), i < cnt → Inv i row6 → (∀ (row6' : (List Int)), Inv (i + 1) row6' → rc o1 table4 x5 row6' t11 t12 t17 ((i + 1 : Nat) : Int) = res) → impl_order_meetTable_b7 rc (impl_order_meetTable_a7 rec) o1 table4 x5 row6 t11 t12 t17 (i : Int) = res)
  (he : ∀ (rc : (List (List Bool)) → (List (List Int)) → Int → (List Int) → Int → Int → Int → Int → Option (((List (List Int)) × (Bool × Unit)) × Unit)) (row6 : (List Int)), Inv cnt row6 → impl_order_meetTable_b7 rc (impl_order_meetTable_a7 rec) o1 table4 x5 row6 t11 t12 t17 (cnt : Int) = res)
  (i0 : Nat) (hi : i0 ≤ cnt) (row6 : (List Int)) (h0 : Inv i0 row6) : impl_order_meetTable_F7 big rec k o1 table4 x5 row6 t11 t12 t17 (i0 : Int) = res := by
  have key : ∀ (m i : Nat) (row6 : (List Int)), i ≤ cnt → cnt < m + i → Inv i row6 → impl_order_meetTable_l7 big (impl_order_meetTable_a7 rec) m o1 table4 x5 row6 t11 t12 t17 (i : Int) = res := by
    intro m
    induction m with
    | zero => intro i row6 h1 h2 h3; exact absurd h2 (by omega)
    | succ m ih =>
      intro i row6 h1 h2 h3
      rcases Nat.lt_or_ge i cnt with hlt | hge
      · exact hs _ i row6 hlt h3 (fun row6' h4 => ih (i + 1) row6' (by omega) (by omega) h4)
      · obtain rfl : i = cnt := by omega
        exact he _ row6 h3
  exact key big i0 row6 hi (by have := big_ge; omega) h0
theorem impl_order_dual_h3 {o0 : (List (List Bool))} {t10 : Int} (cnt : Nat) (Inv : Nat → (List (List Bool)) → Prop) {res : Option ((List (List Bool)) × Unit)} (hn : cnt ≤ 500000000000)
  (hs : ∀ (rc : (List (List Bool)) → (List (List Bool)) → Int → Int → Option ((List (List Bool)) × Unit)) (i : Nat) (d3 : (List (List Bool))), i < cnt → Inv i d3 → (∀ (d3' : (List (List Bool))), Inv (i + 1) d3' → rc o0 d3' t10 ((i + 1 : Nat) : Int) = res) → impl_order_dual_b3 (impl_order_dual_F6 big rc impl_order_dual_a3) impl_order_dual_a3 o0 d3 t10 (i : Int) = res)
  (he : ∀ (rc : (List (List Bool)) → (List (List Bool)) → Int → Int → Option ((List (List Bool)) × Unit)) (d3 : (List (List Bool))), Inv cnt d3 → impl_order_dual_b3 (impl_order_dual_F6 big rc impl_order_dual_a3) impl_order_dual_a3 o0 d3 t10 (cnt : Int) = res)
  (i0 : Nat) (hi : i0 ≤ cnt) (d3 : (List (List Bool))) (h0 : Inv i0 d3) : impl_order_dual_F3 big o0 d3 t10 (i0 : Int) = res := by
  have key : ∀ (m i : Nat) (d3 : (List (List Bool))), i ≤ cnt → cnt < m + i → Inv i d3 → impl_order_dual_l3 big impl_order_dual_a3 m o0 d3 t10 (i : Int) = res := by
    intro m
    induction m with
    | zero => intro i d3 h1 h2 h3; exact absurd h2 (by omega)
    | succ m ih =>
      intro i d3 h1 h2 h3
      rcases Nat.lt_or_ge i cnt with hlt | hge
      · exact hs _ i d3 hlt h3 (fun d3' h4 => ih (i + 1) d3' (by omega) (by omega) h4)
      · obtain rfl : i = cnt := by omega
        exact he _ d3 h3
  exact key big i0 d3 hi (by have := big_ge; omega) h0
theorem impl_order_dual_h6 {rec : (List (List Bool)) → (List (List Bool)) → Int → Int → Option ((List (List Bool)) × Unit)} {k : (List (List Bool)) → Option ((List (List Bool)) × Unit)} {o0 : (List (List Bool))} {x4 : Int} {t10 : Int} {t11 : Int} {t15 : Int} (cnt : Nat) (Inv : Nat → (List (List Bool)) → Prop) {res : Option ((List (List Bool)) × Unit)} (hn : cnt ≤ 500000000000)
  (hs : ∀ (rc : (List (List Bool)) → (List (List Bool)) → Int → Int → Int → Int → Int → Option ((List (List Bool)) × Unit)) (i : Nat) (d3 : (List (List Bool))), i < cnt → Inv i d3 → (∀ (d3' : (List (List Bool))), Inv (i + 1) d3' → rc o0 d3' x4 t10 t11 t15 ((i + 1 : Nat) : Int) = res) → impl_order_dual_b6 rc (impl_order_dual_a6 rec) o0 d3 x4 t10 t11 t15 (i : Int) = res)
  (he : ∀ (rc : (List (List Bool)) → (List (List Bool)) → Int → Int → Int → Int → Int → Option ((List (List Bool)) × Unit)) (d3 : (List (List Bool))), Inv cnt d3 → impl_order_dual_b6 rc (impl_order_dual_a6 rec) o0 d3 x4 t10 t11 t15 (cnt : Int) = res)
  (i0 : Nat) (hi : i0 ≤ cnt) (d3 : (List (List Bool))) (h0 : Inv i0 d3) : impl_order_dual_F6 big rec k o0 d3 x4 t10 t11 t15 (i0 : Int) = res := by
  have key : ∀ (m i : Nat) (d3 : (List (List Bool))), i ≤ cnt → cnt < m + i → Inv i d3 → impl_order_dual_l6 big (impl_order_dual_a6 rec) m o0 d3 x4 t10 t11 t15 (i : Int) = res := by
    intro m
    induction m with
    | zero => intro i d3 h1 h2 h3; exact absurd h2 (by omega)
    | succ m ih =>
      intro i d3 h1 h2 h3
      rcases Nat.lt_or_ge i cnt with hlt | hge
      · exact hs _ i d3 hlt h3 (fun d3' h4 => ih (i + 1) d3' (by omega) (by omega) h4)
      · obtain rfl : i = cnt := by omega
        exact he _ d3 h3
  exact key big i0 d3 hi (by have := big_ge; omega) h0
theorem impl_lattice_uneven_h2 {l0 : (Option ((List (List Bool)) × ((List (List Int)) × ((List (List Int)) × Unit))))} {t10 : Int} (cnt : Nat) (Inv : Nat → Prop) {res : Option ((Option (List Int)) × Unit)} (hn : cnt ≤ 500000000000)
  (hs : ∀ (rc : (Option ((List (List Bool)) × ((List (List Int)) × ((List (List Int)) × Unit)))) → Int → Int → Option ((Option (List Int)) × Unit)) (i : Nat), i < cnt → Inv i → (Inv (i + 1) → rc l0 t10 ((i + 1 : Nat) : Int) = res) → impl_lattice_uneven_b2 (impl_lattice_uneven_F5 big rc impl_lattice_uneven_a2) impl_lattice_uneven_a2 l0 t10 (i : Int) = res)
  (he : ∀ (rc : (Option ((List (List Bool)) × ((List (List Int)) × ((List (List Int)) × Unit)))) → Int → Int → Option ((Option (List Int)) × Unit)), Inv cnt → impl_lattice_uneven_b2 (impl_lattice_uneven_F5 big rc impl_lattice_uneven_a2) impl_lattice_uneven_a2 l0 t10 (cnt : Int) = res)
  (i0 : Nat) (hi : i0 ≤ cnt) (h0 : Inv i0) : impl_lattice_uneven_F2 big l0 t10 (i0 : Int) = res := by
  have key : ∀ (m i : Nat), i ≤ cnt → cnt < m + i → Inv i → impl_lattice_uneven_l2 big impl_lattice_uneven_a2 m l0 t10 (i : Int) = res := by
    intro m
    induction m with
    | zero => intro i h1 h2 h3; exact absurd h2 (by omega)
    | succ m ih =>
      intro i h1 h2 h3
      rcases Nat.lt_or_ge i cnt with hlt | hge
      · exact hs _ i hlt h3 (fun h4 => ih (i + 1) (by omega) (by omega) h4)
      · obtain rfl : i = cnt := by omega
        exact he _ h3
  exact key big i0 hi (by have := big_ge; omega) h0
theorem impl_lattice_uneven_q2 {l0 : (Option ((List (List Bool)) × ((List (List Int)) × ((List (List Int)) × Unit))))} {t10 : Int} (cnt : Nat) (Inv : Nat → Prop) {Q : Option ((Option (List Int)) × Unit) → Prop} (hn : cnt ≤ 500000000000)
  (hs : ∀ (rc : (Option ((List (List Bool)) × ((List (List Int)) × ((List (List Int)) × Unit)))) → Int → Int → Option ((Option (List Int)) × Unit)) (i : Nat), i < cnt → Inv i → (Inv (i + 1) → Q (rc l0 t10 ((i + 1 : Nat) : Int))) → Q (impl_lattice_uneven_b2 (impl_lattice_uneven_F5 big rc impl_lattice_uneven_a2) impl_lattice_uneven_a2 l0 t10 (i : Int)))
  (he : ∀ (rc : (Option ((List (List Bool)) × ((List (List Int)) × ((List (List Int)) × Unit)))) → Int → Int → Option ((Option (List Int)) × Unit)), Inv cnt → Q (impl_lattice_uneven_b2 (impl_lattice_uneven_F5 big rc impl_lattice_uneven_a2) impl_lattice_uneven_a2 l0 t10 (cnt : Int)))
  (i0 : Nat) (hi : i0 ≤ cnt) (h0 : Inv i0) : Q (impl_lattice_uneven_F2 big l0 t10 (i0 : Int)) := by
  have key : ∀ (m i : Nat), i ≤ cnt → cnt < m + i → Inv i → Q (impl_lattice_uneven_l2 big impl_lattice_uneven_a2 m l0 t10 (i : Int)) := by
    intro m
    induction m with
    | zero => intro i h1 h2 h3; exact absurd h2 (by omega)
    | succ m ih =>
      intro i h1 h2 h3
      rcases Nat.lt_or_ge i cnt with hlt | hge
      · exact hs _ i hlt h3 (fun h4 => ih (i + 1) (by omega) (by omega) h4)
      · obtain rfl : i = cnt := by omega
        exact he _ h3
  exact key big i0 hi (by have := big_ge; omega) h0
theorem impl_lattice_uneven_h5 {rec : (Option ((List (List Bool)) × ((List (List Int)) × ((List (List Int)) × Unit)))) → Int → Int → Option ((Option (List Int)) × Unit)} {k : Option ((Option (List Int)) × Unit)} {l0 : (Option ((List (List Bool)) × ((List (List Int)) × ((List (List Int)) × Unit))))} {x3 : Int} {t10 : Int} {t11 : Int} {t18 : Int} (cnt : Nat) (Inv : Nat → Prop) {res : Option ((Option (List Int)) × Unit)} (hn : cnt ≤ 500000000000)
  (hs : ∀ (rc : (Option ((List (List Bool)) × ((List (List Int)) × ((List (List Int)) × Unit)))) → Int → Int → Int → Int → Int → Option ((Option (List Int)) × Unit)) (i : Nat), i < cnt → Inv i → (Inv (i + 1) → rc l0 x3 t10 t11 t18 ((i + 1 : Nat) : Int) = res) → impl_lattice_uneven_b5 (impl_lattice_uneven_F8 big rc (impl_lattice_uneven_a5 rec)) (impl_lattice_uneven_a5 rec) l0 x3 t10 t11 t18 (i : Int) = res)
  (he : ∀ (rc : (Option ((List (List Bool)) × ((List (List Int)) × ((List (List Int)) × Unit)))) → Int → Int → Int → Int → Int → Option ((Option (List Int)) × Unit)), Inv cnt → impl_lattice_uneven_b5 (impl_lattice_uneven_F8 big rc (impl_lattice_uneven_a5 rec)) (impl_lattice_uneven_a5 rec) l0 x3 t10 t11 t18 (cnt : Int) = res)
  (i0 : Nat) (hi : i0 ≤ cnt) (h0 : Inv i0) : impl_lattice_uneven_F5 big rec k l0 x3 t10 t11 t18 (i0 : Int) = res := by
  have key : ∀ (m i : Nat), i ≤ cnt → cnt < m + i → Inv i → impl_lattice_uneven_l5 big (impl_lattice_uneven_a5 rec) m l0 x3 t10 t11 t18 (i : Int) = res := by
    intro m
    induction m with
    | zero => intro i h1 h2 h3; exact absurd h2 (by omega)
    | succ m ih =>
      intro i h1 h2 h3
      rcases Nat.lt_or_ge i cnt with hlt | hge
      · exact hs _ i hlt h3 (fun h4 => ih (i + 1) (by omega) (by omega) h4)
      · obtain rfl : i = cnt := by omega
        exact he _ h3
  exact key big i0 hi (by have := big_ge; omega) h0
theorem impl_lattice_uneven_q5 {rec : (Option ((List (List Bool)) × ((List (List Int)) × ((List (List Int)) × Unit)))) → Int → Int → Option ((Option (List Int)) × Unit)} {k : Option ((Option (List Int)) × Unit)} {l0 : (Option ((List (List Bool)) × ((List (List Int)) × ((List (List Int)) × Unit))))} {x3 : Int} {t10 : Int} {t11 : Int} {t18 : Int} (cnt : Nat) (Inv : Nat → Prop) {Q : Option ((Option (List Int)) × Unit) → Prop} (hn : cnt ≤ 500000000000)
  (hs : ∀ (rc : (Option ((List (List Bool)) × ((List (List Int)) × ((List (List Int)) × Unit)))) → Int → Int → Int → Int → Int → Option ((Option (List Int)) × Unit)) (i : Nat), i < cnt → Inv i → (Inv (i + 1) → Q (rc l0 x3 t10 t11 t18 ((i + 1 : Nat) : Int))) → Q (impl_lattice_uneven_b5 (impl_lattice_uneven_F8 big rc (impl_lattice_uneven_a5 rec)) (impl_lattice_uneven_a5 rec) l0 x3 t10 t11 t18 (i : Int)))
  (he : ∀ (rc : (Option ((List (List Bool)) × ((List (List Int)) × ((List (List Int)) × Unit)))) → Int → Int → Int → Int → Int → Option ((Option (List Int)) × Unit)), Inv cnt → Q (impl_lattice_uneven_b5 (impl_lattice_uneven_F8 big rc (impl_lattice_uneven_a5 rec)) (impl_lattice_uneven_a5 rec) l0 x3 t10 t11 t18 (cnt : Int)))
  (i0 : Nat) (hi : i0 ≤ cnt) (h0 : Inv i0) : Q (impl_lattice_uneven_F5 big rec k l0 x3 t10 t11 t18 (i0 : Int)) := by
  have key : ∀ (m i : Nat), i ≤ cnt → cnt < m + i → Inv i → Q (impl_lattice_uneven_l5 big (impl_lattice_uneven_a5 rec) m l0 x3 t10 t11 t18 (i : Int)) := by
    intro m
    induction m with
    | zero => intro i h1 h2 h3; exact absurd h2 (by omega)
    | succ m ih =>
      intro i h1 h2 h3
      rcases Nat.lt_or_ge i cnt with hlt | hge
      · exact hs _ i hlt h3 (fun h4 => ih (i + 1) (by omega) (by omega) h4)
      · obtain rfl : i = cnt := by omega
        exact he _ h3
  exact key big i0 hi (by have := big_ge; omega) h0
theorem impl_lattice_uneven_h8 {rec : (Option ((List (List Bool)) × ((List (List Int)) × ((List (List Int)) × Unit)))) → Int → Int → Int → Int → Int → Option ((Option (List Int)) × Unit)} {k : (Option ((List (List Bool)) × ((List (List Int)) × ((List (List Int)) × Unit)))) → Int → Int → Option ((Option (List Int)) × Unit)} {l0 : (Option ((List (List Bool)) × ((List (List Int)) × ((List (List Int)) × Unit))))} {x3 : Int} {y4 : Int} {t10 : Int} {t11 : Int} {t18 : Int} {t19 : Int} {t26 : Int} (cnt : Nat) (Inv : Nat → Prop) {res : Option ((Option (List Int)) × Unit)} (hn : cnt ≤ 500000000000)
  (hs : ∀ (rc : (Option ((List (List Bool)) × ((List (List Int)) × ((List (List Int)) × Unit)))) → Int → Int → Int → Int → Int → Int → Int → Int → Option ((Option (List Int)) × Unit)) (i : Nat), i < cnt → Inv i → (Inv (i + 1) → rc l0 x3 y4 t10 t11 t18 t19 t26 ((i + 1 : Nat) : Int) = res) → impl_lattice_uneven_b8 rc (impl_lattice_uneven_a8 rec) l0 x3 y4 t10 t11 t18 t19 t26 (i : Int) = res)
  (he : ∀ (rc : (Option ((List (List Bool)) × ((List (List Int)) × ((List (List Int)) × Unit)))) → Int → Int → Int → Int → Int → Int → Int → Int → Option ((Option (List Int)) × Unit)), Inv cnt → impl_lattice_uneven_b8 rc (impl_lattice_uneven_a8 rec) l0 x3 y4 t10 t11 t18 t19 t26 (cnt : Int) = res)
  (i0 : Nat) (hi : i0 ≤ cnt) (h0 : Inv i0) : impl_lattice_uneven_F8 big rec k l0 x3 y4 t10 t11 t18 t19 t26 (i0 : Int) = res := by
  have key : ∀ (m i : Nat), i ≤ cnt → cnt < m + i → Inv i → impl_lattice_uneven_l8 big (impl_lattice_uneven_a8 rec) m l0 x3 y4 t10 t11 t18 t19 t26 (i : Int) = res := by
    intro m
    induction m with
    | zero => intro i h1 h2 h3; exact absurd h2 (by omega)
    | succ m ih =>
      intro i h1 h2 h3
      rcases Nat.lt_or_ge i cnt with hlt | hge
      · exact hs _ i hlt h3 (fun h4 => ih (i + 1) (by omega) (by omega) h4)
      · obtain rfl : i = cnt := by omega
        exact he _ h3
  exact key big i0 hi (by have := big_ge; omega) h0
theorem impl_lattice_uneven_q8 {rec : (Option ((List (List Bool)) × ((List (List Int)) × ((List (List Int)) × Unit)))) → Int → Int → Int → Int → Int → Option ((Option (List Int)) × Unit)} {k : (Option ((List (List Bool)) × ((List (List Int)) × ((List (List Int)) × Unit)))) → Int → Int → Option ((Option (List Int)) × Unit)} {l0 : (Option ((List (List Bool)) × ((List (List Int)) × ((List (List Int)) × Unit))))} {x3 : Int} {y4 : Int} {t10 : Int} {t11 : Int} {t18 : Int} {t19 : Int} {t26 : Int} (cnt : Nat) (Inv : Nat → Prop) {Q : Option ((Option (List Int)) × Unit) → Prop} (hn : cnt ≤ 500000000000)
  (hs : ∀ (rc : (Option ((List (List Bool)) × ((List (List Int)) × ((List (List Int)) × Unit)))) → Int → Int → Int → Int → Int → Int → Int → Int → Option ((Option (List Int)) × Unit)) (i : Nat), i < cnt → Inv i → (Inv (i + 1) → Q (rc l0 x3 y4 t10 t11 t18 t19 t26 ((i + 1 : Nat) : Int))) → Q (impl_lattice_uneven_b8 rc (impl_lattice_uneven_a8 rec) l0 x3 y4 t10 t11 t18 t19 t26 (i : Int)))
  (he : ∀ (rc : (Option ((List (List Bool)) × ((List (List Int)) × ((List (List Int)) × Unit)))) → Int → Int → Int → Int → Int → Int → Int → Int → Option ((Option (List Int)) × Unit)), Inv cnt → Q (impl_lattice_uneven_b8 rc (impl_lattice_uneven_a8 rec) l0 x3 y4 t10 t11 t18 t19 t26 (cnt : Int)))
  (i0 : Nat) (hi : i0 ≤ cnt) (h0 : Inv i0) : Q (impl_lattice_uneven_F8 big rec k l0 x3 y4 t10 t11 t18 t19 t26 (i0 : Int)) := by
  have key : ∀ (m i : Nat), i ≤ cnt → cnt < m + i → Inv i → Q (impl_lattice_uneven_l8 big (impl_lattice_uneven_a8 rec) m l0 x3 y4 t10 t11 t18 t19 t26 (i : Int)) := by
    intro m
    induction m with
    | zero => intro i h1 h2 h3; exact absurd h2 (by omega)
    | succ m ih =>
      intro i h1 h2 h3
      rcases Nat.lt_or_ge i cnt with hlt | hge
      · exact hs _ i hlt h3 (fun h4 => ih (i + 1) (by omega) (by omega) h4)
      · obtain rfl : i = cnt := by omega
        exact he _ h3
  exact key big i0 hi (by have := big_ge; omega) h0
theorem impl_lattice_bottom_h3 {l0 : (Option ((List (List Bool)) × ((List (List Int)) × ((List (List Int)) × Unit))))} {t9 : Int} (cnt : Nat) (Inv : Nat → Int → Prop) {res : Option (Int × Unit)} (hn : cnt ≤ 500000000000)
  (hs : ∀ (rc : (Option ((List (List Bool)) × ((List (List Int)) × ((List (List Int)) × Unit)))) → Int → Int → Int → Option (Int × Unit)) (i : Nat) (b3 : Int), i < cnt → Inv i b3 → (∀ (b3' : Int), Inv (i + 1) b3' → rc l0 b3' t9 ((i + 1 : Nat) : Int) = res) → impl_lattice_bottom_b3 rc impl_lattice_bottom_a3 l0 b3 t9 (i : Int) = res)
  (he : ∀ (rc : (Option ((List (List Bool)) × ((List (List Int)) × ((List (List Int)) × Unit)))) → Int → Int → Int → Option (Int × Unit)) (b3 : Int), Inv cnt b3 → impl_lattice_bottom_b3 rc impl_lattice_bottom_a3 l0 b3 t9 (cnt : Int) = res)
  (i0 : Nat) (hi : i0 ≤ cnt) (b3 : Int) (h0 : Inv i0 b3) : impl_lattice_bottom_F3 big l0 b3 t9 (i0 : Int) = res := by
  have key : ∀ (m i : Nat) (b3 : Int), i ≤ cnt → cnt < m + i → Inv i b3 → impl_lattice_bottom_l3 big impl_lattice_bottom_a3 m l0 b3 t9 (i : Int) = res := by
    intro m
    induction m with
    | zero => intro i b3 h1 h2 h3; exact absurd h2 (by omega)
    | succ m ih =>
      intro i b3 h1 h2 h3
      rcases Nat.lt_or_ge i cnt with hlt | hge
      · exact hs _ i b3 hlt h3 (fun b3' h4 => ih (i + 1) b3' (by omega) (by omega) h4)
      · obtain rfl : i = cnt := by omega
        exact he _ b3 h3
  exact key big i0 b3 hi (by have := big_ge; omega) h0
theorem impl_lattice_top_h3 {l0 : (Option ((List (List Bool)) × ((List (List Int)) × ((List (List Int)) × Unit))))} {t9 : Int} (cnt : Nat) (Inv : Nat → Int → Prop) {res : Option (Int × Unit)} (hn : cnt ≤ 500000000000)
  (hs : ∀ (rc : (Option ((List (List Bool)) × ((List (List Int)) × ((List (List Int)) × Unit)))) → Int → Int → Int → Option (Int × Unit)) (i : Nat) (t3 : Int), i < cnt → Inv i t3 → (∀ (t3' : Int), Inv (i + 1) t3' → rc l0 t3' t9 ((i + 1 : Nat) : Int) = res) → impl_lattice_top_b3 rc impl_lattice_top_a3 l0 t3 t9 (i : Int) = res)
  (he : ∀ (rc : (Option ((List (List Bool)) × ((List (List Int)) × ((List (List Int)) × Unit)))) → Int → Int → Int → Option (Int × Unit)) (t3 : Int), Inv cnt t3 → impl_lattice_top_b3 rc impl_lattice_top_a3 l0 t3 t9 (cnt : Int) = res)
  (i0 : Nat) (hi : i0 ≤ cnt) (t3 : Int) (h0 : Inv i0 t3) : impl_lattice_top_F3 big l0 t3 t9 (i0 : Int) = res := by
  have key : ∀ (m i : Nat) (t3 : Int), i ≤ cnt → cnt < m + i → Inv i t3 → impl_lattice_top_l3 big impl_lattice_top_a3 m l0 t3 t9 (i : Int) = res := by
    intro m
    induction m with
    | zero => intro i t3 h1 h2 h3; exact absurd h2 (by omega)
    | succ m ih =>
      intro i t3 h1 h2 h3
      rcases Nat.lt_or_ge i cnt with hlt | hge
      · exact hs _ i t3 hlt h3 (fun t3' h4 => ih (i + 1) t3' (by omega) (by omega) h4)
      · obtain rfl : i = cnt := by omega
        exact he _ t3 h3
  exact key big i0 t3 hi (by have := big_ge; omega) h0
theorem impl_order_those_k_lattice_relative_c1_h3 {so1 : ((Option ((List (List Bool)) × ((List (List Int)) × ((List (List Int)) × Unit)))) × (Int × (Int × (Int × Unit))))} {t9 : Int} (cnt : Nat) (Inv : Nat → (List Int) → Prop) {res : Option ((List Int) × Unit)} (hn : cnt ≤ 500000000000)
  (hs : ∀ (rc : ((Option ((List (List Bool)) × ((List (List Int)) × ((List (List Int)) × Unit)))) × (Int × (Int × (Int × Unit)))) → (List Int) → Int → Int → Option ((List Int) × Unit)) (i : Nat) (list5 : (List Int)), i < cnt → Inv i list5 → (∀ (list5' : (List Int)), Inv (i + 1) list5' → rc so1 list5' t9 ((i + 1 : Nat) : Int) = res) → impl_order_those_k_lattice_relative_c1_b3 rc impl_order_those_k_lattice_relative_c1_a3 so1 list5 t9 (i : Int) = res)
  (he : ∀ (rc : ((Option ((List (List Bool)) × ((List (List Int)) × ((List (List Int)) × Unit)))) × (Int × (Int × (Int × Unit)))) → (List Int) → Int → Int → Option ((List Int) × Unit)) (list5 : (List Int)), Inv cnt list5 → impl_order_those_k_lattice_relative_c1_b3 rc impl_order_those_k_lattice_relative_c1_a3 so1 list5 t9 (cnt : Int) = res)
  (i0 : Nat) (hi : i0 ≤ cnt) (list5 : (List Int)) (h0 : Inv i0 list5) : impl_order_those_k_lattice_relative_c1_F3 big so1 list5 t9 (i0 : Int) = res := by
  have key : ∀ (m i : Nat) (list5 : (List Int)), i ≤ cnt → cnt < m + i → Inv i list5 → impl_order_those_k_lattice_relative_c1_l3 big impl_order_those_k_lattice_relative_c1_a3 m so1 list5 t9 (i : Int) = res := by
    intro m
    induction m with
    | zero => intro i list5 h1 h2 h3; exact absurd h2 (by omega)
    | succ m ih =>
      intro i list5 h1 h2 h3
      rcases Nat.lt_or_ge i cnt with hlt | hge
      · exact hs _ i list5 hlt h3 (fun list5' h4 => ih (i + 1) list5' (by omega) (by omega) h4)
      · obtain rfl : i = cnt := by omega
        exact he _ list5 h3
  exact key big i0 list5 hi (by have := big_ge; omega) h0
theorem impl_order_those_k_lattice_isComplemented_c1_h3 {so1 : ((Option ((List (List Bool)) × ((List (List Int)) × ((List (List Int)) × Unit)))) × Unit)} {t9 : Int} (cnt : Nat) (Inv : Nat → (List Int) → Prop) {res : Option ((List Int) × Unit)} (hn : cnt ≤ 500000000000)
  (hs : ∀ (rc : ((Option ((List (List Bool)) × ((List (List Int)) × ((List (List Int)) × Unit)))) × Unit) → (List Int) → Int → Int → Option ((List Int) × Unit)) (i : Nat) (list5 : (List Int)), i < cnt → Inv i list5 → (∀ (list5' : (List Int)), Inv (i + 1) list5' → rc so1 list5' t9 ((i + 1 : Nat) : Int) = res) → impl_order_those_k_lattice_isComplemented_c1_b3 rc impl_order_those_k_lattice_isComplemented_c1_a3 so1 list5 t9 (i : Int) = res)
  (he : ∀ (rc : ((Option ((List (List Bool)) × ((List (List Int)) × ((List (List Int)) × Unit)))) × Unit) → (List Int) → Int → Int → Option ((List Int) × Unit)) (list5 : (List Int)), Inv cnt list5 → impl_order_those_k_lattice_isComplemented_c1_b3 rc impl_order_those_k_lattice_isComplemented_c1_a3 so1 list5 t9 (cnt : Int) = res)
  (i0 : Nat) (hi : i0 ≤ cnt) (list5 : (List Int)) (h0 : Inv i0 list5) : impl_order_those_k_lattice_isComplemented_c1_F3 big so1 list5 t9 (i0 : Int) = res := by
  have key : ∀ (m i : Nat) (list5 : (List Int)), i ≤ cnt → cnt < m + i → Inv i list5 → impl_order_those_k_lattice_isComplemented_c1_l3 big impl_order_those_k_lattice_isComplemented_c1_a3 m so1 list5 t9 (i : Int) = res := by
    intro m
    induction m with
    | zero => intro i list5 h1 h2 h3; exact absurd h2 (by omega)
    | succ m ih =>
      intro i list5 h1 h2 h3
      rcases Nat.lt_or_ge i cnt with hlt | hge
      · exact hs _ i list5 hlt h3 (fun list5' h4 => ih (i + 1) list5' (by omega) (by omega) h4)
      · obtain rfl : i = cnt := by omega
        exact he _ list5 h3
  exact key big i0 list5 hi (by have := big_ge; omega) h0
theorem laws_eqIntS_h4 {a0 : (List Int)} {b1 : (List Int)} (cnt : Nat) (Inv : Nat → Prop) {res : Option (Bool × Unit)} (hn : cnt ≤ 500000000000)
  (hs : ∀ (rc : (List Int) → (List Int) → Int → Option (Bool × Unit)) (i : Nat), i < cnt → Inv i → (Inv (i + 1) → rc a0 b1 ((i + 1 : Nat) : Int) = res) → laws_eqIntS_b4 rc laws_eqIntS_a4 a0 b1 (i : Int) = res)
  (he : ∀ (rc : (List Int) → (List Int) → Int → Option (Bool × Unit)), Inv cnt → laws_eqIntS_b4 rc laws_eqIntS_a4 a0 b1 (cnt : Int) = res)
  (i0 : Nat) (hi : i0 ≤ cnt) (h0 : Inv i0) : laws_eqIntS_F4 big a0 b1 (i0 : Int) = res := by
  have key : ∀ (m i : Nat), i ≤ cnt → cnt < m + i → Inv i → laws_eqIntS_l4 big laws_eqIntS_a4 m a0 b1 (i : Int) = res := by
    intro m
    induction m with
    | zero => intro i h1 h2 h3; exact absurd h2 (by omega)
    | succ m ih =>
      intro i h1 h2 h3
      rcases Nat.lt_or_ge i cnt with hlt | hge
      · exact hs _ i hlt h3 (fun h4 => ih (i + 1) (by omega) (by omega) h4)
      · obtain rfl : i = cnt := by omega
        exact he _ h3
  exact key big i0 hi (by have := big_ge; omega) h0
theorem laws_eqIntSS_h4 {a0 : (List (List Int))} {b1 : (List (List Int))} (cnt : Nat) (Inv : Nat → Prop) {res : Option (Bool × Unit)} (hn : cnt ≤ 500000000000)
  (hs : ∀ (rc : (List (List Int)) → (List (List Int)) → Int → Option (Bool × Unit)) (i : Nat), i < cnt → Inv i → (Inv (i + 1) → rc a0 b1 ((i + 1 : Nat) : Int) = res) → laws_eqIntSS_b4 rc laws_eqIntSS_a4 a0 b1 (i : Int) = res)
  (he : ∀ (rc : (List (List Int)) → (List (List Int)) → Int → Option (Bool × Unit)), Inv cnt → laws_eqIntSS_b4 rc laws_eqIntSS_a4 a0 b1 (cnt : Int) = res)
  (i0 : Nat) (hi : i0 ≤ cnt) (h0 : Inv i0) : laws_eqIntSS_F4 big a0 b1 (i0 : Int) = res := by
  have key : ∀ (m i : Nat), i ≤ cnt → cnt < m + i → Inv i → laws_eqIntSS_l4 big laws_eqIntSS_a4 m a0 b1 (i : Int) = res := by
    intro m
    induction m with
    | zero => intro i h1 h2 h3; exact absurd h2 (by omega)
    | succ m ih =>
      intro i h1 h2 h3
      rcases Nat.lt_or_ge i cnt with hlt | hge
      · exact hs _ i hlt h3 (fun h4 => ih (i + 1) (by omega) (by omega) h4)
      · obtain rfl : i = cnt := by omega
        exact he _ h3
  exact key big i0 hi (by have := big_ge; omega) h0
end Go.Proofs.Ytbegnofapodldaa
