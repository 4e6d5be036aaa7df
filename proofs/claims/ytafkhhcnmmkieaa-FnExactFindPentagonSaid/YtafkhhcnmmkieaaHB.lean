import Derived.Test.YtafkhhcnmmkieaaPLib
import Derived.Test.YtafkhhcnmmkieaaGB
set_option linter.unusedVariables false
namespace Go.Proofs.Ytafkhhcnmmkieaa
open Go Go.Gx Go.Proofs

/-! rules for the loops -/
theorem zz1_h5 {a0 : Y3} (cnt : Nat) (Inv : Nat → Int → Prop) {res : Option (Int × Unit)} (hn : cnt ≤ 500000000000)
  (hs : ∀ (rc : Y3 → Int → Int → Option (Int × Unit)) (i : Nat) (left1 : Int), i < cnt → Inv i left1 → (∀ (left1' : Int), Inv (i + 1) left1' → rc a0 left1' ((i + 1 : Nat) : Int) = res) → zz1_b5 rc zz1_a5 a0 left1 (i : Int) = res)
  (he : ∀ (rc : Y3 → Int → Int → Option (Int × Unit)) (left1 : Int), Inv cnt left1 → zz1_b5 rc zz1_a5 a0 left1 (cnt : Int) = res)
  (i0 : Nat) (hi : i0 ≤ cnt) (left1 : Int) (h0 : Inv i0 left1) : zz1_F5 big a0 left1 (i0 : Int) = res := by
  have key : ∀ (m i : Nat) (left1 : Int), i ≤ cnt → cnt < m + i → Inv i left1 → zz1_l5 big zz1_a5 m a0 left1 (i : Int) = res := by
    intro m
    induction m with
    | zero => intro i left1 h1 h2 h3; exact absurd h2 (by omega)
    | succ m ih =>
      intro i left1 h1 h2 h3
      rcases Nat.lt_or_ge i cnt with hlt | hge
      · exact hs _ i left1 hlt h3 (fun left1' h4 => ih (i + 1) left1' (by omega) (by omega) h4)
      · obtain rfl : i = cnt := by omega
        exact he _ left1 h3
  exact key big i0 left1 hi (by have := big_ge; omega) h0
theorem zz3_h3 {a0 : Y4} (cnt : Nat) (Inv : Nat → Y4 → Prop) {res : Option (Y4 × Unit)} (hn : cnt ≤ 500000000000)
  (hs : ∀ (rc : Y4 → Y4 → Int → Option (Y4 × Unit)) (i : Nat) (out3 : Y4), i < cnt → Inv i out3 → (∀ (out3' : Y4), Inv (i + 1) out3' → rc a0 out3' ((i + 1 : Nat) : Int) = res) → zz3_b3 rc zz3_a3 a0 out3 (i : Int) = res)
  (he : ∀ (rc : Y4 → Y4 → Int → Option (Y4 × Unit)) (out3 : Y4), Inv cnt out3 → zz3_b3 rc zz3_a3 a0 out3 (cnt : Int) = res)
  (i0 : Nat) (hi : i0 ≤ cnt) (out3 : Y4) (h0 : Inv i0 out3) : zz3_F3 big a0 out3 (i0 : Int) = res := by
  have key : ∀ (m i : Nat) (out3 : Y4), i ≤ cnt → cnt < m + i → Inv i out3 → zz3_l3 big zz3_a3 m a0 out3 (i : Int) = res := by
    intro m
    induction m with
    | zero => intro i out3 h1 h2 h3; exact absurd h2 (by omega)
    | succ m ih =>
      intro i out3 h1 h2 h3
      rcases Nat.lt_or_ge i cnt with hlt | hge
      · exact hs _ i out3 hlt h3 (fun out3' h4 => ih (i + 1) out3' (by omega) (by omega) h4)
      · obtain rfl : i = cnt := by omega
        exact he _ out3 h3
  exact key big i0 out3 hi (by have := big_ge; omega) h0
theorem zz4_h3 {a0 : Y3} (cnt : Nat) (Inv : Nat → Y3 → Prop) {res : Option Y2} (hn : cnt ≤ 500000000000)
  (hs : ∀ (rc : Y3 → Y3 → Int → Option Y2) (i : Nat) (out3 : Y3), i < cnt → Inv i out3 → (∀ (out3' : Y3), Inv (i + 1) out3' → rc a0 out3' ((i + 1 : Nat) : Int) = res) → zz4_b3 rc zz4_a3 a0 out3 (i : Int) = res)
  (he : ∀ (rc : Y3 → Y3 → Int → Option Y2) (out3 : Y3), Inv cnt out3 → zz4_b3 rc zz4_a3 a0 out3 (cnt : Int) = res)
  (i0 : Nat) (hi : i0 ≤ cnt) (out3 : Y3) (h0 : Inv i0 out3) : zz4_F3 big a0 out3 (i0 : Int) = res := by
  have key : ∀ (m i : Nat) (out3 : Y3), i ≤ cnt → cnt < m + i → Inv i out3 → zz4_l3 big zz4_a3 m a0 out3 (i : Int) = res := by
    intro m
    induction m with
    | zero => intro i out3 h1 h2 h3; exact absurd h2 (by omega)
    | succ m ih =>
      intro i out3 h1 h2 h3
      rcases Nat.lt_or_ge i cnt with hlt | hge
      · exact hs _ i out3 hlt h3 (fun out3' h4 => ih (i + 1) out3' (by omega) (by omega) h4)
      · obtain rfl : i = cnt := by omega
        exact he _ out3 h3
  exact key big i0 out3 hi (by have := big_ge; omega) h0
theorem zz7_h2 {l0 : Y4} {lo1 : Int} {hi2 : Int} (cnt : Nat) (Inv : Nat → Prop) {res : Option (Bool × Unit)} (hn : cnt ≤ 500000000000)
  (hs : ∀ (rc : Y4 → Int → Int → Int → Option (Bool × Unit)) (i : Nat), i < cnt → Inv i → (Inv (i + 1) → rc l0 lo1 hi2 ((i + 1 : Nat) : Int) = res) → zz7_b2 rc zz7_a2 l0 lo1 hi2 (i : Int) = res)
  (he : ∀ (rc : Y4 → Int → Int → Int → Option (Bool × Unit)), Inv cnt → zz7_b2 rc zz7_a2 l0 lo1 hi2 (cnt : Int) = res)
  (i0 : Nat) (hi : i0 ≤ cnt) (h0 : Inv i0) : zz7_F2 big l0 lo1 hi2 (i0 : Int) = res := by
  have key : ∀ (m i : Nat), i ≤ cnt → cnt < m + i → Inv i → zz7_l2 big zz7_a2 m l0 lo1 hi2 (i : Int) = res := by
    intro m
    induction m with
    | zero => intro i h1 h2 h3; exact absurd h2 (by omega)
    | succ m ih =>
      intro i h1 h2 h3
      rcases Nat.lt_or_ge i cnt with hlt | hge
      · exact hs _ i hlt h3 (fun h4 => ih (i + 1) (by omega) (by omega) h4)
      · obtain rfl : i = cnt := by omega
        exact he _ h3
  exact key big i0 hi (by have := big_ge; omega) h0
theorem zz8_h2 {l0 : Y4} {n1 : Int} (cnt : Nat) (Inv : Nat → Prop) {res : Option (Bool × Unit)} (hn : cnt ≤ 500000000000)
  (hs : ∀ (rc : Y4 → Int → Int → Option (Bool × Unit)) (i : Nat), i < cnt → Inv i → (Inv (i + 1) → rc l0 n1 ((i + 1 : Nat) : Int) = res) → zz8_b2 rc zz8_a2 l0 n1 (i : Int) = res)
  (he : ∀ (rc : Y4 → Int → Int → Option (Bool × Unit)), Inv cnt → zz8_b2 rc zz8_a2 l0 n1 (cnt : Int) = res)
  (i0 : Nat) (hi : i0 ≤ cnt) (h0 : Inv i0) : zz8_F2 big l0 n1 (i0 : Int) = res := by
  have key : ∀ (m i : Nat), i ≤ cnt → cnt < m + i → Inv i → zz8_l2 big zz8_a2 m l0 n1 (i : Int) = res := by
    intro m
    induction m with
    | zero => intro i h1 h2 h3; exact absurd h2 (by omega)
    | succ m ih =>
      intro i h1 h2 h3
      rcases Nat.lt_or_ge i cnt with hlt | hge
      · exact hs _ i hlt h3 (fun h4 => ih (i + 1) (by omega) (by omega) h4)
      · obtain rfl : i = cnt := by omega
        exact he _ h3
  exact key big i0 hi (by have := big_ge; omega) h0
theorem zz9_h2 {x0 : Y4} {y1 : Y4} (cnt : Nat) (Inv : Nat → Prop) {res : Option (Bool × Unit)} (hn : cnt ≤ 500000000000)
  (hs : ∀ (rc : Y4 → Y4 → Int → Option (Bool × Unit)) (i : Nat), i < cnt → Inv i → (Inv (i + 1) → rc x0 y1 ((i + 1 : Nat) : Int) = res) → zz9_b2 rc zz9_a2 x0 y1 (i : Int) = res)
  (he : ∀ (rc : Y4 → Y4 → Int → Option (Bool × Unit)), Inv cnt → zz9_b2 rc zz9_a2 x0 y1 (cnt : Int) = res)
  (i0 : Nat) (hi : i0 ≤ cnt) (h0 : Inv i0) : zz9_F2 big x0 y1 (i0 : Int) = res := by
  have key : ∀ (m i : Nat), i ≤ cnt → cnt < m + i → Inv i → zz9_l2 big zz9_a2 m x0 y1 (i : Int) = res := by
    intro m
    induction m with
    | zero => intro i h1 h2 h3; exact absurd h2 (by omega)
    | succ m ih =>
      intro i h1 h2 h3
      rcases Nat.lt_or_ge i cnt with hlt | hge
      · exact hs _ i hlt h3 (fun h4 => ih (i + 1) (by omega) (by omega) h4)
      · obtain rfl : i = cnt := by omega
        exact he _ h3
  exact key big i0 hi (by have := big_ge; omega) h0
theorem zz10_h5 {p1 : Y2} {n3 : Int} (cnt : Nat) (Inv : Nat → Prop) {res : Option (Bool × Unit)} (hn : cnt ≤ 500000000000)
  (hs : ∀ (rc : Y2 → Int → Int → Option (Bool × Unit)) (i : Nat), i < cnt → Inv i → (Inv (i + 1) → rc p1 n3 ((i + 1 : Nat) : Int) = res) → zz10_b5 rc (zz10_a5 (zz10_F10 big)) p1 n3 (i : Int) = res)
  (he : ∀ (rc : Y2 → Int → Int → Option (Bool × Unit)), Inv cnt → zz10_b5 rc (zz10_a5 (zz10_F10 big)) p1 n3 (cnt : Int) = res)
  (i0 : Nat) (hi : i0 ≤ cnt) (h0 : Inv i0) : zz10_F5 big p1 n3 (i0 : Int) = res := by
  have key : ∀ (m i : Nat), i ≤ cnt → cnt < m + i → Inv i → zz10_l5 big (zz10_a5 (zz10_F10 big)) m p1 n3 (i : Int) = res := by
    intro m
    induction m with
    | zero => intro i h1 h2 h3; exact absurd h2 (by omega)
    | succ m ih =>
      intro i h1 h2 h3
      rcases Nat.lt_or_ge i cnt with hlt | hge
      · exact hs _ i hlt h3 (fun h4 => ih (i + 1) (by omega) (by omega) h4)
      · obtain rfl : i = cnt := by omega
        exact he _ h3
  exact key big i0 hi (by have := big_ge; omega) h0
theorem zz10_h10 {p1 : Y2} {n3 : Int} (cnt : Nat) (Inv : Nat → Prop) {res : Option (Bool × Unit)} (hn : cnt ≤ 500000000000)
  (hs : ∀ (rc : Y2 → Int → Int → Option (Bool × Unit)) (i : Nat), i < cnt → Inv i → (Inv (i + 1) → rc p1 n3 ((i + 1 : Nat) : Int) = res) → zz10_b10 (zz10_F13 big rc zz10_a10) zz10_a10 p1 n3 (i : Int) = res)
  (he : ∀ (rc : Y2 → Int → Int → Option (Bool × Unit)), Inv cnt → zz10_b10 (zz10_F13 big rc zz10_a10) zz10_a10 p1 n3 (cnt : Int) = res)
  (i0 : Nat) (hi : i0 ≤ cnt) (h0 : Inv i0) : zz10_F10 big p1 n3 (i0 : Int) = res := by
  have key : ∀ (m i : Nat), i ≤ cnt → cnt < m + i → Inv i → zz10_l10 big zz10_a10 m p1 n3 (i : Int) = res := by
    intro m
    induction m with
    | zero => intro i h1 h2 h3; exact absurd h2 (by omega)
    | succ m ih =>
      intro i h1 h2 h3
      rcases Nat.lt_or_ge i cnt with hlt | hge
      · exact hs _ i hlt h3 (fun h4 => ih (i + 1) (by omega) (by omega) h4)
      · obtain rfl : i = cnt := by omega
        exact he _ h3
  exact key big i0 hi (by have := big_ge; omega) h0
theorem zz10_h13 {rec : Y2 → Int → Int → Option (Bool × Unit)} {k : Option (Bool × Unit)} {p1 : Y2} {n3 : Int} {x5 : Int} (cnt : Nat) (Inv : Nat → Prop) {res : Option (Bool × Unit)} (hn : cnt ≤ 500000000000)
  (hs : ∀ (rc : Y2 → Int → Int → Int → Option (Bool × Unit)) (i : Nat), i < cnt → Inv i → (Inv (i + 1) → rc p1 n3 x5 ((i + 1 : Nat) : Int) = res) → zz10_b13 rc (zz10_a13 rec) p1 n3 x5 (i : Int) = res)
  (he : ∀ (rc : Y2 → Int → Int → Int → Option (Bool × Unit)), Inv cnt → zz10_b13 rc (zz10_a13 rec) p1 n3 x5 (cnt : Int) = res)
  (i0 : Nat) (hi : i0 ≤ cnt) (h0 : Inv i0) : zz10_F13 big rec k p1 n3 x5 (i0 : Int) = res := by
  have key : ∀ (m i : Nat), i ≤ cnt → cnt < m + i → Inv i → zz10_l13 big (zz10_a13 rec) m p1 n3 x5 (i : Int) = res := by
    intro m
    induction m with
    | zero => intro i h1 h2 h3; exact absurd h2 (by omega)
    | succ m ih =>
      intro i h1 h2 h3
      rcases Nat.lt_or_ge i cnt with hlt | hge
      · exact hs _ i hlt h3 (fun h4 => ih (i + 1) (by omega) (by omega) h4)
      · obtain rfl : i = cnt := by omega
        exact he _ h3
  exact key big i0 hi (by have := big_ge; omega) h0
theorem zz12_h3 {p1 : Y2} {t2 : Y2} (cnt : Nat) (Inv : Nat → Y2 → Prop) {res : Option (Y2 × Unit)} (hn : cnt ≤ 500000000000)
  (hs : ∀ (rc : Y2 → Y2 → Y2 → Int → Option (Y2 × Unit)) (i : Nat) (out3 : Y2), i < cnt → Inv i out3 → (∀ (out3' : Y2), Inv (i + 1) out3' → rc p1 t2 out3' ((i + 1 : Nat) : Int) = res) → zz12_b3 (zz12_F7 big rc zz12_a3) zz12_a3 p1 t2 out3 (i : Int) = res)
  (he : ∀ (rc : Y2 → Y2 → Y2 → Int → Option (Y2 × Unit)) (out3 : Y2), Inv cnt out3 → zz12_b3 (zz12_F7 big rc zz12_a3) zz12_a3 p1 t2 out3 (cnt : Int) = res)
  (i0 : Nat) (hi : i0 ≤ cnt) (out3 : Y2) (h0 : Inv i0 out3) : zz12_F3 big p1 t2 out3 (i0 : Int) = res := by
  have key : ∀ (m i : Nat) (out3 : Y2), i ≤ cnt → cnt < m + i → Inv i out3 → zz12_l3 big zz12_a3 m p1 t2 out3 (i : Int) = res := by
    intro m
    induction m with
    | zero => intro i out3 h1 h2 h3; exact absurd h2 (by omega)
    | succ m ih =>
      intro i out3 h1 h2 h3
      rcases Nat.lt_or_ge i cnt with hlt | hge
      · exact hs _ i out3 hlt h3 (fun out3' h4 => ih (i + 1) out3' (by omega) (by omega) h4)
      · obtain rfl : i = cnt := by omega
        exact he _ out3 h3
  exact key big i0 out3 hi (by have := big_ge; omega) h0
theorem zz12_h7 {rec : Y2 → Y2 → Y2 → Int → Option (Y2 × Unit)} {k : Y2 → Y2 → Option (Y2 × Unit)} {p1 : Y2} {t2 : Y2} {out3 : Y2} {x4 : Int} (cnt : Nat) (Inv : Nat → Y4 → Prop) {res : Option (Y2 × Unit)} (hn : cnt ≤ 500000000000)
  (hs : ∀ (rc : Y2 → Y2 → Y2 → Int → Y4 → Int → Option (Y2 × Unit)) (i : Nat) (below5 : Y4), i < cnt → Inv i below5 → (∀ (below5' : Y4), Inv (i + 1) below5' → rc p1 t2 out3 x4 below5' ((i + 1 : Nat) : Int) = res) → zz12_b7 rc (zz12_a7 rec) p1 t2 out3 x4 below5 (i : Int) = res)
  (he : ∀ (rc : Y2 → Y2 → Y2 → Int → Y4 → Int → Option (Y2 × Unit)) (below5 : Y4), Inv cnt below5 → zz12_b7 rc (zz12_a7 rec) p1 t2 out3 x4 below5 (cnt : Int) = res)
  (i0 : Nat) (hi : i0 ≤ cnt) (below5 : Y4) (h0 : Inv i0 below5) : zz12_F7 big rec k p1 t2 out3 x4 below5 (i0 : Int) = res := by
  have key : ∀ (m i : Nat) (below5 : Y4), i ≤ cnt → cnt < m + i → Inv i below5 → zz12_l7 big (zz12_a7 rec) m p1 t2 out3 x4 below5 (i : Int) = res := by
    intro m
    induction m with
    | zero => intro i below5 h1 h2 h3; exact absurd h2 (by omega)
    | succ m ih =>
      intro i below5 h1 h2 h3
      rcases Nat.lt_or_ge i cnt with hlt | hge
      · exact hs _ i below5 hlt h3 (fun below5' h4 => ih (i + 1) below5' (by omega) (by omega) h4)
      · obtain rfl : i = cnt := by omega
        exact he _ below5 h3
  exact key big i0 below5 hi (by have := big_ge; omega) h0
theorem zz13_h3 {some1 : Y4} {p2 : Y2} (cnt : Nat) (Inv : Nat → Y4 → Prop) {res : Option (Int × Unit)} (hn : cnt ≤ 500000000000)
  (hs : ∀ (rc : Y4 → Y2 → Y4 → Int → Option (Int × Unit)) (i : Nat) (low5 : Y4), i < cnt → Inv i low5 → (∀ (low5' : Y4), Inv (i + 1) low5' → rc some1 p2 low5' ((i + 1 : Nat) : Int) = res) → zz13_b3 (zz13_F7 big rc (zz13_a3 (zz13_F13 big))) (zz13_a3 (zz13_F13 big)) some1 p2 low5 (i : Int) = res)
  (he : ∀ (rc : Y4 → Y2 → Y4 → Int → Option (Int × Unit)) (low5 : Y4), Inv cnt low5 → zz13_b3 (zz13_F7 big rc (zz13_a3 (zz13_F13 big))) (zz13_a3 (zz13_F13 big)) some1 p2 low5 (cnt : Int) = res)
  (i0 : Nat) (hi : i0 ≤ cnt) (low5 : Y4) (h0 : Inv i0 low5) : zz13_F3 big some1 p2 low5 (i0 : Int) = res := by
  have key : ∀ (m i : Nat) (low5 : Y4), i ≤ cnt → cnt < m + i → Inv i low5 → zz13_l3 big (zz13_a3 (zz13_F13 big)) m some1 p2 low5 (i : Int) = res := by
    intro m
    induction m with
    | zero => intro i low5 h1 h2 h3; exact absurd h2 (by omega)
    | succ m ih =>
      intro i low5 h1 h2 h3
      rcases Nat.lt_or_ge i cnt with hlt | hge
      · exact hs _ i low5 hlt h3 (fun low5' h4 => ih (i + 1) low5' (by omega) (by omega) h4)
      · obtain rfl : i = cnt := by omega
        exact he _ low5 h3
  exact key big i0 low5 hi (by have := big_ge; omega) h0
theorem zz13_h7 {rec : Y4 → Y2 → Y4 → Int → Option (Int × Unit)} {k : Y2 → Y4 → Option (Int × Unit)} {some1 : Y4} {p2 : Y2} {low5 : Y4} {z6 : Int} (cnt : Nat) (Inv : Nat → Bool → Prop) {res : Option (Int × Unit)} (hn : cnt ≤ 500000000000)
  (hs : ∀ (rc : Y4 → Y2 → Y4 → Int → Bool → Int → Option (Int × Unit)) (i : Nat) (all7 : Bool), i < cnt → Inv i all7 → (∀ (all7' : Bool), Inv (i + 1) all7' → rc some1 p2 low5 z6 all7' ((i + 1 : Nat) : Int) = res) → zz13_b7 rc (zz13_a7 rec) some1 p2 low5 z6 all7 (i : Int) = res)
  (he : ∀ (rc : Y4 → Y2 → Y4 → Int → Bool → Int → Option (Int × Unit)) (all7 : Bool), Inv cnt all7 → zz13_b7 rc (zz13_a7 rec) some1 p2 low5 z6 all7 (cnt : Int) = res)
  (i0 : Nat) (hi : i0 ≤ cnt) (all7 : Bool) (h0 : Inv i0 all7) : zz13_F7 big rec k some1 p2 low5 z6 all7 (i0 : Int) = res := by
  have key : ∀ (m i : Nat) (all7 : Bool), i ≤ cnt → cnt < m + i → Inv i all7 → zz13_l7 big (zz13_a7 rec) m some1 p2 low5 z6 all7 (i : Int) = res := by
    intro m
    induction m with
    | zero => intro i all7 h1 h2 h3; exact absurd h2 (by omega)
    | succ m ih =>
      intro i all7 h1 h2 h3
      rcases Nat.lt_or_ge i cnt with hlt | hge
      · exact hs _ i all7 hlt h3 (fun all7' h4 => ih (i + 1) all7' (by omega) (by omega) h4)
      · obtain rfl : i = cnt := by omega
        exact he _ all7 h3
  exact key big i0 all7 hi (by have := big_ge; omega) h0
theorem zz13_h13 {p2 : Y2} {low5 : Y4} (cnt : Nat) (Inv : Nat → Prop) {res : Option (Int × Unit)} (hn : cnt ≤ 500000000000)
  (hs : ∀ (rc : Y2 → Y4 → Int → Option (Int × Unit)) (i : Nat), i < cnt → Inv i → (Inv (i + 1) → rc p2 low5 ((i + 1 : Nat) : Int) = res) → zz13_b13 rc zz13_a13 p2 low5 (i : Int) = res)
  (he : ∀ (rc : Y2 → Y4 → Int → Option (Int × Unit)), Inv cnt → zz13_b13 rc zz13_a13 p2 low5 (cnt : Int) = res)
  (i0 : Nat) (hi : i0 ≤ cnt) (h0 : Inv i0) : zz13_F13 big p2 low5 (i0 : Int) = res := by
  have key : ∀ (m i : Nat), i ≤ cnt → cnt < m + i → Inv i → zz13_l13 big zz13_a13 m p2 low5 (i : Int) = res := by
    intro m
    induction m with
    | zero => intro i h1 h2 h3; exact absurd h2 (by omega)
    | succ m ih =>
      intro i h1 h2 h3
      rcases Nat.lt_or_ge i cnt with hlt | hge
      · exact hs _ i hlt h3 (fun h4 => ih (i + 1) (by omega) (by omega) h4)
      · obtain rfl : i = cnt := by omega
        exact he _ h3
  exact key big i0 hi (by have := big_ge; omega) h0
theorem zz14_h5 {p1 : Y2} {dual3 : Y2} (cnt : Nat) (Inv : Nat → Prop) {res : Option (Bool × Unit)} (hn : cnt ≤ 500000000000)
  (hs : ∀ (rc : Y2 → Y2 → Int → Option (Bool × Unit)) (i : Nat), i < cnt → Inv i → (Inv (i + 1) → rc p1 dual3 ((i + 1 : Nat) : Int) = res) → zz14_b5 (zz14_F8 big rc zz14_a5) zz14_a5 p1 dual3 (i : Int) = res)
  (he : ∀ (rc : Y2 → Y2 → Int → Option (Bool × Unit)), Inv cnt → zz14_b5 (zz14_F8 big rc zz14_a5) zz14_a5 p1 dual3 (cnt : Int) = res)
  (i0 : Nat) (hi : i0 ≤ cnt) (h0 : Inv i0) : zz14_F5 big p1 dual3 (i0 : Int) = res := by
  have key : ∀ (m i : Nat), i ≤ cnt → cnt < m + i → Inv i → zz14_l5 big zz14_a5 m p1 dual3 (i : Int) = res := by
    intro m
    induction m with
    | zero => intro i h1 h2 h3; exact absurd h2 (by omega)
    | succ m ih =>
      intro i h1 h2 h3
      rcases Nat.lt_or_ge i cnt with hlt | hge
      · exact hs _ i hlt h3 (fun h4 => ih (i + 1) (by omega) (by omega) h4)
      · obtain rfl : i = cnt := by omega
        exact he _ h3
  exact key big i0 hi (by have := big_ge; omega) h0
theorem zz14_h8 {rec : Y2 → Y2 → Int → Option (Bool × Unit)} {k : Option (Bool × Unit)} {p1 : Y2} {dual3 : Y2} {x4 : Int} (cnt : Nat) (Inv : Nat → Prop) {res : Option (Bool × Unit)} (hn : cnt ≤ 500000000000)
  (hs : ∀ (rc : Y2 → Y2 → Int → Int → Option (Bool × Unit)) (i : Nat), i < cnt → Inv i → (Inv (i + 1) → rc p1 dual3 x4 ((i + 1 : Nat) : Int) = res) → zz14_b8 rc (zz14_a8 rec) p1 dual3 x4 (i : Int) = res)
  (he : ∀ (rc : Y2 → Y2 → Int → Int → Option (Bool × Unit)), Inv cnt → zz14_b8 rc (zz14_a8 rec) p1 dual3 x4 (cnt : Int) = res)
  (i0 : Nat) (hi : i0 ≤ cnt) (h0 : Inv i0) : zz14_F8 big rec k p1 dual3 x4 (i0 : Int) = res := by
  have key : ∀ (m i : Nat), i ≤ cnt → cnt < m + i → Inv i → zz14_l8 big (zz14_a8 rec) m p1 dual3 x4 (i : Int) = res := by
    intro m
    induction m with
    | zero => intro i h1 h2 h3; exact absurd h2 (by omega)
    | succ m ih =>
      intro i h1 h2 h3
      rcases Nat.lt_or_ge i cnt with hlt | hge
      · exact hs _ i hlt h3 (fun h4 => ih (i + 1) (by omega) (by omega) h4)
      · obtain rfl : i = cnt := by omega
        exact he _ h3
  exact key big i0 hi (by have := big_ge; omega) h0
theorem zz19_h3 {x1 : Int} {y2 : Int} {z3 : Int} {p4 : Y2} (cnt : Nat) (Inv : Nat → Y4 → Prop) {res : Option (Y4 × Unit)} (hn : cnt ≤ 500000000000)
  (hs : ∀ (rc : Int → Int → Int → Y2 → Y4 → Int → Option (Y4 × Unit)) (i : Nat) (out9 : Y4), i < cnt → Inv i out9 → (∀ (out9' : Y4), Inv (i + 1) out9' → rc x1 y2 z3 p4 out9' ((i + 1 : Nat) : Int) = res) → zz19_b3 rc zz19_a3 x1 y2 z3 p4 out9 (i : Int) = res)
  (he : ∀ (rc : Int → Int → Int → Y2 → Y4 → Int → Option (Y4 × Unit)) (out9 : Y4), Inv cnt out9 → zz19_b3 rc zz19_a3 x1 y2 z3 p4 out9 (cnt : Int) = res)
  (i0 : Nat) (hi : i0 ≤ cnt) (out9 : Y4) (h0 : Inv i0 out9) : zz19_F3 big x1 y2 z3 p4 out9 (i0 : Int) = res := by
  have key : ∀ (m i : Nat) (out9 : Y4), i ≤ cnt → cnt < m + i → Inv i out9 → zz19_l3 big zz19_a3 m x1 y2 z3 p4 out9 (i : Int) = res := by
    intro m
    induction m with
    | zero => intro i out9 h1 h2 h3; exact absurd h2 (by omega)
    | succ m ih =>
      intro i out9 h1 h2 h3
      rcases Nat.lt_or_ge i cnt with hlt | hge
      · exact hs _ i out9 hlt h3 (fun out9' h4 => ih (i + 1) out9' (by omega) (by omega) h4)
      · obtain rfl : i = cnt := by omega
        exact he _ out9 h3
  exact key big i0 out9 hi (by have := big_ge; omega) h0
theorem zz20_h2 {x1 : Int} {y2 : Int} {p3 : Y2} (cnt : Nat) (Inv : Nat → Prop) {res : Option (Bool × Unit)} (hn : cnt ≤ 500000000000)
  (hs : ∀ (rc : Int → Int → Y2 → Int → Option (Bool × Unit)) (i : Nat), i < cnt → Inv i → (Inv (i + 1) → rc x1 y2 p3 ((i + 1 : Nat) : Int) = res) → zz20_b2 rc zz20_a2 x1 y2 p3 (i : Int) = res)
  (he : ∀ (rc : Int → Int → Y2 → Int → Option (Bool × Unit)), Inv cnt → zz20_b2 rc zz20_a2 x1 y2 p3 (cnt : Int) = res)
  (i0 : Nat) (hi : i0 ≤ cnt) (h0 : Inv i0) : zz20_F2 big x1 y2 p3 (i0 : Int) = res := by
  have key : ∀ (m i : Nat), i ≤ cnt → cnt < m + i → Inv i → zz20_l2 big zz20_a2 m x1 y2 p3 (i : Int) = res := by
    intro m
    induction m with
    | zero => intro i h1 h2 h3; exact absurd h2 (by omega)
    | succ m ih =>
      intro i h1 h2 h3
      rcases Nat.lt_or_ge i cnt with hlt | hge
      · exact hs _ i hlt h3 (fun h4 => ih (i + 1) (by omega) (by omega) h4)
      · obtain rfl : i = cnt := by omega
        exact he _ h3
  exact key big i0 hi (by have := big_ge; omega) h0
theorem zz21_h5 {p1 : Y2} (cnt : Nat) (Inv : Nat → Y4 → Prop) {res : Option ((Y4 × (Bool × Unit)) × Unit)} (hn : cnt ≤ 500000000000)
  (hs : ∀ (rc : Y2 → Y4 → Int → Option ((Y4 × (Bool × Unit)) × Unit)) (i : Nat) (out4 : Y4), i < cnt → Inv i out4 → (∀ (out4' : Y4), Inv (i + 1) out4' → rc p1 out4' ((i + 1 : Nat) : Int) = res) → zz21_b5 (zz21_F9 big rc zz21_a5) zz21_a5 p1 out4 (i : Int) = res)
  (he : ∀ (rc : Y2 → Y4 → Int → Option ((Y4 × (Bool × Unit)) × Unit)) (out4 : Y4), Inv cnt out4 → zz21_b5 (zz21_F9 big rc zz21_a5) zz21_a5 p1 out4 (cnt : Int) = res)
  (i0 : Nat) (hi : i0 ≤ cnt) (out4 : Y4) (h0 : Inv i0 out4) : zz21_F5 big p1 out4 (i0 : Int) = res := by
  have key : ∀ (m i : Nat) (out4 : Y4), i ≤ cnt → cnt < m + i → Inv i out4 → zz21_l5 big zz21_a5 m p1 out4 (i : Int) = res := by
    intro m
    induction m with
    | zero => intro i out4 h1 h2 h3; exact absurd h2 (by omega)
    | succ m ih =>
      intro i out4 h1 h2 h3
      rcases Nat.lt_or_ge i cnt with hlt | hge
      · exact hs _ i out4 hlt h3 (fun out4' h4 => ih (i + 1) out4' (by omega) (by omega) h4)
      · obtain rfl : i = cnt := by omega
        exact he _ out4 h3
  exact key big i0 out4 hi (by have := big_ge; omega) h0
theorem zz21_h9 {rec : Y2 → Y4 → Int → Option ((Y4 × (Bool × Unit)) × Unit)} {k : Y4 → Option ((Y4 × (Bool × Unit)) × Unit)} {p1 : Y2} {out4 : Y4} {x5 : Int} {own6 : Y4} (cnt : Nat) (Inv : Nat → Bool → Prop) {res : Option ((Y4 × (Bool × Unit)) × Unit)} (hn : cnt ≤ 500000000000)
  (hs : ∀ (rc : Y2 → Y4 → Int → Y4 → Bool → Int → Option ((Y4 × (Bool × Unit)) × Unit)) (i : Nat) (central7 : Bool), i < cnt → Inv i central7 → (∀ (central7' : Bool), Inv (i + 1) central7' → rc p1 out4 x5 own6 central7' ((i + 1 : Nat) : Int) = res) → zz21_b9 rc (zz21_a9 rec) p1 out4 x5 own6 central7 (i : Int) = res)
  (he : ∀ (rc : Y2 → Y4 → Int → Y4 → Bool → Int → Option ((Y4 × (Bool × Unit)) × Unit)) (central7 : Bool), Inv cnt central7 → zz21_b9 rc (zz21_a9 rec) p1 out4 x5 own6 central7 (cnt : Int) = res)
  (i0 : Nat) (hi : i0 ≤ cnt) (central7 : Bool) (h0 : Inv i0 central7) : zz21_F9 big rec k p1 out4 x5 own6 central7 (i0 : Int) = res := by
  have key : ∀ (m i : Nat) (central7 : Bool), i ≤ cnt → cnt < m + i → Inv i central7 → zz21_l9 big (zz21_a9 rec) m p1 out4 x5 own6 central7 (i : Int) = res := by
    intro m
    induction m with
    | zero => intro i central7 h1 h2 h3; exact absurd h2 (by omega)
    | succ m ih =>
      intro i central7 h1 h2 h3
      rcases Nat.lt_or_ge i cnt with hlt | hge
      · exact hs _ i central7 hlt h3 (fun central7' h4 => ih (i + 1) central7' (by omega) (by omega) h4)
      · obtain rfl : i = cnt := by omega
        exact he _ central7 h3
  exact key big i0 central7 hi (by have := big_ge; omega) h0
theorem zz22_h3 {n0 : Int} {t8 : Int} (cnt : Nat) (Inv : Nat → Y5 → Prop) {res : Option (Y5 × Unit)} (hn : cnt ≤ 500000000000)
  (hs : ∀ (rc : Int → Y5 → Int → Int → Option (Y5 × Unit)) (i : Nat) (o3 : Y5), i < cnt → Inv i o3 → (∀ (o3' : Y5), Inv (i + 1) o3' → rc n0 o3' t8 ((i + 1 : Nat) : Int) = res) → zz22_b3 rc zz22_a3 n0 o3 t8 (i : Int) = res)
  (he : ∀ (rc : Int → Y5 → Int → Int → Option (Y5 × Unit)) (o3 : Y5), Inv cnt o3 → zz22_b3 rc zz22_a3 n0 o3 t8 (cnt : Int) = res)
  (i0 : Nat) (hi : i0 ≤ cnt) (o3 : Y5) (h0 : Inv i0 o3) : zz22_F3 big n0 o3 t8 (i0 : Int) = res := by
  have key : ∀ (m i : Nat) (o3 : Y5), i ≤ cnt → cnt < m + i → Inv i o3 → zz22_l3 big zz22_a3 m n0 o3 t8 (i : Int) = res := by
    intro m
    induction m with
    | zero => intro i o3 h1 h2 h3; exact absurd h2 (by omega)
    | succ m ih =>
      intro i o3 h1 h2 h3
      rcases Nat.lt_or_ge i cnt with hlt | hge
      · exact hs _ i o3 hlt h3 (fun o3' h4 => ih (i + 1) o3' (by omega) (by omega) h4)
      · obtain rfl : i = cnt := by omega
        exact he _ o3 h3
  exact key big i0 o3 hi (by have := big_ge; omega) h0
theorem zz23_h2 {list0 : Y4} (cnt : Nat) (Inv : Nat → Prop) {res : Option (Bool × Unit)} (hn : cnt ≤ 500000000000)
  (hs : ∀ (rc : Y4 → Int → Option (Bool × Unit)) (i : Nat), i < cnt → Inv i → (Inv (i + 1) → rc list0 ((i + 1 : Nat) : Int) = res) → zz23_b2 rc zz23_a2 list0 (i : Int) = res)
  (he : ∀ (rc : Y4 → Int → Option (Bool × Unit)), Inv cnt → zz23_b2 rc zz23_a2 list0 (cnt : Int) = res)
  (i0 : Nat) (hi : i0 ≤ cnt) (h0 : Inv i0) : zz23_F2 big list0 (i0 : Int) = res := by
  have key : ∀ (m i : Nat), i ≤ cnt → cnt < m + i → Inv i → zz23_l2 big zz23_a2 m list0 (i : Int) = res := by
    intro m
    induction m with
    | zero => intro i h1 h2 h3; exact absurd h2 (by omega)
    | succ m ih =>
      intro i h1 h2 h3
      rcases Nat.lt_or_ge i cnt with hlt | hge
      · exact hs _ i hlt h3 (fun h4 => ih (i + 1) (by omega) (by omega) h4)
      · obtain rfl : i = cnt := by omega
        exact he _ h3
  exact key big i0 hi (by have := big_ge; omega) h0
theorem zz24_h2 {n1 : Int} {t7 : Y4} {t8 : Int} (cnt : Nat) (Inv : Nat → Prop) {res : Option (Bool × Unit)} (hn : cnt ≤ 500000000000)
  (hs : ∀ (rc : Int → Y4 → Int → Int → Option (Bool × Unit)) (i : Nat), i < cnt → Inv i → (Inv (i + 1) → rc n1 t7 t8 ((i + 1 : Nat) : Int) = res) → zz24_b2 rc zz24_a2 n1 t7 t8 (i : Int) = res)
  (he : ∀ (rc : Int → Y4 → Int → Int → Option (Bool × Unit)), Inv cnt → zz24_b2 rc zz24_a2 n1 t7 t8 (cnt : Int) = res)
  (i0 : Nat) (hi : i0 ≤ cnt) (h0 : Inv i0) : zz24_F2 big n1 t7 t8 (i0 : Int) = res := by
  have key : ∀ (m i : Nat), i ≤ cnt → cnt < m + i → Inv i → zz24_l2 big zz24_a2 m n1 t7 t8 (i : Int) = res := by
    intro m
    induction m with
    | zero => intro i h1 h2 h3; exact absurd h2 (by omega)
    | succ m ih =>
      intro i h1 h2 h3
      rcases Nat.lt_or_ge i cnt with hlt | hge
      · exact hs _ i hlt h3 (fun h4 => ih (i + 1) (by omega) (by omega) h4)
      · obtain rfl : i = cnt := by omega
        exact he _ h3
  exact key big i0 hi (by have := big_ge; omega) h0
theorem zz25_h2 {o0 : Y5} {t7 : Int} (cnt : Nat) (Inv : Nat → Prop) {res : Option (Bool × Unit)} (hn : cnt ≤ 500000000000)
  (hs : ∀ (rc : Y5 → Int → Int → Option (Bool × Unit)) (i : Nat), i < cnt → Inv i → (Inv (i + 1) → rc o0 t7 ((i + 1 : Nat) : Int) = res) → zz25_b2 (zz25_F7 big rc zz25_a2) zz25_a2 o0 t7 (i : Int) = res)
  (he : ∀ (rc : Y5 → Int → Int → Option (Bool × Unit)), Inv cnt → zz25_b2 (zz25_F7 big rc zz25_a2) zz25_a2 o0 t7 (cnt : Int) = res)
  (i0 : Nat) (hi : i0 ≤ cnt) (h0 : Inv i0) : zz25_F2 big o0 t7 (i0 : Int) = res := by
  have key : ∀ (m i : Nat), i ≤ cnt → cnt < m + i → Inv i → zz25_l2 big zz25_a2 m o0 t7 (i : Int) = res := by
    intro m
    induction m with
    | zero => intro i h1 h2 h3; exact absurd h2 (by omega)
    | succ m ih =>
      intro i h1 h2 h3
      rcases Nat.lt_or_ge i cnt with hlt | hge
      · exact hs _ i hlt h3 (fun h4 => ih (i + 1) (by omega) (by omega) h4)
      · obtain rfl : i = cnt := by omega
        exact he _ h3
  exact key big i0 hi (by have := big_ge; omega) h0
theorem zz25_h7 {rec : Y5 → Int → Int → Option (Bool × Unit)} {k : Option (Bool × Unit)} {o0 : Y5} {x3 : Int} {t7 : Int} {t8 : Int} {t20 : Int} (cnt : Nat) (Inv : Nat → Prop) {res : Option (Bool × Unit)} (hn : cnt ≤ 500000000000)
  (hs : ∀ (rc : Y5 → Int → Int → Int → Int → Int → Option (Bool × Unit)) (i : Nat), i < cnt → Inv i → (Inv (i + 1) → rc o0 x3 t7 t8 t20 ((i + 1 : Nat) : Int) = res) → zz25_b7 (zz25_F12 big rc (zz25_a7 rec)) (zz25_a7 rec) o0 x3 t7 t8 t20 (i : Int) = res)
  (he : ∀ (rc : Y5 → Int → Int → Int → Int → Int → Option (Bool × Unit)), Inv cnt → zz25_b7 (zz25_F12 big rc (zz25_a7 rec)) (zz25_a7 rec) o0 x3 t7 t8 t20 (cnt : Int) = res)
  (i0 : Nat) (hi : i0 ≤ cnt) (h0 : Inv i0) : zz25_F7 big rec k o0 x3 t7 t8 t20 (i0 : Int) = res := by
  have key : ∀ (m i : Nat), i ≤ cnt → cnt < m + i → Inv i → zz25_l7 big (zz25_a7 rec) m o0 x3 t7 t8 t20 (i : Int) = res := by
    intro m
    induction m with
    | zero => intro i h1 h2 h3; exact absurd h2 (by omega)
    | succ m ih =>
      intro i h1 h2 h3
      rcases Nat.lt_or_ge i cnt with hlt | hge
      · exact hs _ i hlt h3 (fun h4 => ih (i + 1) (by omega) (by omega) h4)
      · obtain rfl : i = cnt := by omega
        exact he _ h3
  exact key big i0 hi (by have := big_ge; omega) h0
theorem zz25_h12 {rec : Y5 → Int → Int → Int → Int → Int → Option (Bool × Unit)} {k : Y5 → Int → Int → Option (Bool × Unit)} {o0 : Y5} {x3 : Int} {y4 : Int} {t7 : Int} {t8 : Int} {t20 : Int} {t21 : Int} {t46 : Int} (cnt : Nat) (Inv : Nat → Prop) {res : Option (Bool × Unit)} (hn : cnt ≤ 500000000000)
  (hs : ∀ (rc : Y5 → Int → Int → Int → Int → Int → Int → Int → Int → Option (Bool × Unit)) (i : Nat), i < cnt → Inv i → (Inv (i + 1) → rc o0 x3 y4 t7 t8 t20 t21 t46 ((i + 1 : Nat) : Int) = res) → zz25_b12 rc (zz25_a12 rec) o0 x3 y4 t7 t8 t20 t21 t46 (i : Int) = res)
  (he : ∀ (rc : Y5 → Int → Int → Int → Int → Int → Int → Int → Int → Option (Bool × Unit)), Inv cnt → zz25_b12 rc (zz25_a12 rec) o0 x3 y4 t7 t8 t20 t21 t46 (cnt : Int) = res)
  (i0 : Nat) (hi : i0 ≤ cnt) (h0 : Inv i0) : zz25_F12 big rec k o0 x3 y4 t7 t8 t20 t21 t46 (i0 : Int) = res := by
  have key : ∀ (m i : Nat), i ≤ cnt → cnt < m + i → Inv i → zz25_l12 big (zz25_a12 rec) m o0 x3 y4 t7 t8 t20 t21 t46 (i : Int) = res := by
    intro m
    induction m with
    | zero => intro i h1 h2 h3; exact absurd h2 (by omega)
    | succ m ih =>
      intro i h1 h2 h3
      rcases Nat.lt_or_ge i cnt with hlt | hge
      · exact hs _ i hlt h3 (fun h4 => ih (i + 1) (by omega) (by omega) h4)
      · obtain rfl : i = cnt := by omega
        exact he _ h3
  exact key big i0 hi (by have := big_ge; omega) h0
theorem zz26_h6 {n4 : Int} {t18 : Y3} {t19 : Int} (cnt : Nat) (Inv : Nat → Y5 → Prop) {res : Option ((Y5 × (Bool × Unit)) × Unit)} (hn : cnt ≤ 500000000000)
  (hs : ∀ (rc : Int → Y5 → Y3 → Int → Int → Option ((Y5 × (Bool × Unit)) × Unit)) (i : Nat) (o5 : Y5), i < cnt → Inv i o5 → (∀ (o5' : Y5), Inv (i + 1) o5' → rc n4 o5' t18 t19 ((i + 1 : Nat) : Int) = res) → zz26_b6 (zz26_F11 big rc zz26_a6) zz26_a6 n4 o5 t18 t19 (i : Int) = res)
  (he : ∀ (rc : Int → Y5 → Y3 → Int → Int → Option ((Y5 × (Bool × Unit)) × Unit)) (o5 : Y5), Inv cnt o5 → zz26_b6 (zz26_F11 big rc zz26_a6) zz26_a6 n4 o5 t18 t19 (cnt : Int) = res)
  (i0 : Nat) (hi : i0 ≤ cnt) (o5 : Y5) (h0 : Inv i0 o5) : zz26_F6 big n4 o5 t18 t19 (i0 : Int) = res := by
  have key : ∀ (m i : Nat) (o5 : Y5), i ≤ cnt → cnt < m + i → Inv i o5 → zz26_l6 big zz26_a6 m n4 o5 t18 t19 (i : Int) = res := by
    intro m
    induction m with
    | zero => intro i o5 h1 h2 h3; exact absurd h2 (by omega)
    | succ m ih =>
      intro i o5 h1 h2 h3
      rcases Nat.lt_or_ge i cnt with hlt | hge
      · exact hs _ i o5 hlt h3 (fun o5' h4 => ih (i + 1) o5' (by omega) (by omega) h4)
      · obtain rfl : i = cnt := by omega
        exact he _ o5 h3
  exact key big i0 o5 hi (by have := big_ge; omega) h0
theorem zz26_h11 {rec : Int → Y5 → Y3 → Int → Int → Option ((Y5 × (Bool × Unit)) × Unit)} {k : Y5 → Option ((Y5 × (Bool × Unit)) × Unit)} {n4 : Int} {x6 : Int} {t18 : Y3} {t19 : Int} {t20 : Int} {t29 : Y4} {t30 : Int} {t31 : Bool} {t32 : Bool} {t34 : Y4} {t35 : Int} (cnt : Nat) (Inv : Nat → Y5 → Prop) {res : Option ((Y5 × (Bool × Unit)) × Unit)} (hn : cnt ≤ 500000000000)
  (hs : ∀ (rc : Int → Y5 → Int → Y3 → Int → Int → Y4 → Int → Bool → Bool → Y4 → Int → Int → Option ((Y5 × (Bool × Unit)) × Unit)) (i : Nat) (o5 : Y5), i < cnt → Inv i o5 → (∀ (o5' : Y5), Inv (i + 1) o5' → rc n4 o5' x6 t18 t19 t20 t29 t30 t31 t32 t34 t35 ((i + 1 : Nat) : Int) = res) → zz26_b11 rc (zz26_a11 rec) n4 o5 x6 t18 t19 t20 t29 t30 t31 t32 t34 t35 (i : Int) = res)
  (he : ∀ (rc : Int → Y5 → Int → Y3 → Int → Int → Y4 → Int → Bool → Bool → Y4 → Int → Int → Option ((Y5 × (Bool × Unit)) × Unit)) (o5 : Y5), Inv cnt o5 → zz26_b11 rc (zz26_a11 rec) n4 o5 x6 t18 t19 t20 t29 t30 t31 t32 t34 t35 (cnt : Int) = res)
  (i0 : Nat) (hi : i0 ≤ cnt) (o5 : Y5) (h0 : Inv i0 o5) : zz26_F11 big rec k n4 o5 x6 t18 t19 t20 t29 t30 t31 t32 t34 t35 (i0 : Int) = res := by
  have key : ∀ (m i : Nat) (o5 : Y5), i ≤ cnt → cnt < m + i → Inv i o5 → zz26_l11 big (zz26_a11 rec) m n4 o5 x6 t18 t19 t20 t29 t30 t31 t32 t34 t35 (i : Int) = res := by
    intro m
    induction m with
    | zero => intro i o5 h1 h2 h3; exact absurd h2 (by omega)
    | succ m ih =>
      intro i o5 h1 h2 h3
      rcases Nat.lt_or_ge i cnt with hlt | hge
      · exact hs _ i o5 hlt h3 (fun o5' h4 => ih (i + 1) o5' (by omega) (by omega) h4)
      · obtain rfl : i = cnt := by omega
        exact he _ o5 h3
  exact key big i0 o5 hi (by have := big_ge; omega) h0
theorem zz27_h2 {o0 : Y5} {list1 : Y4} {t10 : Y4} {t11 : Int} (cnt : Nat) (Inv : Nat → Prop) {res : Option (Int × Unit)} (hn : cnt ≤ 500000000000)
  (hs : ∀ (rc : Y5 → Y4 → Y4 → Int → Int → Option (Int × Unit)) (i : Nat), i < cnt → Inv i → (Inv (i + 1) → rc o0 list1 t10 t11 ((i + 1 : Nat) : Int) = res) → zz27_b2 (zz27_F6 big rc zz27_a2) zz27_a2 o0 list1 t10 t11 (i : Int) = res)
  (he : ∀ (rc : Y5 → Y4 → Y4 → Int → Int → Option (Int × Unit)), Inv cnt → zz27_b2 (zz27_F6 big rc zz27_a2) zz27_a2 o0 list1 t10 t11 (cnt : Int) = res)
  (i0 : Nat) (hi : i0 ≤ cnt) (h0 : Inv i0) : zz27_F2 big o0 list1 t10 t11 (i0 : Int) = res := by
  have key : ∀ (m i : Nat), i ≤ cnt → cnt < m + i → Inv i → zz27_l2 big zz27_a2 m o0 list1 t10 t11 (i : Int) = res := by
    intro m
    induction m with
    | zero => intro i h1 h2 h3; exact absurd h2 (by omega)
    | succ m ih =>
      intro i h1 h2 h3
      rcases Nat.lt_or_ge i cnt with hlt | hge
      · exact hs _ i hlt h3 (fun h4 => ih (i + 1) (by omega) (by omega) h4)
      · obtain rfl : i = cnt := by omega
        exact he _ h3
  exact key big i0 hi (by have := big_ge; omega) h0
theorem zz27_h6 {rec : Y5 → Y4 → Y4 → Int → Int → Option (Int × Unit)} {k : Option (Int × Unit)} {o0 : Y5} {list1 : Y4} {x6 : Int} {t10 : Y4} {t11 : Int} {t12 : Int} {t16 : Y4} {t17 : Int} (cnt : Nat) (Inv : Nat → Bool → Prop) {res : Option (Int × Unit)} (hn : cnt ≤ 500000000000)
  (hs : ∀ (rc : Y5 → Y4 → Int → Bool → Y4 → Int → Int → Y4 → Int → Int → Option (Int × Unit)) (i : Nat) (top7 : Bool), i < cnt → Inv i top7 → (∀ (top7' : Bool), Inv (i + 1) top7' → rc o0 list1 x6 top7' t10 t11 t12 t16 t17 ((i + 1 : Nat) : Int) = res) → zz27_b6 rc (zz27_a6 rec) o0 list1 x6 top7 t10 t11 t12 t16 t17 (i : Int) = res)
  (he : ∀ (rc : Y5 → Y4 → Int → Bool → Y4 → Int → Int → Y4 → Int → Int → Option (Int × Unit)) (top7 : Bool), Inv cnt top7 → zz27_b6 rc (zz27_a6 rec) o0 list1 x6 top7 t10 t11 t12 t16 t17 (cnt : Int) = res)
  (i0 : Nat) (hi : i0 ≤ cnt) (top7 : Bool) (h0 : Inv i0 top7) : zz27_F6 big rec k o0 list1 x6 top7 t10 t11 t12 t16 t17 (i0 : Int) = res := by
  have key : ∀ (m i : Nat) (top7 : Bool), i ≤ cnt → cnt < m + i → Inv i top7 → zz27_l6 big (zz27_a6 rec) m o0 list1 x6 top7 t10 t11 t12 t16 t17 (i : Int) = res := by
    intro m
    induction m with
    | zero => intro i top7 h1 h2 h3; exact absurd h2 (by omega)
    | succ m ih =>
      intro i top7 h1 h2 h3
      rcases Nat.lt_or_ge i cnt with hlt | hge
      · exact hs _ i top7 hlt h3 (fun top7' h4 => ih (i + 1) top7' (by omega) (by omega) h4)
      · obtain rfl : i = cnt := by omega
        exact he _ top7 h3
  exact key big i0 top7 hi (by have := big_ge; omega) h0
theorem zz29_h3 {so1 : (Y5 × (Int × (Int × Unit)))} {t9 : Int} (cnt : Nat) (Inv : Nat → Y4 → Prop) {res : Option (Y4 × Unit)} (hn : cnt ≤ 500000000000)
  (hs : ∀ (rc : (Y5 × (Int × (Int × Unit))) → Y4 → Int → Int → Option (Y4 × Unit)) (i : Nat) (list5 : Y4), i < cnt → Inv i list5 → (∀ (list5' : Y4), Inv (i + 1) list5' → rc so1 list5' t9 ((i + 1 : Nat) : Int) = res) → zz29_b3 rc zz29_a3 so1 list5 t9 (i : Int) = res)
  (he : ∀ (rc : (Y5 × (Int × (Int × Unit))) → Y4 → Int → Int → Option (Y4 × Unit)) (list5 : Y4), Inv cnt list5 → zz29_b3 rc zz29_a3 so1 list5 t9 (cnt : Int) = res)
  (i0 : Nat) (hi : i0 ≤ cnt) (list5 : Y4) (h0 : Inv i0 list5) : zz29_F3 big so1 list5 t9 (i0 : Int) = res := by
  have key : ∀ (m i : Nat) (list5 : Y4), i ≤ cnt → cnt < m + i → Inv i list5 → zz29_l3 big zz29_a3 m so1 list5 t9 (i : Int) = res := by
    intro m
    induction m with
    | zero => intro i list5 h1 h2 h3; exact absurd h2 (by omega)
    | succ m ih =>
      intro i list5 h1 h2 h3
      rcases Nat.lt_or_ge i cnt with hlt | hge
      · exact hs _ i list5 hlt h3 (fun list5' h4 => ih (i + 1) list5' (by omega) (by omega) h4)
      · obtain rfl : i = cnt := by omega
        exact he _ list5 h3
  exact key big i0 list5 hi (by have := big_ge; omega) h0
theorem zz30_h3 {o1 : Y5} {t11 : Int} (cnt : Nat) (Inv : Nat → Y3 → Prop) {res : Option ((Y3 × (Bool × Unit)) × Unit)} (hn : cnt ≤ 500000000000)
  (hs : ∀ (rc : Y5 → Y3 → Int → Int → Option ((Y3 × (Bool × Unit)) × Unit)) (i : Nat) (table4 : Y3), i < cnt → Inv i table4 → (∀ (table4' : Y3), Inv (i + 1) table4' → rc o1 table4' t11 ((i + 1 : Nat) : Int) = res) → zz30_b3 (zz30_F7 big rc zz30_a3) zz30_a3 o1 table4 t11 (i : Int) = res)
  (he : ∀ (rc : Y5 → Y3 → Int → Int → Option ((Y3 × (Bool × Unit)) × Unit)) (table4 : Y3), Inv cnt table4 → zz30_b3 (zz30_F7 big rc zz30_a3) zz30_a3 o1 table4 t11 (cnt : Int) = res)
  (i0 : Nat) (hi : i0 ≤ cnt) (table4 : Y3) (h0 : Inv i0 table4) : zz30_F3 big o1 table4 t11 (i0 : Int) = res := by
  have key : ∀ (m i : Nat) (table4 : Y3), i ≤ cnt → cnt < m + i → Inv i table4 → zz30_l3 big zz30_a3 m o1 table4 t11 (i : Int) = res := by
    intro m
    induction m with
    | zero => intro i table4 h1 h2 h3; exact absurd h2 (by omega)
    | succ m ih =>
      intro i table4 h1 h2 h3
      rcases Nat.lt_or_ge i cnt with hlt | hge
      · exact hs _ i table4 hlt h3 (fun table4' h4 => ih (i + 1) table4' (by omega) (by omega) h4)
      · obtain rfl : i = cnt := by omega
        exact he _ table4 h3
  exact key big i0 table4 hi (by have := big_ge; omega) h0
theorem zz30_h7 {rec : Y5 → Y3 → Int → Int → Option ((Y3 × (Bool × Unit)) × Unit)} {k : Y3 → Option ((Y3 × (Bool × Unit)) × Unit)} {o1 : Y5} {table4 : Y3} {x5 : Int} {t11 : Int} {t12 : Int} {t17 : Int} (cnt : Nat) (Inv : Nat → Y4 → Prop) {res : Option ((Y3 × (Bool × Unit)) × Unit)} (hn : cnt ≤ 500000000000)
  (hs : ∀ (rc : Y5 → Y3 → Int → Y4 → Int → Int → Int → Int → Option ((Y3 × (Bool × Unit)) × Unit)) (i : Nat) (row6 : Y4), i < cnt → Inv i row6 → (∀ (row6' : Y4), Inv (i + 1) row6' → rc o1 table4 x5 row6' t11 t12 t17 ((i + 1 : Nat) : Int) = res) → zz30_b7 rc (zz30_a7 rec) o1 table4 x5 row6 t11 t12 t17 (i : Int) = res)
  (he : ∀ (rc : Y5 → Y3 → Int → Y4 → Int → Int → Int → Int → Option ((Y3 × (Bool × Unit)) × Unit)) (row6 : Y4), Inv cnt row6 → zz30_b7 rc (zz30_a7 rec) o1 table4 x5 row6 t11 t12 t17 (cnt : Int) = res)
  (i0 : Nat) (hi : i0 ≤ cnt) (row6 : Y4) (h0 : Inv i0 row6) : zz30_F7 big rec k o1 table4 x5 row6 t11 t12 t17 (i0 : Int) = res := by
  have key : ∀ (m i : Nat) (row6 : Y4), i ≤ cnt → cnt < m + i → Inv i row6 → zz30_l7 big (zz30_a7 rec) m o1 table4 x5 row6 t11 t12 t17 (i : Int) = res := by
    intro m
    induction m with
    | zero => intro i row6 h1 h2 h3; exact absurd h2 (by omega)
    | succ m ih =>
      intro i row6 h1 h2 h3
      rcases Nat.lt_or_ge i cnt with hlt | hge
      · exact hs _ i row6 hlt h3 (fun row6' h4 => ih (i + 1) row6' (by omega) (by omega) h4)
      · obtain rfl : i = cnt := by omega
        exact he _ row6 h3
  exact key big i0 row6 hi (by have := big_ge; omega) h0
theorem zz31_h3 {o0 : Y5} {t10 : Int} (cnt : Nat) (Inv : Nat → Y5 → Prop) {res : Option (Y5 × Unit)} (hn : cnt ≤ 500000000000)
  (hs : ∀ (rc : Y5 → Y5 → Int → Int → Option (Y5 × Unit)) (i : Nat) (d3 : Y5), i < cnt → Inv i d3 → (∀ (d3' : Y5), Inv (i + 1) d3' → rc o0 d3' t10 ((i + 1 : Nat) : Int) = res) → zz31_b3 (zz31_F6 big rc zz31_a3) zz31_a3 o0 d3 t10 (i : Int) = res)
  (he : ∀ (rc : Y5 → Y5 → Int → Int → Option (Y5 × Unit)) (d3 : Y5), Inv cnt d3 → zz31_b3 (zz31_F6 big rc zz31_a3) zz31_a3 o0 d3 t10 (cnt : Int) = res)
  (i0 : Nat) (hi : i0 ≤ cnt) (d3 : Y5) (h0 : Inv i0 d3) : zz31_F3 big o0 d3 t10 (i0 : Int) = res := by
  have key : ∀ (m i : Nat) (d3 : Y5), i ≤ cnt → cnt < m + i → Inv i d3 → zz31_l3 big zz31_a3 m o0 d3 t10 (i : Int) = res := by
    intro m
    induction m with
    | zero => intro i d3 h1 h2 h3; exact absurd h2 (by omega)
    | succ m ih =>
      intro i d3 h1 h2 h3
      rcases Nat.lt_or_ge i cnt with hlt | hge
      · exact hs _ i d3 hlt h3 (fun d3' h4 => ih (i + 1) d3' (by omega) (by omega) h4)
      · obtain rfl : i = cnt := by omega
        exact he _ d3 h3
  exact key big i0 d3 hi (by have := big_ge; omega) h0
theorem zz31_h6 {rec : Y5 → Y5 → Int → Int → Option (Y5 × Unit)} {k : Y5 → Option (Y5 × Unit)} {o0 : Y5} {x4 : Int} {t10 : Int} {t11 : Int} {t15 : Int} (cnt : Nat) (Inv : Nat → Y5 → Prop) {res : Option (Y5 × Unit)} (hn : cnt ≤ 500000000000)
  (hs : ∀ (rc : Y5 → Y5 → Int → Int → Int → Int → Int → Option (Y5 × Unit)) (i : Nat) (d3 : Y5), i < cnt → Inv i d3 → (∀ (d3' : Y5), Inv (i + 1) d3' → rc o0 d3' x4 t10 t11 t15 ((i + 1 : Nat) : Int) = res) → zz31_b6 rc (zz31_a6 rec) o0 d3 x4 t10 t11 t15 (i : Int) = res)
  (he : ∀ (rc : Y5 → Y5 → Int → Int → Int → Int → Int → Option (Y5 × Unit)) (d3 : Y5), Inv cnt d3 → zz31_b6 rc (zz31_a6 rec) o0 d3 x4 t10 t11 t15 (cnt : Int) = res)
  (i0 : Nat) (hi : i0 ≤ cnt) (d3 : Y5) (h0 : Inv i0 d3) : zz31_F6 big rec k o0 d3 x4 t10 t11 t15 (i0 : Int) = res := by
  have key : ∀ (m i : Nat) (d3 : Y5), i ≤ cnt → cnt < m + i → Inv i d3 → zz31_l6 big (zz31_a6 rec) m o0 d3 x4 t10 t11 t15 (i : Int) = res := by
    intro m
    induction m with
    | zero => intro i d3 h1 h2 h3; exact absurd h2 (by omega)
    | succ m ih =>
      intro i d3 h1 h2 h3
      rcases Nat.lt_or_ge i cnt with hlt | hge
      · exact hs _ i d3 hlt h3 (fun d3' h4 => ih (i + 1) d3' (by omega) (by omega) h4)
      · obtain rfl : i = cnt := by omega
        exact he _ d3 h3
  exact key big i0 d3 hi (by have := big_ge; omega) h0
theorem zz33_h3 {l0 : Y1} {t9 : Int} (cnt : Nat) (Inv : Nat → Int → Prop) {res : Option (Int × Unit)} (hn : cnt ≤ 500000000000)
  (hs : ∀ (rc : Y1 → Int → Int → Int → Option (Int × Unit)) (i : Nat) (b3 : Int), i < cnt → Inv i b3 → (∀ (b3' : Int), Inv (i + 1) b3' → rc l0 b3' t9 ((i + 1 : Nat) : Int) = res) → zz33_b3 rc zz33_a3 l0 b3 t9 (i : Int) = res)
  (he : ∀ (rc : Y1 → Int → Int → Int → Option (Int × Unit)) (b3 : Int), Inv cnt b3 → zz33_b3 rc zz33_a3 l0 b3 t9 (cnt : Int) = res)
  (i0 : Nat) (hi : i0 ≤ cnt) (b3 : Int) (h0 : Inv i0 b3) : zz33_F3 big l0 b3 t9 (i0 : Int) = res := by
  have key : ∀ (m i : Nat) (b3 : Int), i ≤ cnt → cnt < m + i → Inv i b3 → zz33_l3 big zz33_a3 m l0 b3 t9 (i : Int) = res := by
    intro m
    induction m with
    | zero => intro i b3 h1 h2 h3; exact absurd h2 (by omega)
    | succ m ih =>
      intro i b3 h1 h2 h3
      rcases Nat.lt_or_ge i cnt with hlt | hge
      · exact hs _ i b3 hlt h3 (fun b3' h4 => ih (i + 1) b3' (by omega) (by omega) h4)
      · obtain rfl : i = cnt := by omega
        exact he _ b3 h3
  exact key big i0 b3 hi (by have := big_ge; omega) h0
theorem zz34_h3 {l0 : Y1} {t9 : Int} (cnt : Nat) (Inv : Nat → Int → Prop) {res : Option (Int × Unit)} (hn : cnt ≤ 500000000000)
  (hs : ∀ (rc : Y1 → Int → Int → Int → Option (Int × Unit)) (i : Nat) (t3 : Int), i < cnt → Inv i t3 → (∀ (t3' : Int), Inv (i + 1) t3' → rc l0 t3' t9 ((i + 1 : Nat) : Int) = res) → zz34_b3 rc zz34_a3 l0 t3 t9 (i : Int) = res)
  (he : ∀ (rc : Y1 → Int → Int → Int → Option (Int × Unit)) (t3 : Int), Inv cnt t3 → zz34_b3 rc zz34_a3 l0 t3 t9 (cnt : Int) = res)
  (i0 : Nat) (hi : i0 ≤ cnt) (t3 : Int) (h0 : Inv i0 t3) : zz34_F3 big l0 t3 t9 (i0 : Int) = res := by
  have key : ∀ (m i : Nat) (t3 : Int), i ≤ cnt → cnt < m + i → Inv i t3 → zz34_l3 big zz34_a3 m l0 t3 t9 (i : Int) = res := by
    intro m
    induction m with
    | zero => intro i t3 h1 h2 h3; exact absurd h2 (by omega)
    | succ m ih =>
      intro i t3 h1 h2 h3
      rcases Nat.lt_or_ge i cnt with hlt | hge
      · exact hs _ i t3 hlt h3 (fun t3' h4 => ih (i + 1) t3' (by omega) (by omega) h4)
      · obtain rfl : i = cnt := by omega
        exact he _ t3 h3
  exact key big i0 t3 hi (by have := big_ge; omega) h0
theorem zz36_h3 {so1 : (Y1 × (Int × (Int × (Int × Unit))))} {t9 : Int} (cnt : Nat) (Inv : Nat → Y4 → Prop) {res : Option (Y4 × Unit)} (hn : cnt ≤ 500000000000)
  (hs : ∀ (rc : (Y1 × (Int × (Int × (Int × Unit)))) → Y4 → Int → Int → Option (Y4 × Unit)) (i : Nat) (list5 : Y4), i < cnt → Inv i list5 → (∀ (list5' : Y4), Inv (i + 1) list5' → rc so1 list5' t9 ((i + 1 : Nat) : Int) = res) → zz36_b3 rc zz36_a3 so1 list5 t9 (i : Int) = res)
  (he : ∀ (rc : (Y1 × (Int × (Int × (Int × Unit)))) → Y4 → Int → Int → Option (Y4 × Unit)) (list5 : Y4), Inv cnt list5 → zz36_b3 rc zz36_a3 so1 list5 t9 (cnt : Int) = res)
  (i0 : Nat) (hi : i0 ≤ cnt) (list5 : Y4) (h0 : Inv i0 list5) : zz36_F3 big so1 list5 t9 (i0 : Int) = res := by
  have key : ∀ (m i : Nat) (list5 : Y4), i ≤ cnt → cnt < m + i → Inv i list5 → zz36_l3 big zz36_a3 m so1 list5 t9 (i : Int) = res := by
    intro m
    induction m with
    | zero => intro i list5 h1 h2 h3; exact absurd h2 (by omega)
    | succ m ih =>
      intro i list5 h1 h2 h3
      rcases Nat.lt_or_ge i cnt with hlt | hge
      · exact hs _ i list5 hlt h3 (fun list5' h4 => ih (i + 1) list5' (by omega) (by omega) h4)
      · obtain rfl : i = cnt := by omega
        exact he _ list5 h3
  exact key big i0 list5 hi (by have := big_ge; omega) h0
theorem zz40_h3 {so1 : (Y1 × (Int × (Int × Unit)))} {t9 : Int} (cnt : Nat) (Inv : Nat → Y4 → Prop) {res : Option (Y4 × Unit)} (hn : cnt ≤ 500000000000)
  (hs : ∀ (rc : (Y1 × (Int × (Int × Unit))) → Y4 → Int → Int → Option (Y4 × Unit)) (i : Nat) (list5 : Y4), i < cnt → Inv i list5 → (∀ (list5' : Y4), Inv (i + 1) list5' → rc so1 list5' t9 ((i + 1 : Nat) : Int) = res) → zz40_b3 rc zz40_a3 so1 list5 t9 (i : Int) = res)
  (he : ∀ (rc : (Y1 × (Int × (Int × Unit))) → Y4 → Int → Int → Option (Y4 × Unit)) (list5 : Y4), Inv cnt list5 → zz40_b3 rc zz40_a3 so1 list5 t9 (cnt : Int) = res)
  (i0 : Nat) (hi : i0 ≤ cnt) (list5 : Y4) (h0 : Inv i0 list5) : zz40_F3 big so1 list5 t9 (i0 : Int) = res := by
  have key : ∀ (m i : Nat) (list5 : Y4), i ≤ cnt → cnt < m + i → Inv i list5 → zz40_l3 big zz40_a3 m so1 list5 t9 (i : Int) = res := by
    intro m
    induction m with
    | zero => intro i list5 h1 h2 h3; exact absurd h2 (by omega)
    | succ m ih =>
      intro i list5 h1 h2 h3
      rcases Nat.lt_or_ge i cnt with hlt | hge
      · exact hs _ i list5 hlt h3 (fun list5' h4 => ih (i + 1) list5' (by omega) (by omega) h4)
      · obtain rfl : i = cnt := by omega
        exact he _ list5 h3
  exact key big i0 list5 hi (by have := big_ge; omega) h0
theorem zz42_h2 {l2 : Y1} {x3 : Int} {t9 : Y4} {t10 : Int} (cnt : Nat) (Inv : Nat → Prop) {res : Option (Bool × Unit)} (hn : cnt ≤ 500000000000)
  (hs : ∀ (rc : Y1 → Int → Y4 → Int → Int → Option (Bool × Unit)) (i : Nat), i < cnt → Inv i → (Inv (i + 1) → rc l2 x3 t9 t10 ((i + 1 : Nat) : Int) = res) → zz42_b2 rc zz42_a2 l2 x3 t9 t10 (i : Int) = res)
  (he : ∀ (rc : Y1 → Int → Y4 → Int → Int → Option (Bool × Unit)), Inv cnt → zz42_b2 rc zz42_a2 l2 x3 t9 t10 (cnt : Int) = res)
  (i0 : Nat) (hi : i0 ≤ cnt) (h0 : Inv i0) : zz42_F2 big l2 x3 t9 t10 (i0 : Int) = res := by
  have key : ∀ (m i : Nat), i ≤ cnt → cnt < m + i → Inv i → zz42_l2 big zz42_a2 m l2 x3 t9 t10 (i : Int) = res := by
    intro m
    induction m with
    | zero => intro i h1 h2 h3; exact absurd h2 (by omega)
    | succ m ih =>
      intro i h1 h2 h3
      rcases Nat.lt_or_ge i cnt with hlt | hge
      · exact hs _ i hlt h3 (fun h4 => ih (i + 1) (by omega) (by omega) h4)
      · obtain rfl : i = cnt := by omega
        exact he _ h3
  exact key big i0 hi (by have := big_ge; omega) h0
theorem zz43_h3 {so1 : (Y1 × Unit)} {t9 : Int} (cnt : Nat) (Inv : Nat → Y4 → Prop) {res : Option (Y4 × Unit)} (hn : cnt ≤ 500000000000)
  (hs : ∀ (rc : (Y1 × Unit) → Y4 → Int → Int → Option (Y4 × Unit)) (i : Nat) (list5 : Y4), i < cnt → Inv i list5 → (∀ (list5' : Y4), Inv (i + 1) list5' → rc so1 list5' t9 ((i + 1 : Nat) : Int) = res) → zz43_b3 rc zz43_a3 so1 list5 t9 (i : Int) = res)
  (he : ∀ (rc : (Y1 × Unit) → Y4 → Int → Int → Option (Y4 × Unit)) (list5 : Y4), Inv cnt list5 → zz43_b3 rc zz43_a3 so1 list5 t9 (cnt : Int) = res)
  (i0 : Nat) (hi : i0 ≤ cnt) (list5 : Y4) (h0 : Inv i0 list5) : zz43_F3 big so1 list5 t9 (i0 : Int) = res := by
  have key : ∀ (m i : Nat) (list5 : Y4), i ≤ cnt → cnt < m + i → Inv i list5 → zz43_l3 big zz43_a3 m so1 list5 t9 (i : Int) = res := by
    intro m
    induction m with
    | zero => intro i list5 h1 h2 h3; exact absurd h2 (by omega)
    | succ m ih =>
      intro i list5 h1 h2 h3
      rcases Nat.lt_or_ge i cnt with hlt | hge
      · exact hs _ i list5 hlt h3 (fun list5' h4 => ih (i + 1) list5' (by omega) (by omega) h4)
      · obtain rfl : i = cnt := by omega
        exact he _ list5 h3
  exact key big i0 list5 hi (by have := big_ge; omega) h0
theorem zz47_h4 {a0 : Y4} {b1 : Y4} (cnt : Nat) (Inv : Nat → Prop) {res : Option (Bool × Unit)} (hn : cnt ≤ 500000000000)
  (hs : ∀ (rc : Y4 → Y4 → Int → Option (Bool × Unit)) (i : Nat), i < cnt → Inv i → (Inv (i + 1) → rc a0 b1 ((i + 1 : Nat) : Int) = res) → zz47_b4 rc zz47_a4 a0 b1 (i : Int) = res)
  (he : ∀ (rc : Y4 → Y4 → Int → Option (Bool × Unit)), Inv cnt → zz47_b4 rc zz47_a4 a0 b1 (cnt : Int) = res)
  (i0 : Nat) (hi : i0 ≤ cnt) (h0 : Inv i0) : zz47_F4 big a0 b1 (i0 : Int) = res := by
  have key : ∀ (m i : Nat), i ≤ cnt → cnt < m + i → Inv i → zz47_l4 big zz47_a4 m a0 b1 (i : Int) = res := by
    intro m
    induction m with
    | zero => intro i h1 h2 h3; exact absurd h2 (by omega)
    | succ m ih =>
      intro i h1 h2 h3
      rcases Nat.lt_or_ge i cnt with hlt | hge
      · exact hs _ i hlt h3 (fun h4 => ih (i + 1) (by omega) (by omega) h4)
      · obtain rfl : i = cnt := by omega
        exact he _ h3
  exact key big i0 hi (by have := big_ge; omega) h0
theorem zz48_h4 {a0 : Y3} {b1 : Y3} (cnt : Nat) (Inv : Nat → Prop) {res : Option (Bool × Unit)} (hn : cnt ≤ 500000000000)
  (hs : ∀ (rc : Y3 → Y3 → Int → Option (Bool × Unit)) (i : Nat), i < cnt → Inv i → (Inv (i + 1) → rc a0 b1 ((i + 1 : Nat) : Int) = res) → zz48_b4 rc zz48_a4 a0 b1 (i : Int) = res)
  (he : ∀ (rc : Y3 → Y3 → Int → Option (Bool × Unit)), Inv cnt → zz48_b4 rc zz48_a4 a0 b1 (cnt : Int) = res)
  (i0 : Nat) (hi : i0 ≤ cnt) (h0 : Inv i0) : zz48_F4 big a0 b1 (i0 : Int) = res := by
  have key : ∀ (m i : Nat), i ≤ cnt → cnt < m + i → Inv i → zz48_l4 big zz48_a4 m a0 b1 (i : Int) = res := by
    intro m
    induction m with
    | zero => intro i h1 h2 h3; exact absurd h2 (by omega)
    | succ m ih =>
      intro i h1 h2 h3
      rcases Nat.lt_or_ge i cnt with hlt | hge
      · exact hs _ i hlt h3 (fun h4 => ih (i + 1) (by omega) (by omega) h4)
      · obtain rfl : i = cnt := by omega
        exact he _ h3
  exact key big i0 hi (by have := big_ge; omega) h0
theorem zz50_h2 (cnt : Nat) (Inv : Nat → Y4 → Int → Prop) {res : Option Y6} (hn : cnt ≤ 500000000000)
  (hs : ∀ (rc : Y4 → Int → Int → Option Y6) (i : Nat) (a0 : Y4) (k1 : Int), i < cnt → Inv i a0 k1 → (∀ (a0' : Y4) (k1' : Int), Inv (i + 1) a0' k1' → rc a0' k1' ((i + 1 : Nat) : Int) = res) → zz50_b2 rc zz50_a2 a0 k1 (i : Int) = res)
  (he : ∀ (rc : Y4 → Int → Int → Option Y6) (a0 : Y4) (k1 : Int), Inv cnt a0 k1 → zz50_b2 rc zz50_a2 a0 k1 (cnt : Int) = res)
  (i0 : Nat) (hi : i0 ≤ cnt) (a0 : Y4) (k1 : Int) (h0 : Inv i0 a0 k1) : zz50_F2 big a0 k1 (i0 : Int) = res := by
  have key : ∀ (m i : Nat) (a0 : Y4) (k1 : Int), i ≤ cnt → cnt < m + i → Inv i a0 k1 → zz50_l2 big zz50_a2 m a0 k1 (i : Int) = res := by
    intro m
    induction m with
    | zero => intro i a0 k1 h1 h2 h3; exact absurd h2 (by omega)
    | succ m ih =>
      intro i a0 k1 h1 h2 h3
      rcases Nat.lt_or_ge i cnt with hlt | hge
      · exact hs _ i a0 k1 hlt h3 (fun a0' k1' h4 => ih (i + 1) a0' k1' (by omega) (by omega) h4)
      · obtain rfl : i = cnt := by omega
        exact he _ a0 k1 h3
  exact key big i0 a0 k1 hi (by have := big_ge; omega) h0
theorem zz51_h2 (cnt : Nat) (Inv : Nat → Y3 → Int → Prop) {res : Option (Int × Y2)} (hn : cnt ≤ 500000000000)
  (hs : ∀ (rc : Y3 → Int → Int → Option (Int × Y2)) (i : Nat) (a0 : Y3) (k1 : Int), i < cnt → Inv i a0 k1 → (∀ (a0' : Y3) (k1' : Int), Inv (i + 1) a0' k1' → rc a0' k1' ((i + 1 : Nat) : Int) = res) → zz51_b2 rc zz51_a2 a0 k1 (i : Int) = res)
  (he : ∀ (rc : Y3 → Int → Int → Option (Int × Y2)) (a0 : Y3) (k1 : Int), Inv cnt a0 k1 → zz51_b2 rc zz51_a2 a0 k1 (cnt : Int) = res)
  (i0 : Nat) (hi : i0 ≤ cnt) (a0 : Y3) (k1 : Int) (h0 : Inv i0 a0 k1) : zz51_F2 big a0 k1 (i0 : Int) = res := by
  have key : ∀ (m i : Nat) (a0 : Y3) (k1 : Int), i ≤ cnt → cnt < m + i → Inv i a0 k1 → zz51_l2 big zz51_a2 m a0 k1 (i : Int) = res := by
    intro m
    induction m with
    | zero => intro i a0 k1 h1 h2 h3; exact absurd h2 (by omega)
    | succ m ih =>
      intro i a0 k1 h1 h2 h3
      rcases Nat.lt_or_ge i cnt with hlt | hge
      · exact hs _ i a0 k1 hlt h3 (fun a0' k1' h4 => ih (i + 1) a0' k1' (by omega) (by omega) h4)
      · obtain rfl : i = cnt := by omega
        exact he _ a0 k1 h3
  exact key big i0 a0 k1 hi (by have := big_ge; omega) h0
theorem zz53_h2 {a0 : Y4} (cnt : Nat) (Inv : Nat → Int → Prop) {res : Option (Int × Unit)} (hn : cnt ≤ 500000000000)
  (hs : ∀ (rc : Y4 → Int → Int → Option (Int × Unit)) (i : Nat) (k1 : Int), i < cnt → Inv i k1 → (∀ (k1' : Int), Inv (i + 1) k1' → rc a0 k1' ((i + 1 : Nat) : Int) = res) → zz53_b2 rc zz53_a2 a0 k1 (i : Int) = res)
  (he : ∀ (rc : Y4 → Int → Int → Option (Int × Unit)) (k1 : Int), Inv cnt k1 → zz53_b2 rc zz53_a2 a0 k1 (cnt : Int) = res)
  (i0 : Nat) (hi : i0 ≤ cnt) (k1 : Int) (h0 : Inv i0 k1) : zz53_F2 big a0 k1 (i0 : Int) = res := by
  have key : ∀ (m i : Nat) (k1 : Int), i ≤ cnt → cnt < m + i → Inv i k1 → zz53_l2 big zz53_a2 m a0 k1 (i : Int) = res := by
    intro m
    induction m with
    | zero => intro i k1 h1 h2 h3; exact absurd h2 (by omega)
    | succ m ih =>
      intro i k1 h1 h2 h3
      rcases Nat.lt_or_ge i cnt with hlt | hge
      · exact hs _ i k1 hlt h3 (fun k1' h4 => ih (i + 1) k1' (by omega) (by omega) h4)
      · obtain rfl : i = cnt := by omega
        exact he _ k1 h3
  exact key big i0 k1 hi (by have := big_ge; omega) h0
theorem zz56_h4 {x1 : Int} {y2 : Int} {p3 : Y2} (cnt : Nat) (Inv : Nat → Prop) {res : Option (Bool × Unit)} (hn : cnt ≤ 500000000000)
  (hs : ∀ (rc : Int → Int → Y2 → Int → Option (Bool × Unit)) (i : Nat), i < cnt → Inv i → (Inv (i + 1) → rc x1 y2 p3 ((i + 1 : Nat) : Int) = res) → zz56_b4 rc zz56_a4 x1 y2 p3 (i : Int) = res)
  (he : ∀ (rc : Int → Int → Y2 → Int → Option (Bool × Unit)), Inv cnt → zz56_b4 rc zz56_a4 x1 y2 p3 (cnt : Int) = res)
  (i0 : Nat) (hi : i0 ≤ cnt) (h0 : Inv i0) : zz56_F4 big x1 y2 p3 (i0 : Int) = res := by
  have key : ∀ (m i : Nat), i ≤ cnt → cnt < m + i → Inv i → zz56_l4 big zz56_a4 m x1 y2 p3 (i : Int) = res := by
    intro m
    induction m with
    | zero => intro i h1 h2 h3; exact absurd h2 (by omega)
    | succ m ih =>
      intro i h1 h2 h3
      rcases Nat.lt_or_ge i cnt with hlt | hge
      · exact hs _ i hlt h3 (fun h4 => ih (i + 1) (by omega) (by omega) h4)
      · obtain rfl : i = cnt := by omega
        exact he _ h3
  exact key big i0 hi (by have := big_ge; omega) h0
theorem zz57_h5 (self_zz57 : (Y2 × (Y4 × Unit)) → Option Y2) {begun1 : Y4} {p2 : Y2} {last5 : Int} (cnt : Nat) (Inv : Nat → Y3 → Prop) {res : Option Y2} (hn : cnt ≤ 500000000000)
  (hs : ∀ (rc : Y4 → Y2 → Int → Y3 → Int → Option Y2) (i : Nat) (out6 : Y3), i < cnt → Inv i out6 → (∀ (out6' : Y3), Inv (i + 1) out6' → rc begun1 p2 last5 out6' ((i + 1 : Nat) : Int) = res) → zz57_b5 self_zz57 rc (zz57_a5 self_zz57) begun1 p2 last5 out6 (i : Int) = res)
  (he : ∀ (rc : Y4 → Y2 → Int → Y3 → Int → Option Y2) (out6 : Y3), Inv cnt out6 → zz57_b5 self_zz57 rc (zz57_a5 self_zz57) begun1 p2 last5 out6 (cnt : Int) = res)
  (i0 : Nat) (hi : i0 ≤ cnt) (out6 : Y3) (h0 : Inv i0 out6) : zz57_F5 self_zz57 big begun1 p2 last5 out6 (i0 : Int) = res := by
  have key : ∀ (m i : Nat) (out6 : Y3), i ≤ cnt → cnt < m + i → Inv i out6 → zz57_l5 self_zz57 big (zz57_a5 self_zz57) m begun1 p2 last5 out6 (i : Int) = res := by
    intro m
    induction m with
    | zero => intro i out6 h1 h2 h3; exact absurd h2 (by omega)
    | succ m ih =>
      intro i out6 h1 h2 h3
      rcases Nat.lt_or_ge i cnt with hlt | hge
      · exact hs _ i out6 hlt h3 (fun out6' h4 => ih (i + 1) out6' (by omega) (by omega) h4)
      · obtain rfl : i = cnt := by omega
        exact he _ out6 h3
  exact key big i0 out6 hi (by have := big_ge; omega) h0
theorem zz61_h4 {o0 : Y5} {x1 : Int} {y2 : Int} {t14 : Int} (cnt : Nat) (Inv : Nat → Prop) {res : Option (Bool × Unit)} (hn : cnt ≤ 500000000000)
  (hs : ∀ (rc : Y5 → Int → Int → Int → Int → Option (Bool × Unit)) (i : Nat), i < cnt → Inv i → (Inv (i + 1) → rc o0 x1 y2 t14 ((i + 1 : Nat) : Int) = res) → zz61_b4 rc zz61_a4 o0 x1 y2 t14 (i : Int) = res)
  (he : ∀ (rc : Y5 → Int → Int → Int → Int → Option (Bool × Unit)), Inv cnt → zz61_b4 rc zz61_a4 o0 x1 y2 t14 (cnt : Int) = res)
  (i0 : Nat) (hi : i0 ≤ cnt) (h0 : Inv i0) : zz61_F4 big o0 x1 y2 t14 (i0 : Int) = res := by
  have key : ∀ (m i : Nat), i ≤ cnt → cnt < m + i → Inv i → zz61_l4 big zz61_a4 m o0 x1 y2 t14 (i : Int) = res := by
    intro m
    induction m with
    | zero => intro i h1 h2 h3; exact absurd h2 (by omega)
    | succ m ih =>
      intro i h1 h2 h3
      rcases Nat.lt_or_ge i cnt with hlt | hge
      · exact hs _ i hlt h3 (fun h4 => ih (i + 1) (by omega) (by omega) h4)
      · obtain rfl : i = cnt := by omega
        exact he _ h3
  exact key big i0 hi (by have := big_ge; omega) h0
theorem zz63_h3 {so1 : (Y5 × (Int × Unit))} {t9 : Int} (cnt : Nat) (Inv : Nat → Y4 → Prop) {res : Option (Y4 × Unit)} (hn : cnt ≤ 500000000000)
  (hs : ∀ (rc : (Y5 × (Int × Unit)) → Y4 → Int → Int → Option (Y4 × Unit)) (i : Nat) (list5 : Y4), i < cnt → Inv i list5 → (∀ (list5' : Y4), Inv (i + 1) list5' → rc so1 list5' t9 ((i + 1 : Nat) : Int) = res) → zz63_b3 rc zz63_a3 so1 list5 t9 (i : Int) = res)
  (he : ∀ (rc : (Y5 × (Int × Unit)) → Y4 → Int → Int → Option (Y4 × Unit)) (list5 : Y4), Inv cnt list5 → zz63_b3 rc zz63_a3 so1 list5 t9 (cnt : Int) = res)
  (i0 : Nat) (hi : i0 ≤ cnt) (list5 : Y4) (h0 : Inv i0 list5) : zz63_F3 big so1 list5 t9 (i0 : Int) = res := by
  have key : ∀ (m i : Nat) (list5 : Y4), i ≤ cnt → cnt < m + i → Inv i list5 → zz63_l3 big zz63_a3 m so1 list5 t9 (i : Int) = res := by
    intro m
    induction m with
    | zero => intro i list5 h1 h2 h3; exact absurd h2 (by omega)
    | succ m ih =>
      intro i list5 h1 h2 h3
      rcases Nat.lt_or_ge i cnt with hlt | hge
      · exact hs _ i list5 hlt h3 (fun list5' h4 => ih (i + 1) list5' (by omega) (by omega) h4)
      · obtain rfl : i = cnt := by omega
        exact he _ list5 h3
  exact key big i0 list5 hi (by have := big_ge; omega) h0
theorem zz65_h5 (self_zz65 : (Y1 × (Int × Unit)) → Option Y2) {l0 : Y1} {x1 : Int} {t23 : Y4} {t24 : Int} (cnt : Nat) (Inv : Nat → Y3 → Prop) {res : Option Y2} (hn : cnt ≤ 500000000000)
  (hs : ∀ (rc : Y1 → Int → Y3 → Y4 → Int → Int → Option Y2) (i : Nat) (list5 : Y3), i < cnt → Inv i list5 → (∀ (list5' : Y3), Inv (i + 1) list5' → rc l0 x1 list5' t23 t24 ((i + 1 : Nat) : Int) = res) → zz65_b5 self_zz65 (zz65_F8 self_zz65 big rc (zz65_a5 self_zz65)) (zz65_a5 self_zz65) l0 x1 list5 t23 t24 (i : Int) = res)
  (he : ∀ (rc : Y1 → Int → Y3 → Y4 → Int → Int → Option Y2) (list5 : Y3), Inv cnt list5 → zz65_b5 self_zz65 (zz65_F8 self_zz65 big rc (zz65_a5 self_zz65)) (zz65_a5 self_zz65) l0 x1 list5 t23 t24 (cnt : Int) = res)
  (i0 : Nat) (hi : i0 ≤ cnt) (list5 : Y3) (h0 : Inv i0 list5) : zz65_F5 self_zz65 big l0 x1 list5 t23 t24 (i0 : Int) = res := by
  have key : ∀ (m i : Nat) (list5 : Y3), i ≤ cnt → cnt < m + i → Inv i list5 → zz65_l5 self_zz65 big (zz65_a5 self_zz65) m l0 x1 list5 t23 t24 (i : Int) = res := by
    intro m
    induction m with
    | zero => intro i list5 h1 h2 h3; exact absurd h2 (by omega)
    | succ m ih =>
      intro i list5 h1 h2 h3
      rcases Nat.lt_or_ge i cnt with hlt | hge
      · exact hs _ i list5 hlt h3 (fun list5' h4 => ih (i + 1) list5' (by omega) (by omega) h4)
      · obtain rfl : i = cnt := by omega
        exact he _ list5 h3
  exact key big i0 list5 hi (by have := big_ge; omega) h0
theorem zz65_h8 (self_zz65 : (Y1 × (Int × Unit)) → Option Y2) {rec : Y1 → Int → Y3 → Y4 → Int → Int → Option Y2} {k : Y3 → Option Y2} {l0 : Y1} {x1 : Int} {t23 : Y4} {t24 : Int} {t25 : Int} {t31 : Y3} {t32 : Int} (cnt : Nat) (Inv : Nat → Y3 → Prop) {res : Option Y2} (hn : cnt ≤ 500000000000)
  (hs : ∀ (rc : Y1 → Int → Y3 → Y4 → Int → Int → Y3 → Int → Int → Option Y2) (i : Nat) (list5 : Y3), i < cnt → Inv i list5 → (∀ (list5' : Y3), Inv (i + 1) list5' → rc l0 x1 list5' t23 t24 t25 t31 t32 ((i + 1 : Nat) : Int) = res) → zz65_b8 self_zz65 rc (zz65_a8 self_zz65 rec) l0 x1 list5 t23 t24 t25 t31 t32 (i : Int) = res)
  (he : ∀ (rc : Y1 → Int → Y3 → Y4 → Int → Int → Y3 → Int → Int → Option Y2) (list5 : Y3), Inv cnt list5 → zz65_b8 self_zz65 rc (zz65_a8 self_zz65 rec) l0 x1 list5 t23 t24 t25 t31 t32 (cnt : Int) = res)
  (i0 : Nat) (hi : i0 ≤ cnt) (list5 : Y3) (h0 : Inv i0 list5) : zz65_F8 self_zz65 big rec k l0 x1 list5 t23 t24 t25 t31 t32 (i0 : Int) = res := by
  have key : ∀ (m i : Nat) (list5 : Y3), i ≤ cnt → cnt < m + i → Inv i list5 → zz65_l8 self_zz65 big (zz65_a8 self_zz65 rec) m l0 x1 list5 t23 t24 t25 t31 t32 (i : Int) = res := by
    intro m
    induction m with
    | zero => intro i list5 h1 h2 h3; exact absurd h2 (by omega)
    | succ m ih =>
      intro i list5 h1 h2 h3
      rcases Nat.lt_or_ge i cnt with hlt | hge
      · exact hs _ i list5 hlt h3 (fun list5' h4 => ih (i + 1) list5' (by omega) (by omega) h4)
      · obtain rfl : i = cnt := by omega
        exact he _ list5 h3
  exact key big i0 list5 hi (by have := big_ge; omega) h0
theorem zz68_h2 {a0 : Y3} (cnt : Nat) (Inv : Nat → Int → Prop) {res : Option (Int × Unit)} (hn : cnt ≤ 500000000000)
  (hs : ∀ (rc : Y3 → Int → Int → Option (Int × Unit)) (i : Nat) (k1 : Int), i < cnt → Inv i k1 → (∀ (k1' : Int), Inv (i + 1) k1' → rc a0 k1' ((i + 1 : Nat) : Int) = res) → zz68_b2 rc zz68_a2 a0 k1 (i : Int) = res)
  (he : ∀ (rc : Y3 → Int → Int → Option (Int × Unit)) (k1 : Int), Inv cnt k1 → zz68_b2 rc zz68_a2 a0 k1 (cnt : Int) = res)
  (i0 : Nat) (hi : i0 ≤ cnt) (k1 : Int) (h0 : Inv i0 k1) : zz68_F2 big a0 k1 (i0 : Int) = res := by
  have key : ∀ (m i : Nat) (k1 : Int), i ≤ cnt → cnt < m + i → Inv i k1 → zz68_l2 big zz68_a2 m a0 k1 (i : Int) = res := by
    intro m
    induction m with
    | zero => intro i k1 h1 h2 h3; exact absurd h2 (by omega)
    | succ m ih =>
      intro i k1 h1 h2 h3
      rcases Nat.lt_or_ge i cnt with hlt | hge
      · exact hs _ i k1 hlt h3 (fun k1' h4 => ih (i + 1) k1' (by omega) (by omega) h4)
      · obtain rfl : i = cnt := by omega
        exact he _ k1 h3
  exact key big i0 k1 hi (by have := big_ge; omega) h0
theorem zz70_h3 {p1 : Y2} (cnt : Nat) (Inv : Nat → (List (Int × (Int × Unit))) → Prop) {res : Option ((List (Int × (Int × Unit))) × Unit)} (hn : cnt ≤ 500000000000)
  (hs : ∀ (rc : Y2 → (List (Int × (Int × Unit))) → Int → Option ((List (Int × (Int × Unit))) × Unit)) (i : Nat) (out3 : (List (Int × (Int × Unit)))), i < cnt → Inv i out3 → (∀ (out3' : (List (Int × (Int × Unit)))), Inv (i + 1) out3' → rc p1 out3' ((i + 1 : Nat) : Int) = res) → zz70_b3 (zz70_F6 big rc zz70_a3) zz70_a3 p1 out3 (i : Int) = res)
  (he : ∀ (rc : Y2 → (List (Int × (Int × Unit))) → Int → Option ((List (Int × (Int × Unit))) × Unit)) (out3 : (List (Int × (Int × Unit)))), Inv cnt out3 → zz70_b3 (zz70_F6 big rc zz70_a3) zz70_a3 p1 out3 (cnt : Int) = res)
  (i0 : Nat) (hi : i0 ≤ cnt) (out3 : (List (Int × (Int × Unit)))) (h0 : Inv i0 out3) : zz70_F3 big p1 out3 (i0 : Int) = res := by
  have key : ∀ (m i : Nat) (out3 : (List (Int × (Int × Unit)))), i ≤ cnt → cnt < m + i → Inv i out3 → zz70_l3 big zz70_a3 m p1 out3 (i : Int) = res := by
    intro m
    induction m with
    | zero => intro i out3 h1 h2 h3; exact absurd h2 (by omega)
    | succ m ih =>
      intro i out3 h1 h2 h3
      rcases Nat.lt_or_ge i cnt with hlt | hge
      · exact hs _ i out3 hlt h3 (fun out3' h4 => ih (i + 1) out3' (by omega) (by omega) h4)
      · obtain rfl : i = cnt := by omega
        exact he _ out3 h3
  exact key big i0 out3 hi (by have := big_ge; omega) h0
theorem zz70_h6 {rec : Y2 → (List (Int × (Int × Unit))) → Int → Option ((List (Int × (Int × Unit))) × Unit)} {k : (List (Int × (Int × Unit))) → Option ((List (Int × (Int × Unit))) × Unit)} {p1 : Y2} {x4 : Int} (cnt : Nat) (Inv : Nat → (List (Int × (Int × Unit))) → Prop) {res : Option ((List (Int × (Int × Unit))) × Unit)} (hn : cnt ≤ 500000000000)
  (hs : ∀ (rc : Y2 → (List (Int × (Int × Unit))) → Int → Int → Option ((List (Int × (Int × Unit))) × Unit)) (i : Nat) (out3 : (List (Int × (Int × Unit)))), i < cnt → Inv i out3 → (∀ (out3' : (List (Int × (Int × Unit)))), Inv (i + 1) out3' → rc p1 out3' x4 ((i + 1 : Nat) : Int) = res) → zz70_b6 rc (zz70_a6 rec) p1 out3 x4 (i : Int) = res)
  (he : ∀ (rc : Y2 → (List (Int × (Int × Unit))) → Int → Int → Option ((List (Int × (Int × Unit))) × Unit)) (out3 : (List (Int × (Int × Unit)))), Inv cnt out3 → zz70_b6 rc (zz70_a6 rec) p1 out3 x4 (cnt : Int) = res)
  (i0 : Nat) (hi : i0 ≤ cnt) (out3 : (List (Int × (Int × Unit)))) (h0 : Inv i0 out3) : zz70_F6 big rec k p1 out3 x4 (i0 : Int) = res := by
  have key : ∀ (m i : Nat) (out3 : (List (Int × (Int × Unit)))), i ≤ cnt → cnt < m + i → Inv i out3 → zz70_l6 big (zz70_a6 rec) m p1 out3 x4 (i : Int) = res := by
    intro m
    induction m with
    | zero => intro i out3 h1 h2 h3; exact absurd h2 (by omega)
    | succ m ih =>
      intro i out3 h1 h2 h3
      rcases Nat.lt_or_ge i cnt with hlt | hge
      · exact hs _ i out3 hlt h3 (fun out3' h4 => ih (i + 1) out3' (by omega) (by omega) h4)
      · obtain rfl : i = cnt := by omega
        exact he _ out3 h3
  exact key big i0 out3 hi (by have := big_ge; omega) h0
theorem zz73_h3 {o0 : Y5} {t8 : Int} (cnt : Nat) (Inv : Nat → (List (Int × (Int × Unit))) → Prop) {res : Option ((List (Int × (Int × Unit))) × Unit)} (hn : cnt ≤ 500000000000)
  (hs : ∀ (rc : Y5 → (List (Int × (Int × Unit))) → Int → Int → Option ((List (Int × (Int × Unit))) × Unit)) (i : Nat) (list3 : (List (Int × (Int × Unit)))), i < cnt → Inv i list3 → (∀ (list3' : (List (Int × (Int × Unit)))), Inv (i + 1) list3' → rc o0 list3' t8 ((i + 1 : Nat) : Int) = res) → zz73_b3 (zz73_F6 big rc zz73_a3) zz73_a3 o0 list3 t8 (i : Int) = res)
  (he : ∀ (rc : Y5 → (List (Int × (Int × Unit))) → Int → Int → Option ((List (Int × (Int × Unit))) × Unit)) (list3 : (List (Int × (Int × Unit)))), Inv cnt list3 → zz73_b3 (zz73_F6 big rc zz73_a3) zz73_a3 o0 list3 t8 (cnt : Int) = res)
  (i0 : Nat) (hi : i0 ≤ cnt) (list3 : (List (Int × (Int × Unit)))) (h0 : Inv i0 list3) : zz73_F3 big o0 list3 t8 (i0 : Int) = res := by
  have key : ∀ (m i : Nat) (list3 : (List (Int × (Int × Unit)))), i ≤ cnt → cnt < m + i → Inv i list3 → zz73_l3 big zz73_a3 m o0 list3 t8 (i : Int) = res := by
    intro m
    induction m with
    | zero => intro i list3 h1 h2 h3; exact absurd h2 (by omega)
    | succ m ih =>
      intro i list3 h1 h2 h3
      rcases Nat.lt_or_ge i cnt with hlt | hge
      · exact hs _ i list3 hlt h3 (fun list3' h4 => ih (i + 1) list3' (by omega) (by omega) h4)
      · obtain rfl : i = cnt := by omega
        exact he _ list3 h3
  exact key big i0 list3 hi (by have := big_ge; omega) h0
theorem zz73_h6 {rec : Y5 → (List (Int × (Int × Unit))) → Int → Int → Option ((List (Int × (Int × Unit))) × Unit)} {k : (List (Int × (Int × Unit))) → Option ((List (Int × (Int × Unit))) × Unit)} {o0 : Y5} {x4 : Int} {t8 : Int} {t9 : Int} {t13 : Int} (cnt : Nat) (Inv : Nat → (List (Int × (Int × Unit))) → Prop) {res : Option ((List (Int × (Int × Unit))) × Unit)} (hn : cnt ≤ 500000000000)
  (hs : ∀ (rc : Y5 → (List (Int × (Int × Unit))) → Int → Int → Int → Int → Int → Option ((List (Int × (Int × Unit))) × Unit)) (i : Nat) (list3 : (List (Int × (Int × Unit)))), i < cnt → Inv i list3 → (∀ (list3' : (List (Int × (Int × Unit)))), Inv (i + 1) list3' → rc o0 list3' x4 t8 t9 t13 ((i + 1 : Nat) : Int) = res) → zz73_b6 rc (zz73_a6 rec) o0 list3 x4 t8 t9 t13 (i : Int) = res)
  (he : ∀ (rc : Y5 → (List (Int × (Int × Unit))) → Int → Int → Int → Int → Int → Option ((List (Int × (Int × Unit))) × Unit)) (list3 : (List (Int × (Int × Unit)))), Inv cnt list3 → zz73_b6 rc (zz73_a6 rec) o0 list3 x4 t8 t9 t13 (cnt : Int) = res)
  (i0 : Nat) (hi : i0 ≤ cnt) (list3 : (List (Int × (Int × Unit)))) (h0 : Inv i0 list3) : zz73_F6 big rec k o0 list3 x4 t8 t9 t13 (i0 : Int) = res := by
  have key : ∀ (m i : Nat) (list3 : (List (Int × (Int × Unit)))), i ≤ cnt → cnt < m + i → Inv i list3 → zz73_l6 big (zz73_a6 rec) m o0 list3 x4 t8 t9 t13 (i : Int) = res := by
    intro m
    induction m with
    | zero => intro i list3 h1 h2 h3; exact absurd h2 (by omega)
    | succ m ih =>
      intro i list3 h1 h2 h3
      rcases Nat.lt_or_ge i cnt with hlt | hge
      · exact hs _ i list3 hlt h3 (fun list3' h4 => ih (i + 1) list3' (by omega) (by omega) h4)
      · obtain rfl : i = cnt := by omega
        exact he _ list3 h3
  exact key big i0 list3 hi (by have := big_ge; omega) h0
theorem zz75_h2 {a2 : (Int × (Int × Unit))} {b3 : (Int × (Int × Unit))} (cnt : Nat) (Inv : Nat → Prop) {res : Option (Bool × Unit)} (hn : cnt ≤ 500000000000)
  (hs : ∀ (rc : (Int × (Int × Unit)) → (Int × (Int × Unit)) → Int → Option (Bool × Unit)) (i : Nat), i < cnt → Inv i → (Inv (i + 1) → rc a2 b3 ((i + 1 : Nat) : Int) = res) → zz75_b2 rc zz75_a2 a2 b3 (i : Int) = res)
  (he : ∀ (rc : (Int × (Int × Unit)) → (Int × (Int × Unit)) → Int → Option (Bool × Unit)), Inv cnt → zz75_b2 rc zz75_a2 a2 b3 (cnt : Int) = res)
  (i0 : Nat) (hi : i0 ≤ cnt) (h0 : Inv i0) : zz75_F2 big a2 b3 (i0 : Int) = res := by
  have key : ∀ (m i : Nat), i ≤ cnt → cnt < m + i → Inv i → zz75_l2 big zz75_a2 m a2 b3 (i : Int) = res := by
    intro m
    induction m with
    | zero => intro i h1 h2 h3; exact absurd h2 (by omega)
    | succ m ih =>
      intro i h1 h2 h3
      rcases Nat.lt_or_ge i cnt with hlt | hge
      · exact hs _ i hlt h3 (fun h4 => ih (i + 1) (by omega) (by omega) h4)
      · obtain rfl : i = cnt := by omega
        exact he _ h3
  exact key big i0 hi (by have := big_ge; omega) h0
theorem zz76_h4 {a0 : (List (Int × (Int × Unit)))} {b1 : (List (Int × (Int × Unit)))} (cnt : Nat) (Inv : Nat → Prop) {res : Option (Bool × Unit)} (hn : cnt ≤ 500000000000)
  (hs : ∀ (rc : (List (Int × (Int × Unit))) → (List (Int × (Int × Unit))) → Int → Option (Bool × Unit)) (i : Nat), i < cnt → Inv i → (Inv (i + 1) → rc a0 b1 ((i + 1 : Nat) : Int) = res) → zz76_b4 rc zz76_a4 a0 b1 (i : Int) = res)
  (he : ∀ (rc : (List (Int × (Int × Unit))) → (List (Int × (Int × Unit))) → Int → Option (Bool × Unit)), Inv cnt → zz76_b4 rc zz76_a4 a0 b1 (cnt : Int) = res)
  (i0 : Nat) (hi : i0 ≤ cnt) (h0 : Inv i0) : zz76_F4 big a0 b1 (i0 : Int) = res := by
  have key : ∀ (m i : Nat), i ≤ cnt → cnt < m + i → Inv i → zz76_l4 big zz76_a4 m a0 b1 (i : Int) = res := by
    intro m
    induction m with
    | zero => intro i h1 h2 h3; exact absurd h2 (by omega)
    | succ m ih =>
      intro i h1 h2 h3
      rcases Nat.lt_or_ge i cnt with hlt | hge
      · exact hs _ i hlt h3 (fun h4 => ih (i + 1) (by omega) (by omega) h4)
      · obtain rfl : i = cnt := by omega
        exact he _ h3
  exact key big i0 hi (by have := big_ge; omega) h0
theorem zz77_h2 (cnt : Nat) (Inv : Nat → (List (Int × (Int × Unit))) → Int → Prop) {res : Option (Int × ((List (Int × (Int × Unit))) × Unit))} (hn : cnt ≤ 500000000000)
  (hs : ∀ (rc : (List (Int × (Int × Unit))) → Int → Int → Option (Int × ((List (Int × (Int × Unit))) × Unit))) (i : Nat) (a0 : (List (Int × (Int × Unit)))) (k1 : Int), i < cnt → Inv i a0 k1 → (∀ (a0' : (List (Int × (Int × Unit)))) (k1' : Int), Inv (i + 1) a0' k1' → rc a0' k1' ((i + 1 : Nat) : Int) = res) → zz77_b2 (zz77_F5 big rc zz77_a2) zz77_a2 a0 k1 (i : Int) = res)
  (he : ∀ (rc : (List (Int × (Int × Unit))) → Int → Int → Option (Int × ((List (Int × (Int × Unit))) × Unit))) (a0 : (List (Int × (Int × Unit)))) (k1 : Int), Inv cnt a0 k1 → zz77_b2 (zz77_F5 big rc zz77_a2) zz77_a2 a0 k1 (cnt : Int) = res)
  (i0 : Nat) (hi : i0 ≤ cnt) (a0 : (List (Int × (Int × Unit)))) (k1 : Int) (h0 : Inv i0 a0 k1) : zz77_F2 big a0 k1 (i0 : Int) = res := by
  have key : ∀ (m i : Nat) (a0 : (List (Int × (Int × Unit)))) (k1 : Int), i ≤ cnt → cnt < m + i → Inv i a0 k1 → zz77_l2 big zz77_a2 m a0 k1 (i : Int) = res := by
    intro m
    induction m with
    | zero => intro i a0 k1 h1 h2 h3; exact absurd h2 (by omega)
    | succ m ih =>
      intro i a0 k1 h1 h2 h3
      rcases Nat.lt_or_ge i cnt with hlt | hge
      · exact hs _ i a0 k1 hlt h3 (fun a0' k1' h4 => ih (i + 1) a0' k1' (by omega) (by omega) h4)
      · obtain rfl : i = cnt := by omega
        exact he _ a0 k1 h3
  exact key big i0 a0 k1 hi (by have := big_ge; omega) h0
theorem zz77_h5 {rec : (List (Int × (Int × Unit))) → Int → Int → Option (Int × ((List (Int × (Int × Unit))) × Unit))} {k : (List (Int × (Int × Unit))) → Int → Option (Int × ((List (Int × (Int × Unit))) × Unit))} {i5 : Int} (cnt : Nat) (Inv : Nat → (List (Int × (Int × Unit))) → Int → Prop) {res : Option (Int × ((List (Int × (Int × Unit))) × Unit))} (hn : cnt ≤ 500000000000)
  (hs : ∀ (rc : (List (Int × (Int × Unit))) → Int → Int → Int → Option (Int × ((List (Int × (Int × Unit))) × Unit))) (i : Nat) (a0 : (List (Int × (Int × Unit)))) (k1 : Int), i < cnt → Inv i a0 k1 → (∀ (a0' : (List (Int × (Int × Unit)))) (k1' : Int), Inv (i + 1) a0' k1' → rc a0' k1' i5 ((i + 1 : Nat) : Int) = res) → zz77_b5 rc (zz77_a5 rec) a0 k1 i5 (i : Int) = res)
  (he : ∀ (rc : (List (Int × (Int × Unit))) → Int → Int → Int → Option (Int × ((List (Int × (Int × Unit))) × Unit))) (a0 : (List (Int × (Int × Unit)))) (k1 : Int), Inv cnt a0 k1 → zz77_b5 rc (zz77_a5 rec) a0 k1 i5 (cnt : Int) = res)
  (i0 : Nat) (hi : i0 ≤ cnt) (a0 : (List (Int × (Int × Unit)))) (k1 : Int) (h0 : Inv i0 a0 k1) : zz77_F5 big rec k a0 k1 i5 (i0 : Int) = res := by
  have key : ∀ (m i : Nat) (a0 : (List (Int × (Int × Unit)))) (k1 : Int), i ≤ cnt → cnt < m + i → Inv i a0 k1 → zz77_l5 big (zz77_a5 rec) m a0 k1 i5 (i : Int) = res := by
    intro m
    induction m with
    | zero => intro i a0 k1 h1 h2 h3; exact absurd h2 (by omega)
    | succ m ih =>
      intro i a0 k1 h1 h2 h3
      rcases Nat.lt_or_ge i cnt with hlt | hge
      · exact hs _ i a0 k1 hlt h3 (fun a0' k1' h4 => ih (i + 1) a0' k1' (by omega) (by omega) h4)
      · obtain rfl : i = cnt := by omega
        exact he _ a0 k1 h3
  exact key big i0 a0 k1 hi (by have := big_ge; omega) h0
theorem zz78_h2 {a0 : (List (Int × (Int × Unit)))} (cnt : Nat) (Inv : Nat → Int → Prop) {res : Option (Int × Unit)} (hn : cnt ≤ 500000000000)
  (hs : ∀ (rc : (List (Int × (Int × Unit))) → Int → Int → Option (Int × Unit)) (i : Nat) (k1 : Int), i < cnt → Inv i k1 → (∀ (k1' : Int), Inv (i + 1) k1' → rc a0 k1' ((i + 1 : Nat) : Int) = res) → zz78_b2 (zz78_F5 big rc zz78_a2) zz78_a2 a0 k1 (i : Int) = res)
  (he : ∀ (rc : (List (Int × (Int × Unit))) → Int → Int → Option (Int × Unit)) (k1 : Int), Inv cnt k1 → zz78_b2 (zz78_F5 big rc zz78_a2) zz78_a2 a0 k1 (cnt : Int) = res)
  (i0 : Nat) (hi : i0 ≤ cnt) (k1 : Int) (h0 : Inv i0 k1) : zz78_F2 big a0 k1 (i0 : Int) = res := by
  have key : ∀ (m i : Nat) (k1 : Int), i ≤ cnt → cnt < m + i → Inv i k1 → zz78_l2 big zz78_a2 m a0 k1 (i : Int) = res := by
    intro m
    induction m with
    | zero => intro i k1 h1 h2 h3; exact absurd h2 (by omega)
    | succ m ih =>
      intro i k1 h1 h2 h3
      rcases Nat.lt_or_ge i cnt with hlt | hge
      · exact hs _ i k1 hlt h3 (fun k1' h4 => ih (i + 1) k1' (by omega) (by omega) h4)
      · obtain rfl : i = cnt := by omega
        exact he _ k1 h3
  exact key big i0 k1 hi (by have := big_ge; omega) h0
theorem zz78_h5 {rec : (List (Int × (Int × Unit))) → Int → Int → Option (Int × Unit)} {k : Int → Option (Int × Unit)} {a0 : (List (Int × (Int × Unit)))} {i5 : Int} (cnt : Nat) (Inv : Nat → Int → Prop) {res : Option (Int × Unit)} (hn : cnt ≤ 500000000000)
  (hs : ∀ (rc : (List (Int × (Int × Unit))) → Int → Int → Int → Option (Int × Unit)) (i : Nat) (k1 : Int), i < cnt → Inv i k1 → (∀ (k1' : Int), Inv (i + 1) k1' → rc a0 k1' i5 ((i + 1 : Nat) : Int) = res) → zz78_b5 rc (zz78_a5 rec) a0 k1 i5 (i : Int) = res)
  (he : ∀ (rc : (List (Int × (Int × Unit))) → Int → Int → Int → Option (Int × Unit)) (k1 : Int), Inv cnt k1 → zz78_b5 rc (zz78_a5 rec) a0 k1 i5 (cnt : Int) = res)
  (i0 : Nat) (hi : i0 ≤ cnt) (k1 : Int) (h0 : Inv i0 k1) : zz78_F5 big rec k a0 k1 i5 (i0 : Int) = res := by
  have key : ∀ (m i : Nat) (k1 : Int), i ≤ cnt → cnt < m + i → Inv i k1 → zz78_l5 big (zz78_a5 rec) m a0 k1 i5 (i : Int) = res := by
    intro m
    induction m with
    | zero => intro i k1 h1 h2 h3; exact absurd h2 (by omega)
    | succ m ih =>
      intro i k1 h1 h2 h3
      rcases Nat.lt_or_ge i cnt with hlt | hge
      · exact hs _ i k1 hlt h3 (fun k1' h4 => ih (i + 1) k1' (by omega) (by omega) h4)
      · obtain rfl : i = cnt := by omega
        exact he _ k1 h3
  exact key big i0 k1 hi (by have := big_ge; omega) h0
theorem zz79_h2 {list0 : Y4} (cnt : Nat) (Inv : Nat → Prop) {res : Option (Bool × Unit)} (hn : cnt ≤ 500000000000)
  (hs : ∀ (rc : Y4 → Int → Option (Bool × Unit)) (i : Nat), i < cnt → Inv i → (Inv (i + 1) → rc list0 ((i + 1 : Nat) : Int) = res) → zz79_b2 rc zz79_a2 list0 (i : Int) = res)
  (he : ∀ (rc : Y4 → Int → Option (Bool × Unit)), Inv cnt → zz79_b2 rc zz79_a2 list0 (cnt : Int) = res)
  (i0 : Nat) (hi : i0 ≤ cnt) (h0 : Inv i0) : zz79_F2 big list0 (i0 : Int) = res := by
  have key : ∀ (m i : Nat), i ≤ cnt → cnt < m + i → Inv i → zz79_l2 big zz79_a2 m list0 (i : Int) = res := by
    intro m
    induction m with
    | zero => intro i h1 h2 h3; exact absurd h2 (by omega)
    | succ m ih =>
      intro i h1 h2 h3
      rcases Nat.lt_or_ge i cnt with hlt | hge
      · exact hs _ i hlt h3 (fun h4 => ih (i + 1) (by omega) (by omega) h4)
      · obtain rfl : i = cnt := by omega
        exact he _ h3
  exact key big i0 hi (by have := big_ge; omega) h0
theorem zz80_h2 {a0 : Y4} {b1 : Y4} (cnt : Nat) (Inv : Nat → Prop) {res : Option (Bool × Unit)} (hn : cnt ≤ 500000000000)
  (hs : ∀ (rc : Y4 → Y4 → Int → Option (Bool × Unit)) (i : Nat), i < cnt → Inv i → (Inv (i + 1) → rc a0 b1 ((i + 1 : Nat) : Int) = res) → zz80_b2 rc zz80_a2 a0 b1 (i : Int) = res)
  (he : ∀ (rc : Y4 → Y4 → Int → Option (Bool × Unit)), Inv cnt → zz80_b2 rc zz80_a2 a0 b1 (cnt : Int) = res)
  (i0 : Nat) (hi : i0 ≤ cnt) (h0 : Inv i0) : zz80_F2 big a0 b1 (i0 : Int) = res := by
  have key : ∀ (m i : Nat), i ≤ cnt → cnt < m + i → Inv i → zz80_l2 big zz80_a2 m a0 b1 (i : Int) = res := by
    intro m
    induction m with
    | zero => intro i h1 h2 h3; exact absurd h2 (by omega)
    | succ m ih =>
      intro i h1 h2 h3
      rcases Nat.lt_or_ge i cnt with hlt | hge
      · exact hs _ i hlt h3 (fun h4 => ih (i + 1) (by omega) (by omega) h4)
      · obtain rfl : i = cnt := by omega
        exact he _ h3
  exact key big i0 hi (by have := big_ge; omega) h0
theorem zz81_h6 {p1 : Y2} {n4 : Int} (cnt : Nat) (Inv : Nat → Y4 → Prop) {res : Option ((Y4 × (Bool × Unit)) × Unit)} (hn : cnt ≤ 500000000000)
  (hs : ∀ (rc : Y2 → Int → Y4 → Int → Option ((Y4 × (Bool × Unit)) × Unit)) (i : Nat) (best5 : Y4), i < cnt → Inv i best5 → (∀ (best5' : Y4), Inv (i + 1) best5' → rc p1 n4 best5' ((i + 1 : Nat) : Int) = res) → zz81_b6 (zz81_F9 big rc zz81_a6) zz81_a6 p1 n4 best5 (i : Int) = res)
  (he : ∀ (rc : Y2 → Int → Y4 → Int → Option ((Y4 × (Bool × Unit)) × Unit)) (best5 : Y4), Inv cnt best5 → zz81_b6 (zz81_F9 big rc zz81_a6) zz81_a6 p1 n4 best5 (cnt : Int) = res)
  (i0 : Nat) (hi : i0 ≤ cnt) (best5 : Y4) (h0 : Inv i0 best5) : zz81_F6 big p1 n4 best5 (i0 : Int) = res := by
  have key : ∀ (m i : Nat) (best5 : Y4), i ≤ cnt → cnt < m + i → Inv i best5 → zz81_l6 big zz81_a6 m p1 n4 best5 (i : Int) = res := by
    intro m
    induction m with
    | zero => intro i best5 h1 h2 h3; exact absurd h2 (by omega)
    | succ m ih =>
      intro i best5 h1 h2 h3
      rcases Nat.lt_or_ge i cnt with hlt | hge
      · exact hs _ i best5 hlt h3 (fun best5' h4 => ih (i + 1) best5' (by omega) (by omega) h4)
      · obtain rfl : i = cnt := by omega
        exact he _ best5 h3
  exact key big i0 best5 hi (by have := big_ge; omega) h0
theorem zz81_h9 {rec : Y2 → Int → Y4 → Int → Option ((Y4 × (Bool × Unit)) × Unit)} {k : Y4 → Option ((Y4 × (Bool × Unit)) × Unit)} {p1 : Y2} {n4 : Int} {x6 : Int} (cnt : Nat) (Inv : Nat → Y4 → Prop) {res : Option ((Y4 × (Bool × Unit)) × Unit)} (hn : cnt ≤ 500000000000)
  (hs : ∀ (rc : Y2 → Int → Y4 → Int → Int → Option ((Y4 × (Bool × Unit)) × Unit)) (i : Nat) (best5 : Y4), i < cnt → Inv i best5 → (∀ (best5' : Y4), Inv (i + 1) best5' → rc p1 n4 best5' x6 ((i + 1 : Nat) : Int) = res) → zz81_b9 (zz81_F12 big rc (zz81_a9 rec)) (zz81_a9 rec) p1 n4 best5 x6 (i : Int) = res)
  (he : ∀ (rc : Y2 → Int → Y4 → Int → Int → Option ((Y4 × (Bool × Unit)) × Unit)) (best5 : Y4), Inv cnt best5 → zz81_b9 (zz81_F12 big rc (zz81_a9 rec)) (zz81_a9 rec) p1 n4 best5 x6 (cnt : Int) = res)
  (i0 : Nat) (hi : i0 ≤ cnt) (best5 : Y4) (h0 : Inv i0 best5) : zz81_F9 big rec k p1 n4 best5 x6 (i0 : Int) = res := by
  have key : ∀ (m i : Nat) (best5 : Y4), i ≤ cnt → cnt < m + i → Inv i best5 → zz81_l9 big (zz81_a9 rec) m p1 n4 best5 x6 (i : Int) = res := by
    intro m
    induction m with
    | zero => intro i best5 h1 h2 h3; exact absurd h2 (by omega)
    | succ m ih =>
      intro i best5 h1 h2 h3
      rcases Nat.lt_or_ge i cnt with hlt | hge
      · exact hs _ i best5 hlt h3 (fun best5' h4 => ih (i + 1) best5' (by omega) (by omega) h4)
      · obtain rfl : i = cnt := by omega
        exact he _ best5 h3
  exact key big i0 best5 hi (by have := big_ge; omega) h0
theorem zz81_h12 {rec : Y2 → Int → Y4 → Int → Int → Option ((Y4 × (Bool × Unit)) × Unit)} {k : Y2 → Int → Y4 → Int → Option ((Y4 × (Bool × Unit)) × Unit)} {p1 : Y2} {n4 : Int} {x6 : Int} {y7 : Int} (cnt : Nat) (Inv : Nat → Y4 → Prop) {res : Option ((Y4 × (Bool × Unit)) × Unit)} (hn : cnt ≤ 500000000000)
  (hs : ∀ (rc : Y2 → Int → Y4 → Int → Int → Int → Option ((Y4 × (Bool × Unit)) × Unit)) (i : Nat) (best5 : Y4), i < cnt → Inv i best5 → (∀ (best5' : Y4), Inv (i + 1) best5' → rc p1 n4 best5' x6 y7 ((i + 1 : Nat) : Int) = res) → zz81_b12 rc (zz81_a12 rec) p1 n4 best5 x6 y7 (i : Int) = res)
  (he : ∀ (rc : Y2 → Int → Y4 → Int → Int → Int → Option ((Y4 × (Bool × Unit)) × Unit)) (best5 : Y4), Inv cnt best5 → zz81_b12 rc (zz81_a12 rec) p1 n4 best5 x6 y7 (cnt : Int) = res)
  (i0 : Nat) (hi : i0 ≤ cnt) (best5 : Y4) (h0 : Inv i0 best5) : zz81_F12 big rec k p1 n4 best5 x6 y7 (i0 : Int) = res := by
  have key : ∀ (m i : Nat) (best5 : Y4), i ≤ cnt → cnt < m + i → Inv i best5 → zz81_l12 big (zz81_a12 rec) m p1 n4 best5 x6 y7 (i : Int) = res := by
    intro m
    induction m with
    | zero => intro i best5 h1 h2 h3; exact absurd h2 (by omega)
    | succ m ih =>
      intro i best5 h1 h2 h3
      rcases Nat.lt_or_ge i cnt with hlt | hge
      · exact hs _ i best5 hlt h3 (fun best5' h4 => ih (i + 1) best5' (by omega) (by omega) h4)
      · obtain rfl : i = cnt := by omega
        exact he _ best5 h3
  exact key big i0 best5 hi (by have := big_ge; omega) h0
theorem zz82_h2 {x1 : Int} {t7 : Y4} {t8 : Int} (cnt : Nat) (Inv : Nat → Prop) {res : Option (Bool × Unit)} (hn : cnt ≤ 500000000000)
  (hs : ∀ (rc : Int → Y4 → Int → Int → Option (Bool × Unit)) (i : Nat), i < cnt → Inv i → (Inv (i + 1) → rc x1 t7 t8 ((i + 1 : Nat) : Int) = res) → zz82_b2 rc zz82_a2 x1 t7 t8 (i : Int) = res)
  (he : ∀ (rc : Int → Y4 → Int → Int → Option (Bool × Unit)), Inv cnt → zz82_b2 rc zz82_a2 x1 t7 t8 (cnt : Int) = res)
  (i0 : Nat) (hi : i0 ≤ cnt) (h0 : Inv i0) : zz82_F2 big x1 t7 t8 (i0 : Int) = res := by
  have key : ∀ (m i : Nat), i ≤ cnt → cnt < m + i → Inv i → zz82_l2 big zz82_a2 m x1 t7 t8 (i : Int) = res := by
    intro m
    induction m with
    | zero => intro i h1 h2 h3; exact absurd h2 (by omega)
    | succ m ih =>
      intro i h1 h2 h3
      rcases Nat.lt_or_ge i cnt with hlt | hge
      · exact hs _ i hlt h3 (fun h4 => ih (i + 1) (by omega) (by omega) h4)
      · obtain rfl : i = cnt := by omega
        exact he _ h3
  exact key big i0 hi (by have := big_ge; omega) h0
theorem zz83_h2 {list0 : Y4} {t5 : Y4} {t6 : Int} (cnt : Nat) (Inv : Nat → Prop) {res : Option (Bool × Unit)} (hn : cnt ≤ 500000000000)
  (hs : ∀ (rc : Y4 → Y4 → Int → Int → Option (Bool × Unit)) (i : Nat), i < cnt → Inv i → (Inv (i + 1) → rc list0 t5 t6 ((i + 1 : Nat) : Int) = res) → zz83_b2 rc zz83_a2 list0 t5 t6 (i : Int) = res)
  (he : ∀ (rc : Y4 → Y4 → Int → Int → Option (Bool × Unit)), Inv cnt → zz83_b2 rc zz83_a2 list0 t5 t6 (cnt : Int) = res)
  (i0 : Nat) (hi : i0 ≤ cnt) (h0 : Inv i0) : zz83_F2 big list0 t5 t6 (i0 : Int) = res := by
  have key : ∀ (m i : Nat), i ≤ cnt → cnt < m + i → Inv i → zz83_l2 big zz83_a2 m list0 t5 t6 (i : Int) = res := by
    intro m
    induction m with
    | zero => intro i h1 h2 h3; exact absurd h2 (by omega)
    | succ m ih =>
      intro i h1 h2 h3
      rcases Nat.lt_or_ge i cnt with hlt | hge
      · exact hs _ i hlt h3 (fun h4 => ih (i + 1) (by omega) (by omega) h4)
      · obtain rfl : i = cnt := by omega
        exact he _ h3
  exact key big i0 hi (by have := big_ge; omega) h0
theorem zz84_h2 {s0 : Y4} {t1 : Y4} (cnt : Nat) (Inv : Nat → Prop) {res : Option (Int × Unit)} (hn : cnt ≤ 500000000000)
  (hs : ∀ (rc : Y4 → Y4 → Int → Option (Int × Unit)) (i : Nat), i < cnt → Inv i → (Inv (i + 1) → rc s0 t1 ((i + 1 : Nat) : Int) = res) → zz84_b2 rc zz84_a2 s0 t1 (i : Int) = res)
  (he : ∀ (rc : Y4 → Y4 → Int → Option (Int × Unit)), Inv cnt → zz84_b2 rc zz84_a2 s0 t1 (cnt : Int) = res)
  (i0 : Nat) (hi : i0 ≤ cnt) (h0 : Inv i0) : zz84_F2 big s0 t1 (i0 : Int) = res := by
  have key : ∀ (m i : Nat), i ≤ cnt → cnt < m + i → Inv i → zz84_l2 big zz84_a2 m s0 t1 (i : Int) = res := by
    intro m
    induction m with
    | zero => intro i h1 h2 h3; exact absurd h2 (by omega)
    | succ m ih =>
      intro i h1 h2 h3
      rcases Nat.lt_or_ge i cnt with hlt | hge
      · exact hs _ i hlt h3 (fun h4 => ih (i + 1) (by omega) (by omega) h4)
      · obtain rfl : i = cnt := by omega
        exact he _ h3
  exact key big i0 hi (by have := big_ge; omega) h0
theorem zz86_h6 {good1 : Unit} {l6 : Y1} {t26 : Int} (cnt : Nat) (Inv : Nat → Y4 → Prop) {res : Option ((Y4 × (Bool × Unit)) × Unit)} (hn : cnt ≤ 500000000000)
  (hs : ∀ (rc : Unit → Y1 → Y4 → Int → Int → Option ((Y4 × (Bool × Unit)) × Unit)) (i : Nat) (best8 : Y4), i < cnt → Inv i best8 → (∀ (best8' : Y4), Inv (i + 1) best8' → rc good1 l6 best8' t26 ((i + 1 : Nat) : Int) = res) → zz86_b6 (zz86_F9 big rc zz86_a6) zz86_a6 good1 l6 best8 t26 (i : Int) = res)
  (he : ∀ (rc : Unit → Y1 → Y4 → Int → Int → Option ((Y4 × (Bool × Unit)) × Unit)) (best8 : Y4), Inv cnt best8 → zz86_b6 (zz86_F9 big rc zz86_a6) zz86_a6 good1 l6 best8 t26 (cnt : Int) = res)
  (i0 : Nat) (hi : i0 ≤ cnt) (best8 : Y4) (h0 : Inv i0 best8) : zz86_F6 big good1 l6 best8 t26 (i0 : Int) = res := by
  have key : ∀ (m i : Nat) (best8 : Y4), i ≤ cnt → cnt < m + i → Inv i best8 → zz86_l6 big zz86_a6 m good1 l6 best8 t26 (i : Int) = res := by
    intro m
    induction m with
    | zero => intro i best8 h1 h2 h3; exact absurd h2 (by omega)
    | succ m ih =>
      intro i best8 h1 h2 h3
      rcases Nat.lt_or_ge i cnt with hlt | hge
      · exact hs _ i best8 hlt h3 (fun best8' h4 => ih (i + 1) best8' (by omega) (by omega) h4)
      · obtain rfl : i = cnt := by omega
        exact he _ best8 h3
  exact key big i0 best8 hi (by have := big_ge; omega) h0
theorem zz86_h9 {rec : Unit → Y1 → Y4 → Int → Int → Option ((Y4 × (Bool × Unit)) × Unit)} {k : Y4 → Option ((Y4 × (Bool × Unit)) × Unit)} {good1 : Unit} {l6 : Y1} {a9 : Int} {t26 : Int} {t27 : Int} {t34 : Int} (cnt : Nat) (Inv : Nat → Y4 → Prop) {res : Option ((Y4 × (Bool × Unit)) × Unit)} (hn : cnt ≤ 500000000000)
  (hs : ∀ (rc : Unit → Y1 → Y4 → Int → Int → Int → Int → Int → Option ((Y4 × (Bool × Unit)) × Unit)) (i : Nat) (best8 : Y4), i < cnt → Inv i best8 → (∀ (best8' : Y4), Inv (i + 1) best8' → rc good1 l6 best8' a9 t26 t27 t34 ((i + 1 : Nat) : Int) = res) → zz86_b9 (zz86_F12 big rc (zz86_a9 rec)) (zz86_a9 rec) good1 l6 best8 a9 t26 t27 t34 (i : Int) = res)
  (he : ∀ (rc : Unit → Y1 → Y4 → Int → Int → Int → Int → Int → Option ((Y4 × (Bool × Unit)) × Unit)) (best8 : Y4), Inv cnt best8 → zz86_b9 (zz86_F12 big rc (zz86_a9 rec)) (zz86_a9 rec) good1 l6 best8 a9 t26 t27 t34 (cnt : Int) = res)
  (i0 : Nat) (hi : i0 ≤ cnt) (best8 : Y4) (h0 : Inv i0 best8) : zz86_F9 big rec k good1 l6 best8 a9 t26 t27 t34 (i0 : Int) = res := by
  have key : ∀ (m i : Nat) (best8 : Y4), i ≤ cnt → cnt < m + i → Inv i best8 → zz86_l9 big (zz86_a9 rec) m good1 l6 best8 a9 t26 t27 t34 (i : Int) = res := by
    intro m
    induction m with
    | zero => intro i best8 h1 h2 h3; exact absurd h2 (by omega)
    | succ m ih =>
      intro i best8 h1 h2 h3
      rcases Nat.lt_or_ge i cnt with hlt | hge
      · exact hs _ i best8 hlt h3 (fun best8' h4 => ih (i + 1) best8' (by omega) (by omega) h4)
      · obtain rfl : i = cnt := by omega
        exact he _ best8 h3
  exact key big i0 best8 hi (by have := big_ge; omega) h0
theorem zz86_h12 {rec : Unit → Y1 → Y4 → Int → Int → Int → Int → Int → Option ((Y4 × (Bool × Unit)) × Unit)} {k : Unit → Y1 → Y4 → Int → Int → Option ((Y4 × (Bool × Unit)) × Unit)} {good1 : Unit} {l6 : Y1} {a9 : Int} {b10 : Int} {t26 : Int} {t27 : Int} {t34 : Int} {t35 : Int} {t42 : Int} (cnt : Nat) (Inv : Nat → Y4 → Prop) {res : Option ((Y4 × (Bool × Unit)) × Unit)} (hn : cnt ≤ 500000000000)
  (hs : ∀ (rc : Unit → Y1 → Y4 → Int → Int → Int → Int → Int → Int → Int → Int → Option ((Y4 × (Bool × Unit)) × Unit)) (i : Nat) (best8 : Y4), i < cnt → Inv i best8 → (∀ (best8' : Y4), Inv (i + 1) best8' → rc good1 l6 best8' a9 b10 t26 t27 t34 t35 t42 ((i + 1 : Nat) : Int) = res) → zz86_b12 rc (zz86_a12 rec) good1 l6 best8 a9 b10 t26 t27 t34 t35 t42 (i : Int) = res)
  (he : ∀ (rc : Unit → Y1 → Y4 → Int → Int → Int → Int → Int → Int → Int → Int → Option ((Y4 × (Bool × Unit)) × Unit)) (best8 : Y4), Inv cnt best8 → zz86_b12 rc (zz86_a12 rec) good1 l6 best8 a9 b10 t26 t27 t34 t35 t42 (cnt : Int) = res)
  (i0 : Nat) (hi : i0 ≤ cnt) (best8 : Y4) (h0 : Inv i0 best8) : zz86_F12 big rec k good1 l6 best8 a9 b10 t26 t27 t34 t35 t42 (i0 : Int) = res := by
  have key : ∀ (m i : Nat) (best8 : Y4), i ≤ cnt → cnt < m + i → Inv i best8 → zz86_l12 big (zz86_a12 rec) m good1 l6 best8 a9 b10 t26 t27 t34 t35 t42 (i : Int) = res := by
    intro m
    induction m with
    | zero => intro i best8 h1 h2 h3; exact absurd h2 (by omega)
    | succ m ih =>
      intro i best8 h1 h2 h3
      rcases Nat.lt_or_ge i cnt with hlt | hge
      · exact hs _ i best8 hlt h3 (fun best8' h4 => ih (i + 1) best8' (by omega) (by omega) h4)
      · obtain rfl : i = cnt := by omega
        exact he _ best8 h3
  exact key big i0 best8 hi (by have := big_ge; omega) h0
theorem zz88_h6 {p1 : Y2} {n4 : Int} (cnt : Nat) (Inv : Nat → Y4 → Prop) {res : Option ((Y4 × (Bool × Unit)) × Unit)} (hn : cnt ≤ 500000000000)
  (hs : ∀ (rc : Y2 → Int → Y4 → Int → Option ((Y4 × (Bool × Unit)) × Unit)) (i : Nat) (best5 : Y4), i < cnt → Inv i best5 → (∀ (best5' : Y4), Inv (i + 1) best5' → rc p1 n4 best5' ((i + 1 : Nat) : Int) = res) → zz88_b6 (zz88_F9 big rc zz88_a6) zz88_a6 p1 n4 best5 (i : Int) = res)
  (he : ∀ (rc : Y2 → Int → Y4 → Int → Option ((Y4 × (Bool × Unit)) × Unit)) (best5 : Y4), Inv cnt best5 → zz88_b6 (zz88_F9 big rc zz88_a6) zz88_a6 p1 n4 best5 (cnt : Int) = res)
  (i0 : Nat) (hi : i0 ≤ cnt) (best5 : Y4) (h0 : Inv i0 best5) : zz88_F6 big p1 n4 best5 (i0 : Int) = res := by
  have key : ∀ (m i : Nat) (best5 : Y4), i ≤ cnt → cnt < m + i → Inv i best5 → zz88_l6 big zz88_a6 m p1 n4 best5 (i : Int) = res := by
    intro m
    induction m with
    | zero => intro i best5 h1 h2 h3; exact absurd h2 (by omega)
    | succ m ih =>
      intro i best5 h1 h2 h3
      rcases Nat.lt_or_ge i cnt with hlt | hge
      · exact hs _ i best5 hlt h3 (fun best5' h4 => ih (i + 1) best5' (by omega) (by omega) h4)
      · obtain rfl : i = cnt := by omega
        exact he _ best5 h3
  exact key big i0 best5 hi (by have := big_ge; omega) h0
theorem zz88_h9 {rec : Y2 → Int → Y4 → Int → Option ((Y4 × (Bool × Unit)) × Unit)} {k : Y4 → Option ((Y4 × (Bool × Unit)) × Unit)} {p1 : Y2} {n4 : Int} {a6 : Int} (cnt : Nat) (Inv : Nat → Y4 → Prop) {res : Option ((Y4 × (Bool × Unit)) × Unit)} (hn : cnt ≤ 500000000000)
  (hs : ∀ (rc : Y2 → Int → Y4 → Int → Int → Option ((Y4 × (Bool × Unit)) × Unit)) (i : Nat) (best5 : Y4), i < cnt → Inv i best5 → (∀ (best5' : Y4), Inv (i + 1) best5' → rc p1 n4 best5' a6 ((i + 1 : Nat) : Int) = res) → zz88_b9 (zz88_F12 big rc (zz88_a9 rec)) (zz88_a9 rec) p1 n4 best5 a6 (i : Int) = res)
  (he : ∀ (rc : Y2 → Int → Y4 → Int → Int → Option ((Y4 × (Bool × Unit)) × Unit)) (best5 : Y4), Inv cnt best5 → zz88_b9 (zz88_F12 big rc (zz88_a9 rec)) (zz88_a9 rec) p1 n4 best5 a6 (cnt : Int) = res)
  (i0 : Nat) (hi : i0 ≤ cnt) (best5 : Y4) (h0 : Inv i0 best5) : zz88_F9 big rec k p1 n4 best5 a6 (i0 : Int) = res := by
  have key : ∀ (m i : Nat) (best5 : Y4), i ≤ cnt → cnt < m + i → Inv i best5 → zz88_l9 big (zz88_a9 rec) m p1 n4 best5 a6 (i : Int) = res := by
    intro m
    induction m with
    | zero => intro i best5 h1 h2 h3; exact absurd h2 (by omega)
    | succ m ih =>
      intro i best5 h1 h2 h3
      rcases Nat.lt_or_ge i cnt with hlt | hge
      · exact hs _ i best5 hlt h3 (fun best5' h4 => ih (i + 1) best5' (by omega) (by omega) h4)
      · obtain rfl : i = cnt := by omega
        exact he _ best5 h3
  exact key big i0 best5 hi (by have := big_ge; omega) h0
theorem zz88_h12 {rec : Y2 → Int → Y4 → Int → Int → Option ((Y4 × (Bool × Unit)) × Unit)} {k : Y2 → Int → Y4 → Int → Option ((Y4 × (Bool × Unit)) × Unit)} {p1 : Y2} {n4 : Int} {a6 : Int} {b7 : Int} (cnt : Nat) (Inv : Nat → Y4 → Prop) {res : Option ((Y4 × (Bool × Unit)) × Unit)} (hn : cnt ≤ 500000000000)
  (hs : ∀ (rc : Y2 → Int → Y4 → Int → Int → Int → Option ((Y4 × (Bool × Unit)) × Unit)) (i : Nat) (best5 : Y4), i < cnt → Inv i best5 → (∀ (best5' : Y4), Inv (i + 1) best5' → rc p1 n4 best5' a6 b7 ((i + 1 : Nat) : Int) = res) → zz88_b12 rc (zz88_a12 rec) p1 n4 best5 a6 b7 (i : Int) = res)
  (he : ∀ (rc : Y2 → Int → Y4 → Int → Int → Int → Option ((Y4 × (Bool × Unit)) × Unit)) (best5 : Y4), Inv cnt best5 → zz88_b12 rc (zz88_a12 rec) p1 n4 best5 a6 b7 (cnt : Int) = res)
  (i0 : Nat) (hi : i0 ≤ cnt) (best5 : Y4) (h0 : Inv i0 best5) : zz88_F12 big rec k p1 n4 best5 a6 b7 (i0 : Int) = res := by
  have key : ∀ (m i : Nat) (best5 : Y4), i ≤ cnt → cnt < m + i → Inv i best5 → zz88_l12 big (zz88_a12 rec) m p1 n4 best5 a6 b7 (i : Int) = res := by
    intro m
    induction m with
    | zero => intro i best5 h1 h2 h3; exact absurd h2 (by omega)
    | succ m ih =>
      intro i best5 h1 h2 h3
      rcases Nat.lt_or_ge i cnt with hlt | hge
      · exact hs _ i best5 hlt h3 (fun best5' h4 => ih (i + 1) best5' (by omega) (by omega) h4)
      · obtain rfl : i = cnt := by omega
        exact he _ best5 h3
  exact key big i0 best5 hi (by have := big_ge; omega) h0
theorem zz90_h6 {good1 : Unit} {l6 : Y1} {t26 : Int} (cnt : Nat) (Inv : Nat → Y4 → Prop) {res : Option ((Y4 × (Bool × Unit)) × Unit)} (hn : cnt ≤ 500000000000)
  (hs : ∀ (rc : Unit → Y1 → Y4 → Int → Int → Option ((Y4 × (Bool × Unit)) × Unit)) (i : Nat) (best8 : Y4), i < cnt → Inv i best8 → (∀ (best8' : Y4), Inv (i + 1) best8' → rc good1 l6 best8' t26 ((i + 1 : Nat) : Int) = res) → zz90_b6 (zz90_F9 big rc zz90_a6) zz90_a6 good1 l6 best8 t26 (i : Int) = res)
  (he : ∀ (rc : Unit → Y1 → Y4 → Int → Int → Option ((Y4 × (Bool × Unit)) × Unit)) (best8 : Y4), Inv cnt best8 → zz90_b6 (zz90_F9 big rc zz90_a6) zz90_a6 good1 l6 best8 t26 (cnt : Int) = res)
  (i0 : Nat) (hi : i0 ≤ cnt) (best8 : Y4) (h0 : Inv i0 best8) : zz90_F6 big good1 l6 best8 t26 (i0 : Int) = res := by
  have key : ∀ (m i : Nat) (best8 : Y4), i ≤ cnt → cnt < m + i → Inv i best8 → zz90_l6 big zz90_a6 m good1 l6 best8 t26 (i : Int) = res := by
    intro m
    induction m with
    | zero => intro i best8 h1 h2 h3; exact absurd h2 (by omega)
    | succ m ih =>
      intro i best8 h1 h2 h3
      rcases Nat.lt_or_ge i cnt with hlt | hge
      · exact hs _ i best8 hlt h3 (fun best8' h4 => ih (i + 1) best8' (by omega) (by omega) h4)
      · obtain rfl : i = cnt := by omega
        exact he _ best8 h3
  exact key big i0 best8 hi (by have := big_ge; omega) h0
theorem zz90_h9 {rec : Unit → Y1 → Y4 → Int → Int → Option ((Y4 × (Bool × Unit)) × Unit)} {k : Y4 → Option ((Y4 × (Bool × Unit)) × Unit)} {good1 : Unit} {l6 : Y1} {a9 : Int} {t26 : Int} {t27 : Int} {t34 : Int} (cnt : Nat) (Inv : Nat → Y4 → Prop) {res : Option ((Y4 × (Bool × Unit)) × Unit)} (hn : cnt ≤ 500000000000)
  (hs : ∀ (rc : Unit → Y1 → Y4 → Int → Int → Int → Int → Int → Option ((Y4 × (Bool × Unit)) × Unit)) (i : Nat) (best8 : Y4), i < cnt → Inv i best8 → (∀ (best8' : Y4), Inv (i + 1) best8' → rc good1 l6 best8' a9 t26 t27 t34 ((i + 1 : Nat) : Int) = res) → zz90_b9 (zz90_F12 big rc (zz90_a9 rec)) (zz90_a9 rec) good1 l6 best8 a9 t26 t27 t34 (i : Int) = res)
  (he : ∀ (rc : Unit → Y1 → Y4 → Int → Int → Int → Int → Int → Option ((Y4 × (Bool × Unit)) × Unit)) (best8 : Y4), Inv cnt best8 → zz90_b9 (zz90_F12 big rc (zz90_a9 rec)) (zz90_a9 rec) good1 l6 best8 a9 t26 t27 t34 (cnt : Int) = res)
  (i0 : Nat) (hi : i0 ≤ cnt) (best8 : Y4) (h0 : Inv i0 best8) : zz90_F9 big rec k good1 l6 best8 a9 t26 t27 t34 (i0 : Int) = res := by
  have key : ∀ (m i : Nat) (best8 : Y4), i ≤ cnt → cnt < m + i → Inv i best8 → zz90_l9 big (zz90_a9 rec) m good1 l6 best8 a9 t26 t27 t34 (i : Int) = res := by
    intro m
    induction m with
    | zero => intro i best8 h1 h2 h3; exact absurd h2 (by omega)
    | succ m ih =>
      intro i best8 h1 h2 h3
      rcases Nat.lt_or_ge i cnt with hlt | hge
      · exact hs _ i best8 hlt h3 (fun best8' h4 => ih (i + 1) best8' (by omega) (by omega) h4)
      · obtain rfl : i = cnt := by omega
        exact he _ best8 h3
  exact key big i0 best8 hi (by have := big_ge; omega) h0
theorem zz90_h12 {rec : Unit → Y1 → Y4 → Int → Int → Int → Int → Int → Option ((Y4 × (Bool × Unit)) × Unit)} {k : Unit → Y1 → Y4 → Int → Int → Option ((Y4 × (Bool × Unit)) × Unit)} {good1 : Unit} {l6 : Y1} {a9 : Int} {b10 : Int} {t26 : Int} {t27 : Int} {t34 : Int} {t35 : Int} {t42 : Int} (cnt : Nat) (Inv : Nat → Y4 → Prop) {res : Option ((Y4 × (Bool × Unit)) × Unit)} (hn : cnt ≤ 500000000000)
  (hs : ∀ (rc : Unit → Y1 → Y4 → Int → Int → Int → Int → Int → Int → Int → Int → Option ((Y4 × (Bool × Unit)) × Unit)) (i : Nat) (best8 : Y4), i < cnt → Inv i best8 → (∀ (best8' : Y4), Inv (i + 1) best8' → rc good1 l6 best8' a9 b10 t26 t27 t34 t35 t42 ((i + 1 : Nat) : Int) = res) → zz90_b12 rc (zz90_a12 rec) good1 l6 best8 a9 b10 t26 t27 t34 t35 t42 (i : Int) = res)
  (he : ∀ (rc : Unit → Y1 → Y4 → Int → Int → Int → Int → Int → Int → Int → Int → Option ((Y4 × (Bool × Unit)) × Unit)) (best8 : Y4), Inv cnt best8 → zz90_b12 rc (zz90_a12 rec) good1 l6 best8 a9 b10 t26 t27 t34 t35 t42 (cnt : Int) = res)
  (i0 : Nat) (hi : i0 ≤ cnt) (best8 : Y4) (h0 : Inv i0 best8) : zz90_F12 big rec k good1 l6 best8 a9 b10 t26 t27 t34 t35 t42 (i0 : Int) = res := by
  have key : ∀ (m i : Nat) (best8 : Y4), i ≤ cnt → cnt < m + i → Inv i best8 → zz90_l12 big (zz90_a12 rec) m good1 l6 best8 a9 b10 t26 t27 t34 t35 t42 (i : Int) = res := by
    intro m
    induction m with
    | zero => intro i best8 h1 h2 h3; exact absurd h2 (by omega)
    | succ m ih =>
      intro i best8 h1 h2 h3
      rcases Nat.lt_or_ge i cnt with hlt | hge
      · exact hs _ i best8 hlt h3 (fun best8' h4 => ih (i + 1) best8' (by omega) (by omega) h4)
      · obtain rfl : i = cnt := by omega
        exact he _ best8 h3
  exact key big i0 best8 hi (by have := big_ge; omega) h0
end Go.Proofs.Ytafkhhcnmmkieaa
