import Derived.Test.YtafkhhcnmmkieaaPLib
import Derived.Test.YtafkhhcnmmkieaaGC
set_option linter.unusedVariables false
namespace Go.Proofs.Ytafkhhcnmmkieaa
open Go Go.Gx Go.Proofs

/-! rules for the loops -/
theorem zz1_h5 {a0 : Y3} (cnt : Nat) (Inv : Nat → Int → Prop) {res : Option (Int × Unit)} (hn : cnt ≤ 500000000000)
  (hs : ∀ (rc : Y3 → Int → Int → Option (Int × Unit)) (i : Nat) (left1 : Int), i < cnt → Inv i left1 → (∀ (left1' : Int), Inv (i + 1) left1' → rc a0 left1' ((i + 1 : Nat) : Int) = res) → zz1_b5 rc zz1_a5 a0 left1 (i : Int) = res)
  (he : ∀ (rc : Y3 → Int → Int → Option (Int × Unit)) (left1 : Int), Inv cnt left1 → zz1_b5 rc zz1_a5 a0 left1 (cnt : Int) = res)
  (i0 : Nat) (hi : i0 ≤ cnt) (left1 : Int) (h0 : Inv i0 left1) : zz1_F5 big a0 left1 (i0 : Int) = res := by
  have key : ∀ (m i : Nat) (left1 : Int), i ≤ cnt → cnt < m + i → Inv i left1 → zz1_l5 big zz1_a5 m a0 left1 (i : Int) = res := by
    intro m
    induction m with
    | zero => intro i left1 h1 h2 h3; exact absurd h2 (by omega)
    | succ m ih =>
      intro i left1 h1 h2 h3
      rcases Nat.lt_or_ge i cnt with hlt | hge
      · exact hs _ i left1 hlt h3 (fun left1' h4 => ih (i + 1) left1' (by omega) (by omega) h4)
      · obtain rfl : i = cnt := by omega
        exact he _ left1 h3
  exact key big i0 left1 hi (by have := big_ge; omega) h0
theorem zz3_h3 {a0 : Y4} (cnt : Nat) (Inv : Nat → Y4 → Prop) {res : Option (Y4 × Unit)} (hn : cnt ≤ 500000000000)
  (hs : ∀ (rc : Y4 → Y4 → Int → Option (Y4 × Unit)) (i : Nat) (out3 : Y4), i < cnt → Inv i out3 → (∀ (out3' : Y4), Inv (i + 1) out3' → rc a0 out3' ((i + 1 : Nat) : Int) = res) → zz3_b3 rc zz3_a3 a0 out3 (i : Int) = res)
  (he : ∀ (rc : Y4 → Y4 → Int → Option (Y4 × Unit)) (out3 : Y4), Inv cnt out3 → zz3_b3 rc zz3_a3 a0 out3 (cnt : Int) = res)
  (i0 : Nat) (hi : i0 ≤ cnt) (out3 : Y4) (h0 : Inv i0 out3) : zz3_F3 big a0 out3 (i0 : Int) = res := by
  have key : ∀ (m i : Nat) (out3 : Y4), i ≤ cnt → cnt < m + i → Inv i out3 → zz3_l3 big zz3_a3 m a0 out3 (i : Int) = res := by
    intro m
    induction m with
    | zero => intro i out3 h1 h2 h3; exact absurd h2 (by omega)
    | succ m ih =>
      intro i out3 h1 h2 h3
      rcases Nat.lt_or_ge i cnt with hlt | hge
      · exact hs _ i out3 hlt h3 (fun out3' h4 => ih (i + 1) out3' (by omega) (by omega) h4)
      · obtain rfl : i = cnt := by omega
        exact he _ out3 h3
  exact key big i0 out3 hi (by have := big_ge; omega) h0
theorem zz4_h3 {a0 : Y3} (cnt : Nat) (Inv : Nat → Y3 → Prop) {res : Option Y2} (hn : cnt ≤ 500000000000)
  (hs : ∀ (rc : Y3 → Y3 → Int → Option Y2) (i : Nat) (out3 : Y3), i < cnt → Inv i out3 → (∀ (out3' : Y3), Inv (i + 1) out3' → rc a0 out3' ((i + 1 : Nat) : Int) = res) → zz4_b3 rc zz4_a3 a0 out3 (i : Int) = res)
  (he : ∀ (rc : Y3 → Y3 → Int → Option Y2) (out3 : Y3), Inv cnt out3 → zz4_b3 rc zz4_a3 a0 out3 (cnt : Int) = res)
  (i0 : Nat) (hi : i0 ≤ cnt) (out3 : Y3) (h0 : Inv i0 out3) : zz4_F3 big a0 out3 (i0 : Int) = res := by
  have key : ∀ (m i : Nat) (out3 : Y3), i ≤ cnt → cnt < m + i → Inv i out3 → zz4_l3 big zz4_a3 m a0 out3 (i : Int) = res := by
    intro m
    induction m with
    | zero => intro i out3 h1 h2 h3; exact absurd h2 (by omega)
    | succ m ih =>
      intro i out3 h1 h2 h3
      rcases Nat.lt_or_ge i cnt with hlt | hge
      · exact hs _ i out3 hlt h3 (fun out3' h4 => ih (i + 1) out3' (by omega) (by omega) h4)
      · obtain rfl : i = cnt := by omega
        exact he _ out3 h3
  exact key big i0 out3 hi (by have := big_ge; omega) h0
theorem zz7_h2 {l0 : Y4} {lo1 : Int} {hi2 : Int} (cnt : Nat) (Inv : Nat → Prop) {res : Option (Bool × Unit)} (hn : cnt ≤ 500000000000)
  (hs : ∀ (rc : Y4 → Int → Int → Int → Option (Bool × Unit)) (i : Nat), i < cnt → Inv i → (Inv (i + 1) → rc l0 lo1 hi2 ((i + 1 : Nat) : Int) = res) → zz7_b2 rc zz7_a2 l0 lo1 hi2 (i : Int) = res)
  (he : ∀ (rc : Y4 → Int → Int → Int → Option (Bool × Unit)), Inv cnt → zz7_b2 rc zz7_a2 l0 lo1 hi2 (cnt : Int) = res)
  (i0 : Nat) (hi : i0 ≤ cnt) (h0 : Inv i0) : zz7_F2 big l0 lo1 hi2 (i0 : Int) = res := by
  have key : ∀ (m i : Nat), i ≤ cnt → cnt < m + i → Inv i → zz7_l2 big zz7_a2 m l0 lo1 hi2 (i : Int) = res := by
    intro m
    induction m with
    | zero => intro i h1 h2 h3; exact absurd h2 (by omega)
    | succ m ih =>
      intro i h1 h2 h3
      rcases Nat.lt_or_ge i cnt with hlt | hge
      · exact hs _ i hlt h3 (fun h4 => ih (i + 1) (by omega) (by omega) h4)
      · obtain rfl : i = cnt := by omega
        exact he _ h3
  exact key big i0 hi (by have := big_ge; omega) h0
theorem zz8_h2 {l0 : Y4} {n1 : Int} (cnt : Nat) (Inv : Nat → Prop) {res : Option (Bool × Unit)} (hn : cnt ≤ 500000000000)
  (hs : ∀ (rc : Y4 → Int → Int → Option (Bool × Unit)) (i : Nat), i < cnt → Inv i → (Inv (i + 1) → rc l0 n1 ((i + 1 : Nat) : Int) = res) → zz8_b2 rc zz8_a2 l0 n1 (i : Int) = res)
  (he : ∀ (rc : Y4 → Int → Int → Option (Bool × Unit)), Inv cnt → zz8_b2 rc zz8_a2 l0 n1 (cnt : Int) = res)
  (i0 : Nat) (hi : i0 ≤ cnt) (h0 : Inv i0) : zz8_F2 big l0 n1 (i0 : Int) = res := by
  have key : ∀ (m i : Nat), i ≤ cnt → cnt < m + i → Inv i → zz8_l2 big zz8_a2 m l0 n1 (i : Int) = res := by
    intro m
    induction m with
    | zero => intro i h1 h2 h3; exact absurd h2 (by omega)
    | succ m ih =>
      intro i h1 h2 h3
      rcases Nat.lt_or_ge i cnt with hlt | hge
      · exact hs _ i hlt h3 (fun h4 => ih (i + 1) (by omega) (by omega) h4)
      · obtain rfl : i = cnt := by omega
        exact he _ h3
  exact key big i0 hi (by have := big_ge; omega) h0
theorem zz9_h2 {x0 : Y4} {y1 : Y4} (cnt : Nat) (Inv : Nat → Prop) {res : Option (Bool × Unit)} (hn : cnt ≤ 500000000000)
  (hs : ∀ (rc : Y4 → Y4 → Int → Option (Bool × Unit)) (i : Nat), i < cnt → Inv i → (Inv (i + 1) → rc x0 y1 ((i + 1 : Nat) : Int) = res) → zz9_b2 rc zz9_a2 x0 y1 (i : Int) = res)
  (he : ∀ (rc : Y4 → Y4 → Int → Option (Bool × Unit)), Inv cnt → zz9_b2 rc zz9_a2 x0 y1 (cnt : Int) = res)
  (i0 : Nat) (hi : i0 ≤ cnt) (h0 : Inv i0) : zz9_F2 big x0 y1 (i0 : Int) = res := by
  have key : ∀ (m i : Nat), i ≤ cnt → cnt < m + i → Inv i → zz9_l2 big zz9_a2 m x0 y1 (i : Int) = res := by
    intro m
    induction m with
    | zero => intro i h1 h2 h3; exact absurd h2 (by omega)
    | succ m ih =>
      intro i h1 h2 h3
      rcases Nat.lt_or_ge i cnt with hlt | hge
      · exact hs _ i hlt h3 (fun h4 => ih (i + 1) (by omega) (by omega) h4)
      · obtain rfl : i = cnt := by omega
        exact he _ h3
  exact key big i0 hi (by have := big_ge; omega) h0
theorem zz10_h5 {p1 : Y2} {n3 : Int} (cnt : Nat) (Inv : Nat → Prop) {res : Option (Bool × Unit)} (hn : cnt ≤ 500000000000)
  (hs : ∀ (rc : Y2 → Int → Int → Option (Bool × Unit)) (i : Nat), i < cnt → Inv i → (Inv (i + 1) → rc p1 n3 ((i + 1 : Nat) : Int) = res) → zz10_b5 rc (zz10_a5 (zz10_F10 big)) p1 n3 (i : Int) = res)
  (he : ∀ (rc : Y2 → Int → Int → Option (Bool × Unit)), Inv cnt → zz10_b5 rc (zz10_a5 (zz10_F10 big)) p1 n3 (cnt : Int) = res)
  (i0 : Nat) (hi : i0 ≤ cnt) (h0 : Inv i0) : zz10_F5 big p1 n3 (i0 : Int) = res := by
  have key : ∀ (m i : Nat), i ≤ cnt → cnt < m + i → Inv i → zz10_l5 big (zz10_a5 (zz10_F10 big)) m p1 n3 (i : Int) = res := by
    intro m
    induction m with
    | zero => intro i h1 h2 h3; exact absurd h2 (by omega)
    | succ m ih =>
      intro i h1 h2 h3
      rcases Nat.lt_or_ge i cnt with hlt | hge
      · exact hs _ i hlt h3 (fun h4 => ih (i + 1) (by omega) (by omega) h4)
      · obtain rfl : i = cnt := by omega
        exact he _ h3
  exact key big i0 hi (by have := big_ge; omega) h0
theorem zz10_h10 {p1 : Y2} {n3 : Int} (cnt : Nat) (Inv : Nat → Prop) {res : Option (Bool × Unit)} (hn : cnt ≤ 500000000000)
  (hs : ∀ (rc : Y2 → Int → Int → Option (Bool × Unit)) (i : Nat), i < cnt → Inv i → (Inv (i + 1) → rc p1 n3 ((i + 1 : Nat) : Int) = res) → zz10_b10 (zz10_F13 big rc zz10_a10) zz10_a10 p1 n3 (i : Int) = res)
  (he : ∀ (rc : Y2 → Int → Int → Option (Bool × Unit)), Inv cnt → zz10_b10 (zz10_F13 big rc zz10_a10) zz10_a10 p1 n3 (cnt : Int) = res)
  (i0 : Nat) (hi : i0 ≤ cnt) (h0 : Inv i0) : zz10_F10 big p1 n3 (i0 : Int) = res := by
  have key : ∀ (m i : Nat), i ≤ cnt → cnt < m + i → Inv i → zz10_l10 big zz10_a10 m p1 n3 (i : Int) = res := by
    intro m
    induction m with
    | zero => intro i h1 h2 h3; exact absurd h2 (by omega)
    | succ m ih =>
      intro i h1 h2 h3
      rcases Nat.lt_or_ge i cnt with hlt | hge
      · exact hs _ i hlt h3 (fun h4 => ih (i + 1) (by omega) (by omega) h4)
      · obtain rfl : i = cnt := by omega
        exact he _ h3
  exact key big i0 hi (by have := big_ge; omega) h0
theorem zz10_h13 {rec : Y2 → Int → Int → Option (Bool × Unit)} {k : Option (Bool × Unit)} {p1 : Y2} {n3 : Int} {x5 : Int} (cnt : Nat) (Inv : Nat → Prop) {res : Option (Bool × Unit)} (hn : cnt ≤ 500000000000)
  (hs : ∀ (rc : Y2 → Int → Int → Int → Option (Bool × Unit)) (i : Nat), i < cnt → Inv i → (Inv (i + 1) → rc p1 n3 x5 ((i + 1 : Nat) : Int) = res) → zz10_b13 rc (zz10_a13 rec) p1 n3 x5 (i : Int) = res)
  (he : ∀ (rc : Y2 → Int → Int → Int → Option (Bool × Unit)), Inv cnt → zz10_b13 rc (zz10_a13 rec) p1 n3 x5 (cnt : Int) = res)
  (i0 : Nat) (hi : i0 ≤ cnt) (h0 : Inv i0) : zz10_F13 big rec k p1 n3 x5 (i0 : Int) = res := by
  have key : ∀ (m i : Nat), i ≤ cnt → cnt < m + i → Inv i → zz10_l13 big (zz10_a13 rec) m p1 n3 x5 (i : Int) = res := by
    intro m
    induction m with
    | zero => intro i h1 h2 h3; exact absurd h2 (by omega)
    | succ m ih =>
      intro i h1 h2 h3
      rcases Nat.lt_or_ge i cnt with hlt | hge
      · exact hs _ i hlt h3 (fun h4 => ih (i + 1) (by omega) (by omega) h4)
      · obtain rfl : i = cnt := by omega
        exact he _ h3
  exact key big i0 hi (by have := big_ge; omega) h0
theorem zz12_h3 {p1 : Y2} {t2 : Y2} (cnt : Nat) (Inv : Nat → Y2 → Prop) {res : Option (Y2 × Unit)} (hn : cnt ≤ 500000000000)
  (hs : ∀ (rc : Y2 → Y2 → Y2 → Int → Option (Y2 × Unit)) (i : Nat) (out3 : Y2), i < cnt → Inv i out3 → (∀ (out3' : Y2), Inv (i + 1) out3' → rc p1 t2 out3' ((i + 1 : Nat) : Int) = res) → zz12_b3 (zz12_F7 big rc zz12_a3) zz12_a3 p1 t2 out3 (i : Int) = res)
  (he : ∀ (rc : Y2 → Y2 → Y2 → Int → Option (Y2 × Unit)) (out3 : Y2), Inv cnt out3 → zz12_b3 (zz12_F7 big rc zz12_a3) zz12_a3 p1 t2 out3 (cnt : Int) = res)
  (i0 : Nat) (hi : i0 ≤ cnt) (out3 : Y2) (h0 : Inv i0 out3) : zz12_F3 big p1 t2 out3 (i0 : Int) = res := by
  have key : ∀ (m i : Nat) (out3 : Y2), i ≤ cnt → cnt < m + i → Inv i out3 → zz12_l3 big zz12_a3 m p1 t2 out3 (i : Int) = res := by
    intro m
    induction m with
    | zero => intro i out3 h1 h2 h3; exact absurd h2 (by omega)
    | succ m ih =>
      intro i out3 h1 h2 h3
      rcases Nat.lt_or_ge i cnt with hlt | hge
      · exact hs _ i out3 hlt h3 (fun out3' h4 => ih (i + 1) out3' (by omega) (by omega) h4)
      · obtain rfl : i = cnt := by omega
        exact he _ out3 h3
  exact key big i0 out3 hi (by have := big_ge; omega) h0
theorem zz12_h7 {rec : Y2 → Y2 → Y2 → Int → Option (Y2 × Unit)} {k : Y2 → Y2 → Option (Y2 × Unit)} {p1 : Y2} {t2 : Y2} {out3 : Y2} {x4 : Int} (cnt : Nat) (Inv : Nat → Y4 → Prop) {res : Option (Y2 × Unit)} (hn : cnt ≤ 500000000000)
  (hs : ∀ (rc : Y2 → Y2 → Y2 → Int → Y4 → Int → Option (Y2 × Unit)) (i : Nat) (below5 : Y4), i < cnt → Inv i below5 → (∀ (below5' : Y4), Inv (i + 1) below5' → rc p1 t2 out3 x4 below5' ((i + 1 : Nat) : Int) = res) → zz12_b7 rc (zz12_a7 rec) p1 t2 out3 x4 below5 (i : Int) = res)
  (he : ∀ (rc : Y2 → Y2 → Y2 → Int → Y4 → Int → Option (Y2 × Unit)) (below5 : Y4), Inv cnt below5 → zz12_b7 rc (zz12_a7 rec) p1 t2 out3 x4 below5 (cnt : Int) = res)
  (i0 : Nat) (hi : i0 ≤ cnt) (below5 : Y4) (h0 : Inv i0 below5) : zz12_F7 big rec k p1 t2 out3 x4 below5 (i0 : Int) = res := by
  have key : ∀ (m i : Nat) (below5 : Y4), i ≤ cnt → cnt < m + i → Inv i below5 → zz12_l7 big (zz12_a7 rec) m p1 t2 out3 x4 below5 (i : Int) = res := by
    intro m
    induction m with
    | zero => intro i below5 h1 h2 h3; exact absurd h2 (by omega)
    | succ m ih =>
      intro i below5 h1 h2 h3
      rcases Nat.lt_or_ge i cnt with hlt | hge
      · exact hs _ i below5 hlt h3 (fun below5' h4 => ih (i + 1) below5' (by omega) (by omega) h4)
      · obtain rfl : i = cnt := by omega
        exact he _ below5 h3
  exact key big i0 below5 hi (by have := big_ge; omega) h0
theorem zz13_h3 {some1 : Y4} {p2 : Y2} (cnt : Nat) (Inv : Nat → Y4 → Prop) {res : Option (Int × Unit)} (hn : cnt ≤ 500000000000)
  (hs : ∀ (rc : Y4 → Y2 → Y4 → Int → Option (Int × Unit)) (i : Nat) (low5 : Y4), i < cnt → Inv i low5 → (∀ (low5' : Y4), Inv (i + 1) low5' → rc some1 p2 low5' ((i + 1 : Nat) : Int) = res) → zz13_b3 (zz13_F7 big rc (zz13_a3 (zz13_F13 big))) (zz13_a3 (zz13_F13 big)) some1 p2 low5 (i : Int) = res)
  (he : ∀ (rc : Y4 → Y2 → Y4 → Int → Option (Int × Unit)) (low5 : Y4), Inv cnt low5 → zz13_b3 (zz13_F7 big rc (zz13_a3 (zz13_F13 big))) (zz13_a3 (zz13_F13 big)) some1 p2 low5 (cnt : Int) = res)
  (i0 : Nat) (hi : i0 ≤ cnt) (low5 : Y4) (h0 : Inv i0 low5) : zz13_F3 big some1 p2 low5 (i0 : Int) = res := by
  have key : ∀ (m i : Nat) (low5 : Y4), i ≤ cnt → cnt < m + i → Inv i low5 → zz13_l3 big (zz13_a3 (zz13_F13 big)) m some1 p2 low5 (i : Int) = res := by
    intro m
    induction m with
    | zero => intro i low5 h1 h2 h3; exact absurd h2 (by omega)
    | succ m ih =>
      intro i low5 h1 h2 h3
      rcases Nat.lt_or_ge i cnt with hlt | hge
      · exact hs _ i low5 hlt h3 (fun low5' h4 => ih (i + 1) low5' (by omega) (by omega) h4)
      · obtain rfl : i = cnt := by omega
        exact he _ low5 h3
  exact key big i0 low5 hi (by have := big_ge; omega) h0
theorem zz13_h7 {rec : Y4 → Y2 → Y4 → Int → Option (Int × Unit)} {k : Y2 → Y4 → Option (Int × Unit)} {some1 : Y4} {p2 : Y2} {low5 : Y4} {z6 : Int} (cnt : Nat) (Inv : Nat → Bool → Prop) {res : Option (Int × Unit)} (hn : cnt ≤ 500000000000)
  (hs : ∀ (rc : Y4 → Y2 → Y4 → Int → Bool → Int → Option (Int × Unit)) (i : Nat) (all7 : Bool), i < cnt → Inv i all7 → (∀ (all7' : Bool), Inv (i + 1) all7' → rc some1 p2 low5 z6 all7' ((i + 1 : Nat) : Int) = res) → zz13_b7 rc (zz13_a7 rec) some1 p2 low5 z6 all7 (i : Int) = res)
  (he : ∀ (rc : Y4 → Y2 → Y4 → Int → Bool → Int → Option (Int × Unit)) (all7 : Bool), Inv cnt all7 → zz13_b7 rc (zz13_a7 rec) some1 p2 low5 z6 all7 (cnt : Int) = res)
  (i0 : Nat) (hi : i0 ≤ cnt) (all7 : Bool) (h0 : Inv i0 all7) : zz13_F7 big rec k some1 p2 low5 z6 all7 (i0 : Int) = res := by
  have key : ∀ (m i : Nat) (all7 : Bool), i ≤ cnt → cnt < m + i → Inv i all7 → zz13_l7 big (zz13_a7 rec) m some1 p2 low5 z6 all7 (i : Int) = res := by
    intro m
    induction m with
    | zero => intro i all7 h1 h2 h3; exact absurd h2 (by omega)
    | succ m ih =>
      intro i all7 h1 h2 h3
      rcases Nat.lt_or_ge i cnt with hlt | hge
      · exact hs _ i all7 hlt h3 (fun all7' h4 => ih (i + 1) all7' (by omega) (by omega) h4)
      · obtain rfl : i = cnt := by omega
        exact he _ all7 h3
  exact key big i0 all7 hi (by have := big_ge; omega) h0
theorem zz13_h13 {p2 : Y2} {low5 : Y4} (cnt : Nat) (Inv : Nat → Prop) {res : Option (Int × Unit)} (hn : cnt ≤ 500000000000)
  (hs : ∀ (rc : Y2 → Y4 → Int → Option (Int × Unit)) (i : Nat), i < cnt → Inv i → (Inv (i + 1) → rc p2 low5 ((i + 1 : Nat) : Int) = res) → zz13_b13 rc zz13_a13 p2 low5 (i : Int) = res)
  (he : ∀ (rc : Y2 → Y4 → Int → Option (Int × Unit)), Inv cnt → zz13_b13 rc zz13_a13 p2 low5 (cnt : Int) = res)
  (i0 : Nat) (hi : i0 ≤ cnt) (h0 : Inv i0) : zz13_F13 big p2 low5 (i0 : Int) = res := by
  have key : ∀ (m i : Nat), i ≤ cnt → cnt < m + i → Inv i → zz13_l13 big zz13_a13 m p2 low5 (i : Int) = res := by
    intro m
    induction m with
    | zero => intro i h1 h2 h3; exact absurd h2 (by omega)
    | succ m ih =>
      intro i h1 h2 h3
      rcases Nat.lt_or_ge i cnt with hlt | hge
      · exact hs _ i hlt h3 (fun h4 => ih (i + 1) (by omega) (by omega) h4)
      · obtain rfl : i = cnt := by omega
        exact he _ h3
  exact key big i0 hi (by have := big_ge; omega) h0
theorem zz14_h5 {p1 : Y2} {dual3 : Y2} (cnt : Nat) (Inv : Nat → Prop) {res : Option (Bool × Unit)} (hn : cnt ≤ 500000000000)
  (hs : ∀ (rc : Y2 → Y2 → Int → Option (Bool × Unit)) (i : Nat), i < cnt → Inv i → (Inv (i + 1) → rc p1 dual3 ((i + 1 : Nat) : Int) = res) → zz14_b5 (zz14_F8 big rc zz14_a5) zz14_a5 p1 dual3 (i : Int) = res)
  (he : ∀ (rc : Y2 → Y2 → Int → Option (Bool × Unit)), Inv cnt → zz14_b5 (zz14_F8 big rc zz14_a5) zz14_a5 p1 dual3 (cnt : Int) = res)
  (i0 : Nat) (hi : i0 ≤ cnt) (h0 : Inv i0) : zz14_F5 big p1 dual3 (i0 : Int) = res := by
  have key : ∀ (m i : Nat), i ≤ cnt → cnt < m + i → Inv i → zz14_l5 big zz14_a5 m p1 dual3 (i : Int) = res := by
    intro m
    induction m with
    | zero => intro i h1 h2 h3; exact absurd h2 (by omega)
    | succ m ih =>
      intro i h1 h2 h3
      rcases Nat.lt_or_ge i cnt with hlt | hge
      · exact hs _ i hlt h3 (fun h4 => ih (i + 1) (by omega) (by omega) h4)
      · obtain rfl : i = cnt := by omega
        exact he _ h3
  exact key big i0 hi (by have := big_ge; omega) h0
theorem zz14_h8 {rec : Y2 → Y2 → Int → Option (Bool × Unit)} {k : Option (Bool × Unit)} {p1 : Y2} {dual3 : Y2} {x4 : Int} (cnt : Nat) (Inv : Nat → Prop) {res : Option (Bool × Unit)} (hn : cnt ≤ 500000000000)
  (hs : ∀ (rc : Y2 → Y2 → Int → Int → Option (Bool × Unit)) (i : Nat), i < cnt → Inv i → (Inv (i + 1) → rc p1 dual3 x4 ((i + 1 : Nat) : Int) = res) → zz14_b8 rc (zz14_a8 rec) p1 dual3 x4 (i : Int) = res)
  (he : ∀ (rc : Y2 → Y2 → Int → Int → Option (Bool × Unit)), Inv cnt → zz14_b8 rc (zz14_a8 rec) p1 dual3 x4 (cnt : Int) = res)
  (i0 : Nat) (hi : i0 ≤ cnt) (h0 : Inv i0) : zz14_F8 big rec k p1 dual3 x4 (i0 : Int) = res := by
  have key : ∀ (m i : Nat), i ≤ cnt → cnt < m + i → Inv i → zz14_l8 big (zz14_a8 rec) m p1 dual3 x4 (i : Int) = res := by
    intro m
    induction m with
    | zero => intro i h1 h2 h3; exact absurd h2 (by omega)
    | succ m ih =>
      intro i h1 h2 h3
      rcases Nat.lt_or_ge i cnt with hlt | hge
      · exact hs _ i hlt h3 (fun h4 => ih (i + 1) (by omega) (by omega) h4)
      · obtain rfl : i = cnt := by omega
        exact he _ h3
  exact key big i0 hi (by have := big_ge; omega) h0
theorem zz17_h3 {p1 : Y2} {n4 : Int} (cnt : Nat) (Inv : Nat → Prop) {res : Option ((Y4 × (Bool × Unit)) × Unit)} (hn : cnt ≤ 500000000000)
  (hs : ∀ (rc : Y2 → Int → Int → Option ((Y4 × (Bool × Unit)) × Unit)) (i : Nat), i < cnt → Inv i → (Inv (i + 1) → rc p1 n4 ((i + 1 : Nat) : Int) = res) → zz17_b3 (zz17_F6 big rc zz17_a3) zz17_a3 p1 n4 (i : Int) = res)
  (he : ∀ (rc : Y2 → Int → Int → Option ((Y4 × (Bool × Unit)) × Unit)), Inv cnt → zz17_b3 (zz17_F6 big rc zz17_a3) zz17_a3 p1 n4 (cnt : Int) = res)
  (i0 : Nat) (hi : i0 ≤ cnt) (h0 : Inv i0) : zz17_F3 big p1 n4 (i0 : Int) = res := by
  have key : ∀ (m i : Nat), i ≤ cnt → cnt < m + i → Inv i → zz17_l3 big zz17_a3 m p1 n4 (i : Int) = res := by
    intro m
    induction m with
    | zero => intro i h1 h2 h3; exact absurd h2 (by omega)
    | succ m ih =>
      intro i h1 h2 h3
      rcases Nat.lt_or_ge i cnt with hlt | hge
      · exact hs _ i hlt h3 (fun h4 => ih (i + 1) (by omega) (by omega) h4)
      · obtain rfl : i = cnt := by omega
        exact he _ h3
  exact key big i0 hi (by have := big_ge; omega) h0
theorem zz17_q3 {p1 : Y2} {n4 : Int} (cnt : Nat) (Inv : Nat → Prop) {Q : Option ((Y4 × (Bool × Unit)) × Unit) → Prop} (hn : cnt ≤ 500000000000)
  (hs : ∀ (rc : Y2 → Int → Int → Option ((Y4 × (Bool × Unit)) × Unit)) (i : Nat), i < cnt → Inv i → (Inv (i + 1) → Q (rc p1 n4 ((i + 1 : Nat) : Int))) → Q (zz17_b3 (zz17_F6 big rc zz17_a3) zz17_a3 p1 n4 (i : Int)))
  (he : ∀ (rc : Y2 → Int → Int → Option ((Y4 × (Bool × Unit)) × Unit)), Inv cnt → Q (zz17_b3 (zz17_F6 big rc zz17_a3) zz17_a3 p1 n4 (cnt : Int)))
  (i0 : Nat) (hi : i0 ≤ cnt) (h0 : Inv i0) : Q (zz17_F3 big p1 n4 (i0 : Int)) := by
  have key : ∀ (m i : Nat), i ≤ cnt → cnt < m + i → Inv i → Q (zz17_l3 big zz17_a3 m p1 n4 (i : Int)) := by
    intro m
    induction m with
    | zero => intro i h1 h2 h3; exact absurd h2 (by omega)
    | succ m ih =>
      intro i h1 h2 h3
      rcases Nat.lt_or_ge i cnt with hlt | hge
      · exact hs _ i hlt h3 (fun h4 => ih (i + 1) (by omega) (by omega) h4)
      · obtain rfl : i = cnt := by omega
        exact he _ h3
  exact key big i0 hi (by have := big_ge; omega) h0
theorem zz17_h6 {rec : Y2 → Int → Int → Option ((Y4 × (Bool × Unit)) × Unit)} {k : Option ((Y4 × (Bool × Unit)) × Unit)} {p1 : Y2} {n4 : Int} {x5 : Int} (cnt : Nat) (Inv : Nat → Prop) {res : Option ((Y4 × (Bool × Unit)) × Unit)} (hn : cnt ≤ 500000000000)
  (hs : ∀ (rc : Y2 → Int → Int → Int → Option ((Y4 × (Bool × Unit)) × Unit)) (i : Nat), i < cnt → Inv i → (Inv (i + 1) → rc p1 n4 x5 ((i + 1 : Nat) : Int) = res) → zz17_b6 (zz17_F9 big rc (zz17_a6 rec)) (zz17_a6 rec) p1 n4 x5 (i : Int) = res)
  (he : ∀ (rc : Y2 → Int → Int → Int → Option ((Y4 × (Bool × Unit)) × Unit)), Inv cnt → zz17_b6 (zz17_F9 big rc (zz17_a6 rec)) (zz17_a6 rec) p1 n4 x5 (cnt : Int) = res)
  (i0 : Nat) (hi : i0 ≤ cnt) (h0 : Inv i0) : zz17_F6 big rec k p1 n4 x5 (i0 : Int) = res := by
  have key : ∀ (m i : Nat), i ≤ cnt → cnt < m + i → Inv i → zz17_l6 big (zz17_a6 rec) m p1 n4 x5 (i : Int) = res := by
    intro m
    induction m with
    | zero => intro i h1 h2 h3; exact absurd h2 (by omega)
    | succ m ih =>
      intro i h1 h2 h3
      rcases Nat.lt_or_ge i cnt with hlt | hge
      · exact hs _ i hlt h3 (fun h4 => ih (i + 1) (by omega) (by omega) h4)
      · obtain rfl : i = cnt := by omega
        exact he _ h3
  exact key big i0 hi (by have := big_ge; omega) h0
theorem zz17_q6 {rec : Y2 → Int → Int → Option ((Y4 × (Bool × Unit)) × Unit)} {k : Option ((Y4 × (Bool × Unit)) × Unit)} {p1 : Y2} {n4 : Int} {x5 : Int} (cnt : Nat) (Inv : Nat → Prop) {Q : Option ((Y4 × (Bool × Unit)) × Unit) → Prop} (hn : cnt ≤ 500000000000)
  (hs : ∀ (rc : Y2 → Int → Int → Int → Option ((Y4 × (Bool × Unit)) × Unit)) (i : Nat), i < cnt → Inv i → (Inv (i + 1) → Q (rc p1 n4 x5 ((i + 1 : Nat) : Int))) → Q (zz17_b6 (zz17_F9 big rc (zz17_a6 rec)) (zz17_a6 rec) p1 n4 x5 (i : Int)))
  (he : ∀ (rc : Y2 → Int → Int → Int → Option ((Y4 × (Bool × Unit)) × Unit)), Inv cnt → Q (zz17_b6 (zz17_F9 big rc (zz17_a6 rec)) (zz17_a6 rec) p1 n4 x5 (cnt : Int)))
  (i0 : Nat) (hi : i0 ≤ cnt) (h0 : Inv i0) : Q (zz17_F6 big rec k p1 n4 x5 (i0 : Int)) := by
  have key : ∀ (m i : Nat), i ≤ cnt → cnt < m + i → Inv i → Q (zz17_l6 big (zz17_a6 rec) m p1 n4 x5 (i : Int)) := by
    intro m
    induction m with
    | zero => intro i h1 h2 h3; exact absurd h2 (by omega)
    | succ m ih =>
      intro i h1 h2 h3
      rcases Nat.lt_or_ge i cnt with hlt | hge
      · exact hs _ i hlt h3 (fun h4 => ih (i + 1) (by omega) (by omega) h4)
      · obtain rfl : i = cnt := by omega
        exact he _ h3
  exact key big i0 hi (by have := big_ge; omega) h0
theorem zz17_h9 {rec : Y2 → Int → Int → Int → Option ((Y4 × (Bool × Unit)) × Unit)} {k : Y2 → Int → Int → Option ((Y4 × (Bool × Unit)) × Unit)} {p1 : Y2} {n4 : Int} {x5 : Int} {y6 : Int} (cnt : Nat) (Inv : Nat → Prop) {res : Option ((Y4 × (Bool × Unit)) × Unit)} (hn : cnt ≤ 500000000000)
  (hs : ∀ (rc : Y2 → Int → Int → Int → Int → Option ((Y4 × (Bool × Unit)) × Unit)) (i : Nat), i < cnt → Inv i → (Inv (i + 1) → rc p1 n4 x5 y6 ((i + 1 : Nat) : Int) = res) → zz17_b9 rc (zz17_a9 rec) p1 n4 x5 y6 (i : Int) = res)
  (he : ∀ (rc : Y2 → Int → Int → Int → Int → Option ((Y4 × (Bool × Unit)) × Unit)), Inv cnt → zz17_b9 rc (zz17_a9 rec) p1 n4 x5 y6 (cnt : Int) = res)
  (i0 : Nat) (hi : i0 ≤ cnt) (h0 : Inv i0) : zz17_F9 big rec k p1 n4 x5 y6 (i0 : Int) = res := by
  have key : ∀ (m i : Nat), i ≤ cnt → cnt < m + i → Inv i → zz17_l9 big (zz17_a9 rec) m p1 n4 x5 y6 (i : Int) = res := by
    intro m
    induction m with
    | zero => intro i h1 h2 h3; exact absurd h2 (by omega)
    | succ m ih =>
      intro i h1 h2 h3
      rcases Nat.lt_or_ge i cnt with hlt | hge
      · exact hs _ i hlt h3 (fun h4 => ih (i + 1) (by omega) (by omega) h4)
      · obtain rfl : i = cnt := by omega
        exact he _ h3
  exact key big i0 hi (by have := big_ge; omega) h0
theorem zz17_q9 {rec : Y2 → Int → Int → Int → Option ((Y4 × (Bool × Unit)) × Unit)} {k : Y2 → Int → Int → Option ((Y4 × (Bool × Unit)) × Unit)} {p1 : Y2} {n4 : Int} {x5 : Int} {y6 : Int} (cnt : Nat) (Inv : Nat → Prop) {Q : Option ((Y4 × (Bool × Unit)) × Unit) → Prop} (hn : cnt ≤ 500000000000)
  (hs : ∀ (rc : Y2 → Int → Int → Int → Int → Option ((Y4 × (Bool × Unit)) × Unit)) (i : Nat), i < cnt → Inv i → (Inv (i + 1) → Q (rc p1 n4 x5 y6 ((i + 1 : Nat) : Int))) → Q (zz17_b9 rc (zz17_a9 rec) p1 n4 x5 y6 (i : Int)))
  (he : ∀ (rc : Y2 → Int → Int → Int → Int → Option ((Y4 × (Bool × Unit)) × Unit)), Inv cnt → Q (zz17_b9 rc (zz17_a9 rec) p1 n4 x5 y6 (cnt : Int)))
  (i0 : Nat) (hi : i0 ≤ cnt) (h0 : Inv i0) : Q (zz17_F9 big rec k p1 n4 x5 y6 (i0 : Int)) := by
  have key : ∀ (m i : Nat), i ≤ cnt → cnt < m + i → Inv i → Q (zz17_l9 big (zz17_a9 rec) m p1 n4 x5 y6 (i : Int)) := by
    intro m
    induction m with
    | zero => intro i h1 h2 h3; exact absurd h2 (by omega)
    | succ m ih =>
      intro i h1 h2 h3
      rcases Nat.lt_or_ge i cnt with hlt | hge
      · exact hs _ i hlt h3 (fun h4 => ih (i + 1) (by omega) (by omega) h4)
      · obtain rfl : i = cnt := by omega
        exact he _ h3
  exact key big i0 hi (by have := big_ge; omega) h0
theorem zz21_h3 {x1 : Int} {y2 : Int} {z3 : Int} {p4 : Y2} (cnt : Nat) (Inv : Nat → Y4 → Prop) {res : Option (Y4 × Unit)} (hn : cnt ≤ 500000000000)
  (hs : ∀ (rc : Int → Int → Int → Y2 → Y4 → Int → Option (Y4 × Unit)) (i : Nat) (out9 : Y4), i < cnt → Inv i out9 → (∀ (out9' : Y4), Inv (i + 1) out9' → rc x1 y2 z3 p4 out9' ((i + 1 : Nat) : Int) = res) → zz21_b3 rc zz21_a3 x1 y2 z3 p4 out9 (i : Int) = res)
  (he : ∀ (rc : Int → Int → Int → Y2 → Y4 → Int → Option (Y4 × Unit)) (out9 : Y4), Inv cnt out9 → zz21_b3 rc zz21_a3 x1 y2 z3 p4 out9 (cnt : Int) = res)
  (i0 : Nat) (hi : i0 ≤ cnt) (out9 : Y4) (h0 : Inv i0 out9) : zz21_F3 big x1 y2 z3 p4 out9 (i0 : Int) = res := by
  have key : ∀ (m i : Nat) (out9 : Y4), i ≤ cnt → cnt < m + i → Inv i out9 → zz21_l3 big zz21_a3 m x1 y2 z3 p4 out9 (i : Int) = res := by
    intro m
    induction m with
    | zero => intro i out9 h1 h2 h3; exact absurd h2 (by omega)
    | succ m ih =>
      intro i out9 h1 h2 h3
      rcases Nat.lt_or_ge i cnt with hlt | hge
      · exact hs _ i out9 hlt h3 (fun out9' h4 => ih (i + 1) out9' (by omega) (by omega) h4)
      · obtain rfl : i = cnt := by omega
        exact he _ out9 h3
  exact key big i0 out9 hi (by have := big_ge; omega) h0
theorem zz22_h3 {p1 : Y2} (cnt : Nat) (Inv : Nat → Y4 → Prop) {res : Option (Y4 × Unit)} (hn : cnt ≤ 500000000000)
  (hs : ∀ (rc : Y2 → Y4 → Int → Option (Y4 × Unit)) (i : Nat) (out3 : Y4), i < cnt → Inv i out3 → (∀ (out3' : Y4), Inv (i + 1) out3' → rc p1 out3' ((i + 1 : Nat) : Int) = res) → zz22_b3 rc zz22_a3 p1 out3 (i : Int) = res)
  (he : ∀ (rc : Y2 → Y4 → Int → Option (Y4 × Unit)) (out3 : Y4), Inv cnt out3 → zz22_b3 rc zz22_a3 p1 out3 (cnt : Int) = res)
  (i0 : Nat) (hi : i0 ≤ cnt) (out3 : Y4) (h0 : Inv i0 out3) : zz22_F3 big p1 out3 (i0 : Int) = res := by
  have key : ∀ (m i : Nat) (out3 : Y4), i ≤ cnt → cnt < m + i → Inv i out3 → zz22_l3 big zz22_a3 m p1 out3 (i : Int) = res := by
    intro m
    induction m with
    | zero => intro i out3 h1 h2 h3; exact absurd h2 (by omega)
    | succ m ih =>
      intro i out3 h1 h2 h3
      rcases Nat.lt_or_ge i cnt with hlt | hge
      · exact hs _ i out3 hlt h3 (fun out3' h4 => ih (i + 1) out3' (by omega) (by omega) h4)
      · obtain rfl : i = cnt := by omega
        exact he _ out3 h3
  exact key big i0 out3 hi (by have := big_ge; omega) h0
theorem zz25_h4 {x1 : Int} {y2 : Int} {p3 : Y2} (cnt : Nat) (Inv : Nat → Prop) {res : Option (Bool × Unit)} (hn : cnt ≤ 500000000000)
  (hs : ∀ (rc : Int → Int → Y2 → Int → Option (Bool × Unit)) (i : Nat), i < cnt → Inv i → (Inv (i + 1) → rc x1 y2 p3 ((i + 1 : Nat) : Int) = res) → zz25_b4 rc zz25_a4 x1 y2 p3 (i : Int) = res)
  (he : ∀ (rc : Int → Int → Y2 → Int → Option (Bool × Unit)), Inv cnt → zz25_b4 rc zz25_a4 x1 y2 p3 (cnt : Int) = res)
  (i0 : Nat) (hi : i0 ≤ cnt) (h0 : Inv i0) : zz25_F4 big x1 y2 p3 (i0 : Int) = res := by
  have key : ∀ (m i : Nat), i ≤ cnt → cnt < m + i → Inv i → zz25_l4 big zz25_a4 m x1 y2 p3 (i : Int) = res := by
    intro m
    induction m with
    | zero => intro i h1 h2 h3; exact absurd h2 (by omega)
    | succ m ih =>
      intro i h1 h2 h3
      rcases Nat.lt_or_ge i cnt with hlt | hge
      · exact hs _ i hlt h3 (fun h4 => ih (i + 1) (by omega) (by omega) h4)
      · obtain rfl : i = cnt := by omega
        exact he _ h3
  exact key big i0 hi (by have := big_ge; omega) h0
theorem zz26_h4 {p1 : Y2} {bottom4 : Int} (cnt : Nat) (Inv : Nat → Y4 → Prop) {res : Option (Y4 × Unit)} (hn : cnt ≤ 500000000000)
  (hs : ∀ (rc : Y2 → Y4 → Int → Int → Option (Y4 × Unit)) (i : Nat) (out3 : Y4), i < cnt → Inv i out3 → (∀ (out3' : Y4), Inv (i + 1) out3' → rc p1 out3' bottom4 ((i + 1 : Nat) : Int) = res) → zz26_b4 rc zz26_a4 p1 out3 bottom4 (i : Int) = res)
  (he : ∀ (rc : Y2 → Y4 → Int → Int → Option (Y4 × Unit)) (out3 : Y4), Inv cnt out3 → zz26_b4 rc zz26_a4 p1 out3 bottom4 (cnt : Int) = res)
  (i0 : Nat) (hi : i0 ≤ cnt) (out3 : Y4) (h0 : Inv i0 out3) : zz26_F4 big p1 out3 bottom4 (i0 : Int) = res := by
  have key : ∀ (m i : Nat) (out3 : Y4), i ≤ cnt → cnt < m + i → Inv i out3 → zz26_l4 big zz26_a4 m p1 out3 bottom4 (i : Int) = res := by
    intro m
    induction m with
    | zero => intro i out3 h1 h2 h3; exact absurd h2 (by omega)
    | succ m ih =>
      intro i out3 h1 h2 h3
      rcases Nat.lt_or_ge i cnt with hlt | hge
      · exact hs _ i out3 hlt h3 (fun out3' h4 => ih (i + 1) out3' (by omega) (by omega) h4)
      · obtain rfl : i = cnt := by omega
        exact he _ out3 h3
  exact key big i0 out3 hi (by have := big_ge; omega) h0
theorem zz27_h2 {n0 : Int} {list1 : Y4} (cnt : Nat) (Inv : Nat → Prop) {res : Option (Bool × Unit)} (hn : cnt ≤ 500000000000)
  (hs : ∀ (rc : Int → Y4 → Int → Option (Bool × Unit)) (i : Nat), i < cnt → Inv i → (Inv (i + 1) → rc n0 list1 ((i + 1 : Nat) : Int) = res) → zz27_b2 rc zz27_a2 n0 list1 (i : Int) = res)
  (he : ∀ (rc : Int → Y4 → Int → Option (Bool × Unit)), Inv cnt → zz27_b2 rc zz27_a2 n0 list1 (cnt : Int) = res)
  (i0 : Nat) (hi : i0 ≤ cnt) (h0 : Inv i0) : zz27_F2 big n0 list1 (i0 : Int) = res := by
  have key : ∀ (m i : Nat), i ≤ cnt → cnt < m + i → Inv i → zz27_l2 big zz27_a2 m n0 list1 (i : Int) = res := by
    intro m
    induction m with
    | zero => intro i h1 h2 h3; exact absurd h2 (by omega)
    | succ m ih =>
      intro i h1 h2 h3
      rcases Nat.lt_or_ge i cnt with hlt | hge
      · exact hs _ i hlt h3 (fun h4 => ih (i + 1) (by omega) (by omega) h4)
      · obtain rfl : i = cnt := by omega
        exact he _ h3
  exact key big i0 hi (by have := big_ge; omega) h0
theorem zz28_h8 {g2 : Y4} {p3 : Y2} {q4 : Y2} {from9 : Y4} {to10 : Y4} (cnt : Nat) (Inv : Nat → Y4 → Prop) {res : Option ((Y4 × (Bool × Unit)) × Unit)} (hn : cnt ≤ 500000000000)
  (hs : ∀ (rc : Y4 → Y2 → Y2 → Y4 → Y4 → Y4 → Int → Option ((Y4 × (Bool × Unit)) × Unit)) (i : Nat) (out8 : Y4), i < cnt → Inv i out8 → (∀ (out8' : Y4), Inv (i + 1) out8' → rc g2 p3 q4 out8' from9 to10 ((i + 1 : Nat) : Int) = res) → zz28_b8 (zz28_F12 big rc zz28_a8) zz28_a8 g2 p3 q4 out8 from9 to10 (i : Int) = res)
  (he : ∀ (rc : Y4 → Y2 → Y2 → Y4 → Y4 → Y4 → Int → Option ((Y4 × (Bool × Unit)) × Unit)) (out8 : Y4), Inv cnt out8 → zz28_b8 (zz28_F12 big rc zz28_a8) zz28_a8 g2 p3 q4 out8 from9 to10 (cnt : Int) = res)
  (i0 : Nat) (hi : i0 ≤ cnt) (out8 : Y4) (h0 : Inv i0 out8) : zz28_F8 big g2 p3 q4 out8 from9 to10 (i0 : Int) = res := by
  have key : ∀ (m i : Nat) (out8 : Y4), i ≤ cnt → cnt < m + i → Inv i out8 → zz28_l8 big zz28_a8 m g2 p3 q4 out8 from9 to10 (i : Int) = res := by
    intro m
    induction m with
    | zero => intro i out8 h1 h2 h3; exact absurd h2 (by omega)
    | succ m ih =>
      intro i out8 h1 h2 h3
      rcases Nat.lt_or_ge i cnt with hlt | hge
      · exact hs _ i out8 hlt h3 (fun out8' h4 => ih (i + 1) out8' (by omega) (by omega) h4)
      · obtain rfl : i = cnt := by omega
        exact he _ out8 h3
  exact key big i0 out8 hi (by have := big_ge; omega) h0
theorem zz28_h12 {rec : Y4 → Y2 → Y2 → Y4 → Y4 → Y4 → Int → Option ((Y4 × (Bool × Unit)) × Unit)} {k : Y4 → Option ((Y4 × (Bool × Unit)) × Unit)} {g2 : Y4} {p3 : Y2} {q4 : Y2} {out8 : Y4} {from9 : Y4} {to10 : Y4} {x11 : Int} (cnt : Nat) (Inv : Nat → Int → Prop) {res : Option ((Y4 × (Bool × Unit)) × Unit)} (hn : cnt ≤ 500000000000)
  (hs : ∀ (rc : Y4 → Y2 → Y2 → Y4 → Y4 → Y4 → Int → Int → Int → Option ((Y4 × (Bool × Unit)) × Unit)) (i : Nat) (join12 : Int), i < cnt → Inv i join12 → (∀ (join12' : Int), Inv (i + 1) join12' → rc g2 p3 q4 out8 from9 to10 x11 join12' ((i + 1 : Nat) : Int) = res) → zz28_b12 rc (zz28_a12 rec) g2 p3 q4 out8 from9 to10 x11 join12 (i : Int) = res)
  (he : ∀ (rc : Y4 → Y2 → Y2 → Y4 → Y4 → Y4 → Int → Int → Int → Option ((Y4 × (Bool × Unit)) × Unit)) (join12 : Int), Inv cnt join12 → zz28_b12 rc (zz28_a12 rec) g2 p3 q4 out8 from9 to10 x11 join12 (cnt : Int) = res)
  (i0 : Nat) (hi : i0 ≤ cnt) (join12 : Int) (h0 : Inv i0 join12) : zz28_F12 big rec k g2 p3 q4 out8 from9 to10 x11 join12 (i0 : Int) = res := by
  have key : ∀ (m i : Nat) (join12 : Int), i ≤ cnt → cnt < m + i → Inv i join12 → zz28_l12 big (zz28_a12 rec) m g2 p3 q4 out8 from9 to10 x11 join12 (i : Int) = res := by
    intro m
    induction m with
    | zero => intro i join12 h1 h2 h3; exact absurd h2 (by omega)
    | succ m ih =>
      intro i join12 h1 h2 h3
      rcases Nat.lt_or_ge i cnt with hlt | hge
      · exact hs _ i join12 hlt h3 (fun join12' h4 => ih (i + 1) join12' (by omega) (by omega) h4)
      · obtain rfl : i = cnt := by omega
        exact he _ join12 h3
  exact key big i0 join12 hi (by have := big_ge; omega) h0
theorem zz29_h3 {n0 : Int} {t8 : Int} (cnt : Nat) (Inv : Nat → Y5 → Prop) {res : Option (Y5 × Unit)} (hn : cnt ≤ 500000000000)
  (hs : ∀ (rc : Int → Y5 → Int → Int → Option (Y5 × Unit)) (i : Nat) (o3 : Y5), i < cnt → Inv i o3 → (∀ (o3' : Y5), Inv (i + 1) o3' → rc n0 o3' t8 ((i + 1 : Nat) : Int) = res) → zz29_b3 rc zz29_a3 n0 o3 t8 (i : Int) = res)
  (he : ∀ (rc : Int → Y5 → Int → Int → Option (Y5 × Unit)) (o3 : Y5), Inv cnt o3 → zz29_b3 rc zz29_a3 n0 o3 t8 (cnt : Int) = res)
  (i0 : Nat) (hi : i0 ≤ cnt) (o3 : Y5) (h0 : Inv i0 o3) : zz29_F3 big n0 o3 t8 (i0 : Int) = res := by
  have key : ∀ (m i : Nat) (o3 : Y5), i ≤ cnt → cnt < m + i → Inv i o3 → zz29_l3 big zz29_a3 m n0 o3 t8 (i : Int) = res := by
    intro m
    induction m with
    | zero => intro i o3 h1 h2 h3; exact absurd h2 (by omega)
    | succ m ih =>
      intro i o3 h1 h2 h3
      rcases Nat.lt_or_ge i cnt with hlt | hge
      · exact hs _ i o3 hlt h3 (fun o3' h4 => ih (i + 1) o3' (by omega) (by omega) h4)
      · obtain rfl : i = cnt := by omega
        exact he _ o3 h3
  exact key big i0 o3 hi (by have := big_ge; omega) h0
theorem zz30_h2 {list0 : Y4} (cnt : Nat) (Inv : Nat → Prop) {res : Option (Bool × Unit)} (hn : cnt ≤ 500000000000)
  (hs : ∀ (rc : Y4 → Int → Option (Bool × Unit)) (i : Nat), i < cnt → Inv i → (Inv (i + 1) → rc list0 ((i + 1 : Nat) : Int) = res) → zz30_b2 rc zz30_a2 list0 (i : Int) = res)
  (he : ∀ (rc : Y4 → Int → Option (Bool × Unit)), Inv cnt → zz30_b2 rc zz30_a2 list0 (cnt : Int) = res)
  (i0 : Nat) (hi : i0 ≤ cnt) (h0 : Inv i0) : zz30_F2 big list0 (i0 : Int) = res := by
  have key : ∀ (m i : Nat), i ≤ cnt → cnt < m + i → Inv i → zz30_l2 big zz30_a2 m list0 (i : Int) = res := by
    intro m
    induction m with
    | zero => intro i h1 h2 h3; exact absurd h2 (by omega)
    | succ m ih =>
      intro i h1 h2 h3
      rcases Nat.lt_or_ge i cnt with hlt | hge
      · exact hs _ i hlt h3 (fun h4 => ih (i + 1) (by omega) (by omega) h4)
      · obtain rfl : i = cnt := by omega
        exact he _ h3
  exact key big i0 hi (by have := big_ge; omega) h0
theorem zz31_h2 {n1 : Int} {t7 : Y4} {t8 : Int} (cnt : Nat) (Inv : Nat → Prop) {res : Option (Bool × Unit)} (hn : cnt ≤ 500000000000)
  (hs : ∀ (rc : Int → Y4 → Int → Int → Option (Bool × Unit)) (i : Nat), i < cnt → Inv i → (Inv (i + 1) → rc n1 t7 t8 ((i + 1 : Nat) : Int) = res) → zz31_b2 rc zz31_a2 n1 t7 t8 (i : Int) = res)
  (he : ∀ (rc : Int → Y4 → Int → Int → Option (Bool × Unit)), Inv cnt → zz31_b2 rc zz31_a2 n1 t7 t8 (cnt : Int) = res)
  (i0 : Nat) (hi : i0 ≤ cnt) (h0 : Inv i0) : zz31_F2 big n1 t7 t8 (i0 : Int) = res := by
  have key : ∀ (m i : Nat), i ≤ cnt → cnt < m + i → Inv i → zz31_l2 big zz31_a2 m n1 t7 t8 (i : Int) = res := by
    intro m
    induction m with
    | zero => intro i h1 h2 h3; exact absurd h2 (by omega)
    | succ m ih =>
      intro i h1 h2 h3
      rcases Nat.lt_or_ge i cnt with hlt | hge
      · exact hs _ i hlt h3 (fun h4 => ih (i + 1) (by omega) (by omega) h4)
      · obtain rfl : i = cnt := by omega
        exact he _ h3
  exact key big i0 hi (by have := big_ge; omega) h0
theorem zz32_h2 {o0 : Y5} {t7 : Int} (cnt : Nat) (Inv : Nat → Prop) {res : Option (Bool × Unit)} (hn : cnt ≤ 500000000000)
  (hs : ∀ (rc : Y5 → Int → Int → Option (Bool × Unit)) (i : Nat), i < cnt → Inv i → (Inv (i + 1) → rc o0 t7 ((i + 1 : Nat) : Int) = res) → zz32_b2 (zz32_F7 big rc zz32_a2) zz32_a2 o0 t7 (i : Int) = res)
  (he : ∀ (rc : Y5 → Int → Int → Option (Bool × Unit)), Inv cnt → zz32_b2 (zz32_F7 big rc zz32_a2) zz32_a2 o0 t7 (cnt : Int) = res)
  (i0 : Nat) (hi : i0 ≤ cnt) (h0 : Inv i0) : zz32_F2 big o0 t7 (i0 : Int) = res := by
  have key : ∀ (m i : Nat), i ≤ cnt → cnt < m + i → Inv i → zz32_l2 big zz32_a2 m o0 t7 (i : Int) = res := by
    intro m
    induction m with
    | zero => intro i h1 h2 h3; exact absurd h2 (by omega)
    | succ m ih =>
      intro i h1 h2 h3
      rcases Nat.lt_or_ge i cnt with hlt | hge
      · exact hs _ i hlt h3 (fun h4 => ih (i + 1) (by omega) (by omega) h4)
      · obtain rfl : i = cnt := by omega
        exact he _ h3
  exact key big i0 hi (by have := big_ge; omega) h0
theorem zz32_h7 {rec : Y5 → Int → Int → Option (Bool × Unit)} {k : Option (Bool × Unit)} {o0 : Y5} {x3 : Int} {t7 : Int} {t8 : Int} {t20 : Int} (cnt : Nat) (Inv : Nat → Prop) {res : Option (Bool × Unit)} (hn : cnt ≤ 500000000000)
  (hs : ∀ (rc : Y5 → Int → Int → Int → Int → Int → Option (Bool × Unit)) (i : Nat), i < cnt → Inv i → (Inv (i + 1) → rc o0 x3 t7 t8 t20 ((i + 1 : Nat) : Int) = res) → zz32_b7 (zz32_F12 big rc (zz32_a7 rec)) (zz32_a7 rec) o0 x3 t7 t8 t20 (i : Int) = res)
  (he : ∀ (rc : Y5 → Int → Int → Int → Int → Int → Option (Bool × Unit)), Inv cnt → zz32_b7 (zz32_F12 big rc (zz32_a7 rec)) (zz32_a7 rec) o0 x3 t7 t8 t20 (cnt : Int) = res)
  (i0 : Nat) (hi : i0 ≤ cnt) (h0 : Inv i0) : zz32_F7 big rec k o0 x3 t7 t8 t20 (i0 : Int) = res := by
  have key : ∀ (m i : Nat), i ≤ cnt → cnt < m + i → Inv i → zz32_l7 big (zz32_a7 rec) m o0 x3 t7 t8 t20 (i : Int) = res := by
    intro m
    induction m with
    | zero => intro i h1 h2 h3; exact absurd h2 (by omega)
    | succ m ih =>
      intro i h1 h2 h3
      rcases Nat.lt_or_ge i cnt with hlt | hge
      · exact hs _ i hlt h3 (fun h4 => ih (i + 1) (by omega) (by omega) h4)
      · obtain rfl : i = cnt := by omega
        exact he _ h3
  exact key big i0 hi (by have := big_ge; omega) h0
theorem zz32_h12 {rec : Y5 → Int → Int → Int → Int → Int → Option (Bool × Unit)} {k : Y5 → Int → Int → Option (Bool × Unit)} {o0 : Y5} {x3 : Int} {y4 : Int} {t7 : Int} {t8 : Int} {t20 : Int} {t21 : Int} {t46 : Int} (cnt : Nat) (Inv : Nat → Prop) {res : Option (Bool × Unit)} (hn : cnt ≤ 500000000000)
  (hs : ∀ (rc : Y5 → Int → Int → Int → Int → Int → Int → Int → Int → Option (Bool × Unit)) (i : Nat), i < cnt → Inv i → (Inv (i + 1) → rc o0 x3 y4 t7 t8 t20 t21 t46 ((i + 1 : Nat) : Int) = res) → zz32_b12 rc (zz32_a12 rec) o0 x3 y4 t7 t8 t20 t21 t46 (i : Int) = res)
  (he : ∀ (rc : Y5 → Int → Int → Int → Int → Int → Int → Int → Int → Option (Bool × Unit)), Inv cnt → zz32_b12 rc (zz32_a12 rec) o0 x3 y4 t7 t8 t20 t21 t46 (cnt : Int) = res)
  (i0 : Nat) (hi : i0 ≤ cnt) (h0 : Inv i0) : zz32_F12 big rec k o0 x3 y4 t7 t8 t20 t21 t46 (i0 : Int) = res := by
  have key : ∀ (m i : Nat), i ≤ cnt → cnt < m + i → Inv i → zz32_l12 big (zz32_a12 rec) m o0 x3 y4 t7 t8 t20 t21 t46 (i : Int) = res := by
    intro m
    induction m with
    | zero => intro i h1 h2 h3; exact absurd h2 (by omega)
    | succ m ih =>
      intro i h1 h2 h3
      rcases Nat.lt_or_ge i cnt with hlt | hge
      · exact hs _ i hlt h3 (fun h4 => ih (i + 1) (by omega) (by omega) h4)
      · obtain rfl : i = cnt := by omega
        exact he _ h3
  exact key big i0 hi (by have := big_ge; omega) h0
theorem zz33_h6 {n4 : Int} {t18 : Y3} {t19 : Int} (cnt : Nat) (Inv : Nat → Y5 → Prop) {res : Option ((Y5 × (Bool × Unit)) × Unit)} (hn : cnt ≤ 500000000000)
  (hs : ∀ (rc : Int → Y5 → Y3 → Int → Int → Option ((Y5 × (Bool × Unit)) × Unit)) (i : Nat) (o5 : Y5), i < cnt → Inv i o5 → (∀ (o5' : Y5), Inv (i + 1) o5' → rc n4 o5' t18 t19 ((i + 1 : Nat) : Int) = res) → zz33_b6 (zz33_F11 big rc zz33_a6) zz33_a6 n4 o5 t18 t19 (i : Int) = res)
  (he : ∀ (rc : Int → Y5 → Y3 → Int → Int → Option ((Y5 × (Bool × Unit)) × Unit)) (o5 : Y5), Inv cnt o5 → zz33_b6 (zz33_F11 big rc zz33_a6) zz33_a6 n4 o5 t18 t19 (cnt : Int) = res)
  (i0 : Nat) (hi : i0 ≤ cnt) (o5 : Y5) (h0 : Inv i0 o5) : zz33_F6 big n4 o5 t18 t19 (i0 : Int) = res := by
  have key : ∀ (m i : Nat) (o5 : Y5), i ≤ cnt → cnt < m + i → Inv i o5 → zz33_l6 big zz33_a6 m n4 o5 t18 t19 (i : Int) = res := by
    intro m
    induction m with
    | zero => intro i o5 h1 h2 h3; exact absurd h2 (by omega)
    | succ m ih =>
      intro i o5 h1 h2 h3
      rcases Nat.lt_or_ge i cnt with hlt | hge
      · exact hs _ i o5 hlt h3 (fun o5' h4 => ih (i + 1) o5' (by omega) (by omega) h4)
      · obtain rfl : i = cnt := by omega
        exact he _ o5 h3
  exact key big i0 o5 hi (by have := big_ge; omega) h0
theorem zz33_h11 {rec : Int → Y5 → Y3 → Int → Int → Option ((Y5 × (Bool × Unit)) × Unit)} {k : Y5 → Option ((Y5 × (Bool × Unit)) × Unit)} {n4 : Int} {x6 : Int} {t18 : Y3} {t19 : Int} {t20 : Int} {t29 : Y4} {t30 : Int} {t31 : Bool} {t32 : Bool} {t34 : Y4} {t35 : Int} (cnt : Nat) (Inv : Nat → Y5 → Prop) {res : Option ((Y5 × (Bool × Unit)) × Unit)} (hn : cnt ≤ 500000000000)
  (hs : ∀ (rc : Int → Y5 → Int → Y3 → Int → Int → Y4 → Int → Bool → Bool → Y4 → Int → Int → Option ((Y5 × (Bool × Unit)) × Unit)) (i : Nat) (o5 : Y5), i < cnt → Inv i o5 → (∀ (o5' : Y5), Inv (i + 1) o5' → rc n4 o5' x6 t18 t19 t20 t29 t30 t31 t32 t34 t35 ((i + 1 : Nat) : Int) = res) → zz33_b11 rc (zz33_a11 rec) n4 o5 x6 t18 t19 t20 t29 t30 t31 t32 t34 t35 (i : Int) = res)
  (he : ∀ (rc : Int → Y5 → Int → Y3 → Int → Int → Y4 → Int → Bool → Bool → Y4 → Int → Int → Option ((Y5 × (Bool × Unit)) × Unit)) (o5 : Y5), Inv cnt o5 → zz33_b11 rc (zz33_a11 rec) n4 o5 x6 t18 t19 t20 t29 t30 t31 t32 t34 t35 (cnt : Int) = res)
  (i0 : Nat) (hi : i0 ≤ cnt) (o5 : Y5) (h0 : Inv i0 o5) : zz33_F11 big rec k n4 o5 x6 t18 t19 t20 t29 t30 t31 t32 t34 t35 (i0 : Int) = res := by
  have key : ∀ (m i : Nat) (o5 : Y5), i ≤ cnt → cnt < m + i → Inv i o5 → zz33_l11 big (zz33_a11 rec) m n4 o5 x6 t18 t19 t20 t29 t30 t31 t32 t34 t35 (i : Int) = res := by
    intro m
    induction m with
    | zero => intro i o5 h1 h2 h3; exact absurd h2 (by omega)
    | succ m ih =>
      intro i o5 h1 h2 h3
      rcases Nat.lt_or_ge i cnt with hlt | hge
      · exact hs _ i o5 hlt h3 (fun o5' h4 => ih (i + 1) o5' (by omega) (by omega) h4)
      · obtain rfl : i = cnt := by omega
        exact he _ o5 h3
  exact key big i0 o5 hi (by have := big_ge; omega) h0
theorem zz34_h2 {o0 : Y5} {list1 : Y4} {t10 : Y4} {t11 : Int} (cnt : Nat) (Inv : Nat → Prop) {res : Option (Int × Unit)} (hn : cnt ≤ 500000000000)
  (hs : ∀ (rc : Y5 → Y4 → Y4 → Int → Int → Option (Int × Unit)) (i : Nat), i < cnt → Inv i → (Inv (i + 1) → rc o0 list1 t10 t11 ((i + 1 : Nat) : Int) = res) → zz34_b2 (zz34_F6 big rc zz34_a2) zz34_a2 o0 list1 t10 t11 (i : Int) = res)
  (he : ∀ (rc : Y5 → Y4 → Y4 → Int → Int → Option (Int × Unit)), Inv cnt → zz34_b2 (zz34_F6 big rc zz34_a2) zz34_a2 o0 list1 t10 t11 (cnt : Int) = res)
  (i0 : Nat) (hi : i0 ≤ cnt) (h0 : Inv i0) : zz34_F2 big o0 list1 t10 t11 (i0 : Int) = res := by
  have key : ∀ (m i : Nat), i ≤ cnt → cnt < m + i → Inv i → zz34_l2 big zz34_a2 m o0 list1 t10 t11 (i : Int) = res := by
    intro m
    induction m with
    | zero => intro i h1 h2 h3; exact absurd h2 (by omega)
    | succ m ih =>
      intro i h1 h2 h3
      rcases Nat.lt_or_ge i cnt with hlt | hge
      · exact hs _ i hlt h3 (fun h4 => ih (i + 1) (by omega) (by omega) h4)
      · obtain rfl : i = cnt := by omega
        exact he _ h3
  exact key big i0 hi (by have := big_ge; omega) h0
theorem zz34_h6 {rec : Y5 → Y4 → Y4 → Int → Int → Option (Int × Unit)} {k : Option (Int × Unit)} {o0 : Y5} {list1 : Y4} {x6 : Int} {t10 : Y4} {t11 : Int} {t12 : Int} {t16 : Y4} {t17 : Int} (cnt : Nat) (Inv : Nat → Bool → Prop) {res : Option (Int × Unit)} (hn : cnt ≤ 500000000000)
  (hs : ∀ (rc : Y5 → Y4 → Int → Bool → Y4 → Int → Int → Y4 → Int → Int → Option (Int × Unit)) (i : Nat) (top7 : Bool), i < cnt → Inv i top7 → (∀ (top7' : Bool), Inv (i + 1) top7' → rc o0 list1 x6 top7' t10 t11 t12 t16 t17 ((i + 1 : Nat) : Int) = res) → zz34_b6 rc (zz34_a6 rec) o0 list1 x6 top7 t10 t11 t12 t16 t17 (i : Int) = res)
  (he : ∀ (rc : Y5 → Y4 → Int → Bool → Y4 → Int → Int → Y4 → Int → Int → Option (Int × Unit)) (top7 : Bool), Inv cnt top7 → zz34_b6 rc (zz34_a6 rec) o0 list1 x6 top7 t10 t11 t12 t16 t17 (cnt : Int) = res)
  (i0 : Nat) (hi : i0 ≤ cnt) (top7 : Bool) (h0 : Inv i0 top7) : zz34_F6 big rec k o0 list1 x6 top7 t10 t11 t12 t16 t17 (i0 : Int) = res := by
  have key : ∀ (m i : Nat) (top7 : Bool), i ≤ cnt → cnt < m + i → Inv i top7 → zz34_l6 big (zz34_a6 rec) m o0 list1 x6 top7 t10 t11 t12 t16 t17 (i : Int) = res := by
    intro m
    induction m with
    | zero => intro i top7 h1 h2 h3; exact absurd h2 (by omega)
    | succ m ih =>
      intro i top7 h1 h2 h3
      rcases Nat.lt_or_ge i cnt with hlt | hge
      · exact hs _ i top7 hlt h3 (fun top7' h4 => ih (i + 1) top7' (by omega) (by omega) h4)
      · obtain rfl : i = cnt := by omega
        exact he _ top7 h3
  exact key big i0 top7 hi (by have := big_ge; omega) h0
theorem zz36_h3 {so1 : (Y5 × (Int × (Int × Unit)))} {t9 : Int} (cnt : Nat) (Inv : Nat → Y4 → Prop) {res : Option (Y4 × Unit)} (hn : cnt ≤ 500000000000)
  (hs : ∀ (rc : (Y5 × (Int × (Int × Unit))) → Y4 → Int → Int → Option (Y4 × Unit)) (i : Nat) (list5 : Y4), i < cnt → Inv i list5 → (∀ (list5' : Y4), Inv (i + 1) list5' → rc so1 list5' t9 ((i + 1 : Nat) : Int) = res) → zz36_b3 rc zz36_a3 so1 list5 t9 (i : Int) = res)
  (he : ∀ (rc : (Y5 × (Int × (Int × Unit))) → Y4 → Int → Int → Option (Y4 × Unit)) (list5 : Y4), Inv cnt list5 → zz36_b3 rc zz36_a3 so1 list5 t9 (cnt : Int) = res)
  (i0 : Nat) (hi : i0 ≤ cnt) (list5 : Y4) (h0 : Inv i0 list5) : zz36_F3 big so1 list5 t9 (i0 : Int) = res := by
  have key : ∀ (m i : Nat) (list5 : Y4), i ≤ cnt → cnt < m + i → Inv i list5 → zz36_l3 big zz36_a3 m so1 list5 t9 (i : Int) = res := by
    intro m
    induction m with
    | zero => intro i list5 h1 h2 h3; exact absurd h2 (by omega)
    | succ m ih =>
      intro i list5 h1 h2 h3
      rcases Nat.lt_or_ge i cnt with hlt | hge
      · exact hs _ i list5 hlt h3 (fun list5' h4 => ih (i + 1) list5' (by omega) (by omega) h4)
      · obtain rfl : i = cnt := by omega
        exact he _ list5 h3
  exact key big i0 list5 hi (by have := big_ge; omega) h0
theorem zz37_h3 {o1 : Y5} {t11 : Int} (cnt : Nat) (Inv : Nat → Y3 → Prop) {res : Option ((Y3 × (Bool × Unit)) × Unit)} (hn : cnt ≤ 500000000000)
  (hs : ∀ (rc : Y5 → Y3 → Int → Int → Option ((Y3 × (Bool × Unit)) × Unit)) (i : Nat) (table4 : Y3), i < cnt → Inv i table4 → (∀ (table4' : Y3), Inv (i + 1) table4' → rc o1 table4' t11 ((i + 1 : Nat) : Int) = res) → zz37_b3 (zz37_F7 big rc zz37_a3) zz37_a3 o1 table4 t11 (i : Int) = res)
  (he : ∀ (rc : Y5 → Y3 → Int → Int → Option ((Y3 × (Bool × Unit)) × Unit)) (table4 : Y3), Inv cnt table4 → zz37_b3 (zz37_F7 big rc zz37_a3) zz37_a3 o1 table4 t11 (cnt : Int) = res)
  (i0 : Nat) (hi : i0 ≤ cnt) (table4 : Y3) (h0 : Inv i0 table4) : zz37_F3 big o1 table4 t11 (i0 : Int) = res := by
  have key : ∀ (m i : Nat) (table4 : Y3), i ≤ cnt → cnt < m + i → Inv i table4 → zz37_l3 big zz37_a3 m o1 table4 t11 (i : Int) = res := by
    intro m
    induction m with
    | zero => intro i table4 h1 h2 h3; exact absurd h2 (by omega)
    | succ m ih =>
      intro i table4 h1 h2 h3
      rcases Nat.lt_or_ge i cnt with hlt | hge
      · exact hs _ i table4 hlt h3 (fun table4' h4 => ih (i + 1) table4' (by omega) (by omega) h4)
      · obtain rfl : i = cnt := by omega
        exact he _ table4 h3
  exact key big i0 table4 hi (by have := big_ge; omega) h0
theorem zz37_h7 {rec : Y5 → Y3 → Int → Int → Option ((Y3 × (Bool × Unit)) × Unit)} {k : Y3 → Option ((Y3 × (Bool × Unit)) × Unit)} {o1 : Y5} {table4 : Y3} {x5 : Int} {t11 : Int} {t12 : Int} {t17 : Int} (cnt : Nat) (Inv : Nat → Y4 → Prop) {res : Option ((Y3 × (Bool × Unit)) × Unit)} (hn : cnt ≤ 500000000000)
  (hs : ∀ (rc : Y5 → Y3 → Int → Y4 → Int → Int → Int → Int → Option ((Y3 × (Bool × Unit)) × Unit)) (i : Nat) (row6 : Y4), i < cnt → Inv i row6 → (∀ (row6' : Y4), Inv (i + 1) row6' → rc o1 table4 x5 row6' t11 t12 t17 ((i + 1 : Nat) : Int) = res) → zz37_b7 rc (zz37_a7 rec) o1 table4 x5 row6 t11 t12 t17 (i : Int) = res)
  (he : ∀ (rc : Y5 → Y3 → Int → Y4 → Int → Int → Int → Int → Option ((Y3 × (Bool × Unit)) × Unit)) (row6 : Y4), Inv cnt row6 → zz37_b7 rc (zz37_a7 rec) o1 table4 x5 row6 t11 t12 t17 (cnt : Int) = res)
  (i0 : Nat) (hi : i0 ≤ cnt) (row6 : Y4) (h0 : Inv i0 row6) : zz37_F7 big rec k o1 table4 x5 row6 t11 t12 t17 (i0 : Int) = res := by
  have key : ∀ (m i : Nat) (row6 : Y4), i ≤ cnt → cnt < m + i → Inv i row6 → zz37_l7 big (zz37_a7 rec) m o1 table4 x5 row6 t11 t12 t17 (i : Int) = res := by
    intro m
    induction m with
    | zero => intro i row6 h1 h2 h3; exact absurd h2 (by omega)
    | succ m ih =>
      intro i row6 h1 h2 h3
      rcases Nat.lt_or_ge i cnt with hlt | hge
      · exact hs _ i row6 hlt h3 (fun row6' h4 => ih (i + 1) row6' (by omega) (by omega) h4)
      · obtain rfl : i = cnt := by omega
        exact he _ row6 h3
  exact key big i0 row6 hi (by have := big_ge; omega) h0
theorem zz38_h3 {o0 : Y5} {t10 : Int} (cnt : Nat) (Inv : Nat → Y5 → Prop) {res : Option (Y5 × Unit)} (hn : cnt ≤ 500000000000)
  (hs : ∀ (rc : Y5 → Y5 → Int → Int → Option (Y5 × Unit)) (i : Nat) (d3 : Y5), i < cnt → Inv i d3 → (∀ (d3' : Y5), Inv (i + 1) d3' → rc o0 d3' t10 ((i + 1 : Nat) : Int) = res) → zz38_b3 (zz38_F6 big rc zz38_a3) zz38_a3 o0 d3 t10 (i : Int) = res)
  (he : ∀ (rc : Y5 → Y5 → Int → Int → Option (Y5 × Unit)) (d3 : Y5), Inv cnt d3 → zz38_b3 (zz38_F6 big rc zz38_a3) zz38_a3 o0 d3 t10 (cnt : Int) = res)
  (i0 : Nat) (hi : i0 ≤ cnt) (d3 : Y5) (h0 : Inv i0 d3) : zz38_F3 big o0 d3 t10 (i0 : Int) = res := by
  have key : ∀ (m i : Nat) (d3 : Y5), i ≤ cnt → cnt < m + i → Inv i d3 → zz38_l3 big zz38_a3 m o0 d3 t10 (i : Int) = res := by
    intro m
    induction m with
    | zero => intro i d3 h1 h2 h3; exact absurd h2 (by omega)
    | succ m ih =>
      intro i d3 h1 h2 h3
      rcases Nat.lt_or_ge i cnt with hlt | hge
      · exact hs _ i d3 hlt h3 (fun d3' h4 => ih (i + 1) d3' (by omega) (by omega) h4)
      · obtain rfl : i = cnt := by omega
        exact he _ d3 h3
  exact key big i0 d3 hi (by have := big_ge; omega) h0
theorem zz38_h6 {rec : Y5 → Y5 → Int → Int → Option (Y5 × Unit)} {k : Y5 → Option (Y5 × Unit)} {o0 : Y5} {x4 : Int} {t10 : Int} {t11 : Int} {t15 : Int} (cnt : Nat) (Inv : Nat → Y5 → Prop) {res : Option (Y5 × Unit)} (hn : cnt ≤ 500000000000)
  (hs : ∀ (rc : Y5 → Y5 → Int → Int → Int → Int → Int → Option (Y5 × Unit)) (i : Nat) (d3 : Y5), i < cnt → Inv i d3 → (∀ (d3' : Y5), Inv (i + 1) d3' → rc o0 d3' x4 t10 t11 t15 ((i + 1 : Nat) : Int) = res) → zz38_b6 rc (zz38_a6 rec) o0 d3 x4 t10 t11 t15 (i : Int) = res)
  (he : ∀ (rc : Y5 → Y5 → Int → Int → Int → Int → Int → Option (Y5 × Unit)) (d3 : Y5), Inv cnt d3 → zz38_b6 rc (zz38_a6 rec) o0 d3 x4 t10 t11 t15 (cnt : Int) = res)
  (i0 : Nat) (hi : i0 ≤ cnt) (d3 : Y5) (h0 : Inv i0 d3) : zz38_F6 big rec k o0 d3 x4 t10 t11 t15 (i0 : Int) = res := by
  have key : ∀ (m i : Nat) (d3 : Y5), i ≤ cnt → cnt < m + i → Inv i d3 → zz38_l6 big (zz38_a6 rec) m o0 d3 x4 t10 t11 t15 (i : Int) = res := by
    intro m
    induction m with
    | zero => intro i d3 h1 h2 h3; exact absurd h2 (by omega)
    | succ m ih =>
      intro i d3 h1 h2 h3
      rcases Nat.lt_or_ge i cnt with hlt | hge
      · exact hs _ i d3 hlt h3 (fun d3' h4 => ih (i + 1) d3' (by omega) (by omega) h4)
      · obtain rfl : i = cnt := by omega
        exact he _ d3 h3
  exact key big i0 d3 hi (by have := big_ge; omega) h0
theorem zz40_h2 {l0 : Y1} {t10 : Int} (cnt : Nat) (Inv : Nat → Prop) {res : Option ((Option Y4) × Unit)} (hn : cnt ≤ 500000000000)
  (hs : ∀ (rc : Y1 → Int → Int → Option ((Option Y4) × Unit)) (i : Nat), i < cnt → Inv i → (Inv (i + 1) → rc l0 t10 ((i + 1 : Nat) : Int) = res) → zz40_b2 (zz40_F5 big rc zz40_a2) zz40_a2 l0 t10 (i : Int) = res)
  (he : ∀ (rc : Y1 → Int → Int → Option ((Option Y4) × Unit)), Inv cnt → zz40_b2 (zz40_F5 big rc zz40_a2) zz40_a2 l0 t10 (cnt : Int) = res)
  (i0 : Nat) (hi : i0 ≤ cnt) (h0 : Inv i0) : zz40_F2 big l0 t10 (i0 : Int) = res := by
  have key : ∀ (m i : Nat), i ≤ cnt → cnt < m + i → Inv i → zz40_l2 big zz40_a2 m l0 t10 (i : Int) = res := by
    intro m
    induction m with
    | zero => intro i h1 h2 h3; exact absurd h2 (by omega)
    | succ m ih =>
      intro i h1 h2 h3
      rcases Nat.lt_or_ge i cnt with hlt | hge
      · exact hs _ i hlt h3 (fun h4 => ih (i + 1) (by omega) (by omega) h4)
      · obtain rfl : i = cnt := by omega
        exact he _ h3
  exact key big i0 hi (by have := big_ge; omega) h0
theorem zz40_q2 {l0 : Y1} {t10 : Int} (cnt : Nat) (Inv : Nat → Prop) {Q : Option ((Option Y4) × Unit) → Prop} (hn : cnt ≤ 500000000000)
  (hs : ∀ (rc : Y1 → Int → Int → Option ((Option Y4) × Unit)) (i : Nat), i < cnt → Inv i → (Inv (i + 1) → Q (rc l0 t10 ((i + 1 : Nat) : Int))) → Q (zz40_b2 (zz40_F5 big rc zz40_a2) zz40_a2 l0 t10 (i : Int)))
  (he : ∀ (rc : Y1 → Int → Int → Option ((Option Y4) × Unit)), Inv cnt → Q (zz40_b2 (zz40_F5 big rc zz40_a2) zz40_a2 l0 t10 (cnt : Int)))
  (i0 : Nat) (hi : i0 ≤ cnt) (h0 : Inv i0) : Q (zz40_F2 big l0 t10 (i0 : Int)) := by
  have key : ∀ (m i : Nat), i ≤ cnt → cnt < m + i → Inv i → Q (zz40_l2 big zz40_a2 m l0 t10 (i : Int)) := by
    intro m
    induction m with
    | zero => intro i h1 h2 h3; exact absurd h2 (by omega)
    | succ m ih =>
      intro i h1 h2 h3
      rcases Nat.lt_or_ge i cnt with hlt | hge
      · exact hs _ i hlt h3 (fun h4 => ih (i + 1) (by omega) (by omega) h4)
      · obtain rfl : i = cnt := by omega
        exact he _ h3
  exact key big i0 hi (by have := big_ge; omega) h0
theorem zz40_h5 {rec : Y1 → Int → Int → Option ((Option Y4) × Unit)} {k : Option ((Option Y4) × Unit)} {l0 : Y1} {x3 : Int} {t10 : Int} {t11 : Int} {t18 : Int} (cnt : Nat) (Inv : Nat → Prop) {res : Option ((Option Y4) × Unit)} (hn : cnt ≤ 500000000000)
  (hs : ∀ (rc : Y1 → Int → Int → Int → Int → Int → Option ((Option Y4) × Unit)) (i : Nat), i < cnt → Inv i → (Inv (i + 1) → rc l0 x3 t10 t11 t18 ((i + 1 : Nat) : Int) = res) → zz40_b5 (zz40_F8 big rc (zz40_a5 rec)) (zz40_a5 rec) l0 x3 t10 t11 t18 (i : Int) = res)
  (he : ∀ (rc : Y1 → Int → Int → Int → Int → Int → Option ((Option Y4) × Unit)), Inv cnt → zz40_b5 (zz40_F8 big rc (zz40_a5 rec)) (zz40_a5 rec) l0 x3 t10 t11 t18 (cnt : Int) = res)
  (i0 : Nat) (hi : i0 ≤ cnt) (h0 : Inv i0) : zz40_F5 big rec k l0 x3 t10 t11 t18 (i0 : Int) = res := by
  have key : ∀ (m i : Nat), i ≤ cnt → cnt < m + i → Inv i → zz40_l5 big (zz40_a5 rec) m l0 x3 t10 t11 t18 (i : Int) = res := by
    intro m
    induction m with
    | zero => intro i h1 h2 h3; exact absurd h2 (by omega)
    | succ m ih =>
      intro i h1 h2 h3
      rcases Nat.lt_or_ge i cnt with hlt | hge
      · exact hs _ i hlt h3 (fun h4 => ih (i + 1) (by omega) (by omega) h4)
      · obtain rfl : i = cnt := by omega
        exact he _ h3
  exact key big i0 hi (by have := big_ge; omega) h0
theorem zz40_q5 {rec : Y1 → Int → Int → Option ((Option Y4) × Unit)} {k : Option ((Option Y4) × Unit)} {l0 : Y1} {x3 : Int} {t10 : Int} {t11 : Int} {t18 : Int} (cnt : Nat) (Inv : Nat → Prop) {Q : Option ((Option Y4) × Unit) → Prop} (hn : cnt ≤ 500000000000)
  (hs : ∀ (rc : Y1 → Int → Int → Int → Int → Int → Option ((Option Y4) × Unit)) (i : Nat), i < cnt → Inv i → (Inv (i + 1) → Q (rc l0 x3 t10 t11 t18 ((i + 1 : Nat) : Int))) → Q (zz40_b5 (zz40_F8 big rc (zz40_a5 rec)) (zz40_a5 rec) l0 x3 t10 t11 t18 (i : Int)))
  (he : ∀ (rc : Y1 → Int → Int → Int → Int → Int → Option ((Option Y4) × Unit)), Inv cnt → Q (zz40_b5 (zz40_F8 big rc (zz40_a5 rec)) (zz40_a5 rec) l0 x3 t10 t11 t18 (cnt : Int)))
  (i0 : Nat) (hi : i0 ≤ cnt) (h0 : Inv i0) : Q (zz40_F5 big rec k l0 x3 t10 t11 t18 (i0 : Int)) := by
  have key : ∀ (m i : Nat), i ≤ cnt → cnt < m + i → Inv i → Q (zz40_l5 big (zz40_a5 rec) m l0 x3 t10 t11 t18 (i : Int)) := by
    intro m
    induction m with
    | zero => intro i h1 h2 h3; exact absurd h2 (by omega)
    | succ m ih =>
      intro i h1 h2 h3
      rcases Nat.lt_or_ge i cnt with hlt | hge
      · exact hs _ i hlt h3 (fun h4 => ih (i + 1) (by omega) (by omega) h4)
      · obtain rfl : i = cnt := by omega
        exact he _ h3
  exact key big i0 hi (by have := big_ge; omega) h0
theorem zz40_h8 {rec : Y1 → Int → Int → Int → Int → Int → Option ((Option Y4) × Unit)} {k : Y1 → Int → Int → Option ((Option Y4) × Unit)} {l0 : Y1} {x3 : Int} {y4 : Int} {t10 : Int} {t11 : Int} {t18 : Int} {t19 : Int} {t26 : Int} (cnt : Nat) (Inv : Nat → Prop) {res : Option ((Option Y4) × Unit)} (hn : cnt ≤ 500000000000)
  (hs : ∀ (rc : Y1 → Int → Int → Int → Int → Int → Int → Int → Int → Option ((Option Y4) × Unit)) (i : Nat), i < cnt → Inv i → (Inv (i + 1) → rc l0 x3 y4 t10 t11 t18 t19 t26 ((i + 1 : Nat) : Int) = res) → zz40_b8 rc (zz40_a8 rec) l0 x3 y4 t10 t11 t18 t19 t26 (i : Int) = res)
  (he : ∀ (rc : Y1 → Int → Int → Int → Int → Int → Int → Int → Int → Option ((Option Y4) × Unit)), Inv cnt → zz40_b8 rc (zz40_a8 rec) l0 x3 y4 t10 t11 t18 t19 t26 (cnt : Int) = res)
  (i0 : Nat) (hi : i0 ≤ cnt) (h0 : Inv i0) : zz40_F8 big rec k l0 x3 y4 t10 t11 t18 t19 t26 (i0 : Int) = res := by
  have key : ∀ (m i : Nat), i ≤ cnt → cnt < m + i → Inv i → zz40_l8 big (zz40_a8 rec) m l0 x3 y4 t10 t11 t18 t19 t26 (i : Int) = res := by
    intro m
    induction m with
    | zero => intro i h1 h2 h3; exact absurd h2 (by omega)
    | succ m ih =>
      intro i h1 h2 h3
      rcases Nat.lt_or_ge i cnt with hlt | hge
      · exact hs _ i hlt h3 (fun h4 => ih (i + 1) (by omega) (by omega) h4)
      · obtain rfl : i = cnt := by omega
        exact he _ h3
  exact key big i0 hi (by have := big_ge; omega) h0
theorem zz40_q8 {rec : Y1 → Int → Int → Int → Int → Int → Option ((Option Y4) × Unit)} {k : Y1 → Int → Int → Option ((Option Y4) × Unit)} {l0 : Y1} {x3 : Int} {y4 : Int} {t10 : Int} {t11 : Int} {t18 : Int} {t19 : Int} {t26 : Int} (cnt : Nat) (Inv : Nat → Prop) {Q : Option ((Option Y4) × Unit) → Prop} (hn : cnt ≤ 500000000000)
  (hs : ∀ (rc : Y1 → Int → Int → Int → Int → Int → Int → Int → Int → Option ((Option Y4) × Unit)) (i : Nat), i < cnt → Inv i → (Inv (i + 1) → Q (rc l0 x3 y4 t10 t11 t18 t19 t26 ((i + 1 : Nat) : Int))) → Q (zz40_b8 rc (zz40_a8 rec) l0 x3 y4 t10 t11 t18 t19 t26 (i : Int)))
  (he : ∀ (rc : Y1 → Int → Int → Int → Int → Int → Int → Int → Int → Option ((Option Y4) × Unit)), Inv cnt → Q (zz40_b8 rc (zz40_a8 rec) l0 x3 y4 t10 t11 t18 t19 t26 (cnt : Int)))
  (i0 : Nat) (hi : i0 ≤ cnt) (h0 : Inv i0) : Q (zz40_F8 big rec k l0 x3 y4 t10 t11 t18 t19 t26 (i0 : Int)) := by
  have key : ∀ (m i : Nat), i ≤ cnt → cnt < m + i → Inv i → Q (zz40_l8 big (zz40_a8 rec) m l0 x3 y4 t10 t11 t18 t19 t26 (i : Int)) := by
    intro m
    induction m with
    | zero => intro i h1 h2 h3; exact absurd h2 (by omega)
    | succ m ih =>
      intro i h1 h2 h3
      rcases Nat.lt_or_ge i cnt with hlt | hge
      · exact hs _ i hlt h3 (fun h4 => ih (i + 1) (by omega) (by omega) h4)
      · obtain rfl : i = cnt := by omega
        exact he _ h3
  exact key big i0 hi (by have := big_ge; omega) h0
theorem zz42_h3 {l0 : Y1} {t9 : Int} (cnt : Nat) (Inv : Nat → Int → Prop) {res : Option (Int × Unit)} (hn : cnt ≤ 500000000000)
  (hs : ∀ (rc : Y1 → Int → Int → Int → Option (Int × Unit)) (i : Nat) (b3 : Int), i < cnt → Inv i b3 → (∀ (b3' : Int), Inv (i + 1) b3' → rc l0 b3' t9 ((i + 1 : Nat) : Int) = res) → zz42_b3 rc zz42_a3 l0 b3 t9 (i : Int) = res)
  (he : ∀ (rc : Y1 → Int → Int → Int → Option (Int × Unit)) (b3 : Int), Inv cnt b3 → zz42_b3 rc zz42_a3 l0 b3 t9 (cnt : Int) = res)
  (i0 : Nat) (hi : i0 ≤ cnt) (b3 : Int) (h0 : Inv i0 b3) : zz42_F3 big l0 b3 t9 (i0 : Int) = res := by
  have key : ∀ (m i : Nat) (b3 : Int), i ≤ cnt → cnt < m + i → Inv i b3 → zz42_l3 big zz42_a3 m l0 b3 t9 (i : Int) = res := by
    intro m
    induction m with
    | zero => intro i b3 h1 h2 h3; exact absurd h2 (by omega)
    | succ m ih =>
      intro i b3 h1 h2 h3
      rcases Nat.lt_or_ge i cnt with hlt | hge
      · exact hs _ i b3 hlt h3 (fun b3' h4 => ih (i + 1) b3' (by omega) (by omega) h4)
      · obtain rfl : i = cnt := by omega
        exact he _ b3 h3
  exact key big i0 b3 hi (by have := big_ge; omega) h0
theorem zz43_h3 {l0 : Y1} {t9 : Int} (cnt : Nat) (Inv : Nat → Int → Prop) {res : Option (Int × Unit)} (hn : cnt ≤ 500000000000)
  (hs : ∀ (rc : Y1 → Int → Int → Int → Option (Int × Unit)) (i : Nat) (t3 : Int), i < cnt → Inv i t3 → (∀ (t3' : Int), Inv (i + 1) t3' → rc l0 t3' t9 ((i + 1 : Nat) : Int) = res) → zz43_b3 rc zz43_a3 l0 t3 t9 (i : Int) = res)
  (he : ∀ (rc : Y1 → Int → Int → Int → Option (Int × Unit)) (t3 : Int), Inv cnt t3 → zz43_b3 rc zz43_a3 l0 t3 t9 (cnt : Int) = res)
  (i0 : Nat) (hi : i0 ≤ cnt) (t3 : Int) (h0 : Inv i0 t3) : zz43_F3 big l0 t3 t9 (i0 : Int) = res := by
  have key : ∀ (m i : Nat) (t3 : Int), i ≤ cnt → cnt < m + i → Inv i t3 → zz43_l3 big zz43_a3 m l0 t3 t9 (i : Int) = res := by
    intro m
    induction m with
    | zero => intro i t3 h1 h2 h3; exact absurd h2 (by omega)
    | succ m ih =>
      intro i t3 h1 h2 h3
      rcases Nat.lt_or_ge i cnt with hlt | hge
      · exact hs _ i t3 hlt h3 (fun t3' h4 => ih (i + 1) t3' (by omega) (by omega) h4)
      · obtain rfl : i = cnt := by omega
        exact he _ t3 h3
  exact key big i0 t3 hi (by have := big_ge; omega) h0
theorem zz45_h3 {so1 : (Y1 × (Int × (Int × (Int × Unit))))} {t9 : Int} (cnt : Nat) (Inv : Nat → Y4 → Prop) {res : Option (Y4 × Unit)} (hn : cnt ≤ 500000000000)
  (hs : ∀ (rc : (Y1 × (Int × (Int × (Int × Unit)))) → Y4 → Int → Int → Option (Y4 × Unit)) (i : Nat) (list5 : Y4), i < cnt → Inv i list5 → (∀ (list5' : Y4), Inv (i + 1) list5' → rc so1 list5' t9 ((i + 1 : Nat) : Int) = res) → zz45_b3 rc zz45_a3 so1 list5 t9 (i : Int) = res)
  (he : ∀ (rc : (Y1 × (Int × (Int × (Int × Unit)))) → Y4 → Int → Int → Option (Y4 × Unit)) (list5 : Y4), Inv cnt list5 → zz45_b3 rc zz45_a3 so1 list5 t9 (cnt : Int) = res)
  (i0 : Nat) (hi : i0 ≤ cnt) (list5 : Y4) (h0 : Inv i0 list5) : zz45_F3 big so1 list5 t9 (i0 : Int) = res := by
  have key : ∀ (m i : Nat) (list5 : Y4), i ≤ cnt → cnt < m + i → Inv i list5 → zz45_l3 big zz45_a3 m so1 list5 t9 (i : Int) = res := by
    intro m
    induction m with
    | zero => intro i list5 h1 h2 h3; exact absurd h2 (by omega)
    | succ m ih =>
      intro i list5 h1 h2 h3
      rcases Nat.lt_or_ge i cnt with hlt | hge
      · exact hs _ i list5 hlt h3 (fun list5' h4 => ih (i + 1) list5' (by omega) (by omega) h4)
      · obtain rfl : i = cnt := by omega
        exact he _ list5 h3
  exact key big i0 list5 hi (by have := big_ge; omega) h0
theorem zz49_h3 {so1 : (Y1 × Unit)} {t9 : Int} (cnt : Nat) (Inv : Nat → Y4 → Prop) {res : Option (Y4 × Unit)} (hn : cnt ≤ 500000000000)
  (hs : ∀ (rc : (Y1 × Unit) → Y4 → Int → Int → Option (Y4 × Unit)) (i : Nat) (list5 : Y4), i < cnt → Inv i list5 → (∀ (list5' : Y4), Inv (i + 1) list5' → rc so1 list5' t9 ((i + 1 : Nat) : Int) = res) → zz49_b3 rc zz49_a3 so1 list5 t9 (i : Int) = res)
  (he : ∀ (rc : (Y1 × Unit) → Y4 → Int → Int → Option (Y4 × Unit)) (list5 : Y4), Inv cnt list5 → zz49_b3 rc zz49_a3 so1 list5 t9 (cnt : Int) = res)
  (i0 : Nat) (hi : i0 ≤ cnt) (list5 : Y4) (h0 : Inv i0 list5) : zz49_F3 big so1 list5 t9 (i0 : Int) = res := by
  have key : ∀ (m i : Nat) (list5 : Y4), i ≤ cnt → cnt < m + i → Inv i list5 → zz49_l3 big zz49_a3 m so1 list5 t9 (i : Int) = res := by
    intro m
    induction m with
    | zero => intro i list5 h1 h2 h3; exact absurd h2 (by omega)
    | succ m ih =>
      intro i list5 h1 h2 h3
      rcases Nat.lt_or_ge i cnt with hlt | hge
      · exact hs _ i list5 hlt h3 (fun list5' h4 => ih (i + 1) list5' (by omega) (by omega) h4)
      · obtain rfl : i = cnt := by omega
        exact he _ list5 h3
  exact key big i0 list5 hi (by have := big_ge; omega) h0
theorem zz55_h4 {o0 : Y5} {x1 : Int} {y2 : Int} {t14 : Int} (cnt : Nat) (Inv : Nat → Prop) {res : Option (Bool × Unit)} (hn : cnt ≤ 500000000000)
  (hs : ∀ (rc : Y5 → Int → Int → Int → Int → Option (Bool × Unit)) (i : Nat), i < cnt → Inv i → (Inv (i + 1) → rc o0 x1 y2 t14 ((i + 1 : Nat) : Int) = res) → zz55_b4 rc zz55_a4 o0 x1 y2 t14 (i : Int) = res)
  (he : ∀ (rc : Y5 → Int → Int → Int → Int → Option (Bool × Unit)), Inv cnt → zz55_b4 rc zz55_a4 o0 x1 y2 t14 (cnt : Int) = res)
  (i0 : Nat) (hi : i0 ≤ cnt) (h0 : Inv i0) : zz55_F4 big o0 x1 y2 t14 (i0 : Int) = res := by
  have key : ∀ (m i : Nat), i ≤ cnt → cnt < m + i → Inv i → zz55_l4 big zz55_a4 m o0 x1 y2 t14 (i : Int) = res := by
    intro m
    induction m with
    | zero => intro i h1 h2 h3; exact absurd h2 (by omega)
    | succ m ih =>
      intro i h1 h2 h3
      rcases Nat.lt_or_ge i cnt with hlt | hge
      · exact hs _ i hlt h3 (fun h4 => ih (i + 1) (by omega) (by omega) h4)
      · obtain rfl : i = cnt := by omega
        exact he _ h3
  exact key big i0 hi (by have := big_ge; omega) h0
theorem zz57_h3 {so1 : (Y5 × (Int × Unit))} {t9 : Int} (cnt : Nat) (Inv : Nat → Y4 → Prop) {res : Option (Y4 × Unit)} (hn : cnt ≤ 500000000000)
  (hs : ∀ (rc : (Y5 × (Int × Unit)) → Y4 → Int → Int → Option (Y4 × Unit)) (i : Nat) (list5 : Y4), i < cnt → Inv i list5 → (∀ (list5' : Y4), Inv (i + 1) list5' → rc so1 list5' t9 ((i + 1 : Nat) : Int) = res) → zz57_b3 rc zz57_a3 so1 list5 t9 (i : Int) = res)
  (he : ∀ (rc : (Y5 × (Int × Unit)) → Y4 → Int → Int → Option (Y4 × Unit)) (list5 : Y4), Inv cnt list5 → zz57_b3 rc zz57_a3 so1 list5 t9 (cnt : Int) = res)
  (i0 : Nat) (hi : i0 ≤ cnt) (list5 : Y4) (h0 : Inv i0 list5) : zz57_F3 big so1 list5 t9 (i0 : Int) = res := by
  have key : ∀ (m i : Nat) (list5 : Y4), i ≤ cnt → cnt < m + i → Inv i list5 → zz57_l3 big zz57_a3 m so1 list5 t9 (i : Int) = res := by
    intro m
    induction m with
    | zero => intro i list5 h1 h2 h3; exact absurd h2 (by omega)
    | succ m ih =>
      intro i list5 h1 h2 h3
      rcases Nat.lt_or_ge i cnt with hlt | hge
      · exact hs _ i list5 hlt h3 (fun list5' h4 => ih (i + 1) list5' (by omega) (by omega) h4)
      · obtain rfl : i = cnt := by omega
        exact he _ list5 h3
  exact key big i0 list5 hi (by have := big_ge; omega) h0
theorem zz60_h3 {l0 : Y1} {t10 : Y4} {t11 : Int} (cnt : Nat) (Inv : Nat → Int → Prop) {res : Option (Int × Unit)} (hn : cnt ≤ 500000000000)
  (hs : ∀ (rc : Y1 → Int → Y4 → Int → Int → Option (Int × Unit)) (i : Nat) (j5 : Int), i < cnt → Inv i j5 → (∀ (j5' : Int), Inv (i + 1) j5' → rc l0 j5' t10 t11 ((i + 1 : Nat) : Int) = res) → zz60_b3 rc zz60_a3 l0 j5 t10 t11 (i : Int) = res)
  (he : ∀ (rc : Y1 → Int → Y4 → Int → Int → Option (Int × Unit)) (j5 : Int), Inv cnt j5 → zz60_b3 rc zz60_a3 l0 j5 t10 t11 (cnt : Int) = res)
  (i0 : Nat) (hi : i0 ≤ cnt) (j5 : Int) (h0 : Inv i0 j5) : zz60_F3 big l0 j5 t10 t11 (i0 : Int) = res := by
  have key : ∀ (m i : Nat) (j5 : Int), i ≤ cnt → cnt < m + i → Inv i j5 → zz60_l3 big zz60_a3 m l0 j5 t10 t11 (i : Int) = res := by
    intro m
    induction m with
    | zero => intro i j5 h1 h2 h3; exact absurd h2 (by omega)
    | succ m ih =>
      intro i j5 h1 h2 h3
      rcases Nat.lt_or_ge i cnt with hlt | hge
      · exact hs _ i j5 hlt h3 (fun j5' h4 => ih (i + 1) j5' (by omega) (by omega) h4)
      · obtain rfl : i = cnt := by omega
        exact he _ j5 h3
  exact key big i0 j5 hi (by have := big_ge; omega) h0
theorem zz61_h7 {g2 : Y4} {l8 : Y1} {m9 : Y1} {from11 : Y4} {to12 : Y4} {t53 : Int} (cnt : Nat) (Inv : Nat → Y4 → Prop) {res : Option ((Y4 × (Bool × Unit)) × Unit)} (hn : cnt ≤ 500000000000)
  (hs : ∀ (rc : Y4 → Y1 → Y1 → Y4 → Y4 → Y4 → Int → Int → Option ((Y4 × (Bool × Unit)) × Unit)) (i : Nat) (list13 : Y4), i < cnt → Inv i list13 → (∀ (list13' : Y4), Inv (i + 1) list13' → rc g2 l8 m9 from11 to12 list13' t53 ((i + 1 : Nat) : Int) = res) → zz61_b7 (zz61_F11 big rc zz61_a7) zz61_a7 g2 l8 m9 from11 to12 list13 t53 (i : Int) = res)
  (he : ∀ (rc : Y4 → Y1 → Y1 → Y4 → Y4 → Y4 → Int → Int → Option ((Y4 × (Bool × Unit)) × Unit)) (list13 : Y4), Inv cnt list13 → zz61_b7 (zz61_F11 big rc zz61_a7) zz61_a7 g2 l8 m9 from11 to12 list13 t53 (cnt : Int) = res)
  (i0 : Nat) (hi : i0 ≤ cnt) (list13 : Y4) (h0 : Inv i0 list13) : zz61_F7 big g2 l8 m9 from11 to12 list13 t53 (i0 : Int) = res := by
  have key : ∀ (m i : Nat) (list13 : Y4), i ≤ cnt → cnt < m + i → Inv i list13 → zz61_l7 big zz61_a7 m g2 l8 m9 from11 to12 list13 t53 (i : Int) = res := by
    intro m
    induction m with
    | zero => intro i list13 h1 h2 h3; exact absurd h2 (by omega)
    | succ m ih =>
      intro i list13 h1 h2 h3
      rcases Nat.lt_or_ge i cnt with hlt | hge
      · exact hs _ i list13 hlt h3 (fun list13' h4 => ih (i + 1) list13' (by omega) (by omega) h4)
      · obtain rfl : i = cnt := by omega
        exact he _ list13 h3
  exact key big i0 list13 hi (by have := big_ge; omega) h0
theorem zz61_h11 {rec : Y4 → Y1 → Y1 → Y4 → Y4 → Y4 → Int → Int → Option ((Y4 × (Bool × Unit)) × Unit)} {k : Y4 → Option ((Y4 × (Bool × Unit)) × Unit)} {g2 : Y4} {l8 : Y1} {m9 : Y1} {from11 : Y4} {to12 : Y4} {list13 : Y4} {x14 : Int} {t53 : Int} {t54 : Int} {t59 : Int} (cnt : Nat) (Inv : Nat → Y4 → Prop) {res : Option ((Y4 × (Bool × Unit)) × Unit)} (hn : cnt ≤ 500000000000)
  (hs : ∀ (rc : Y4 → Y1 → Y1 → Y4 → Y4 → Y4 → Int → Y4 → Int → Int → Int → Int → Option ((Y4 × (Bool × Unit)) × Unit)) (i : Nat) (some15 : Y4), i < cnt → Inv i some15 → (∀ (some15' : Y4), Inv (i + 1) some15' → rc g2 l8 m9 from11 to12 list13 x14 some15' t53 t54 t59 ((i + 1 : Nat) : Int) = res) → zz61_b11 rc (zz61_a11 rec) g2 l8 m9 from11 to12 list13 x14 some15 t53 t54 t59 (i : Int) = res)
  (he : ∀ (rc : Y4 → Y1 → Y1 → Y4 → Y4 → Y4 → Int → Y4 → Int → Int → Int → Int → Option ((Y4 × (Bool × Unit)) × Unit)) (some15 : Y4), Inv cnt some15 → zz61_b11 rc (zz61_a11 rec) g2 l8 m9 from11 to12 list13 x14 some15 t53 t54 t59 (cnt : Int) = res)
  (i0 : Nat) (hi : i0 ≤ cnt) (some15 : Y4) (h0 : Inv i0 some15) : zz61_F11 big rec k g2 l8 m9 from11 to12 list13 x14 some15 t53 t54 t59 (i0 : Int) = res := by
  have key : ∀ (m i : Nat) (some15 : Y4), i ≤ cnt → cnt < m + i → Inv i some15 → zz61_l11 big (zz61_a11 rec) m g2 l8 m9 from11 to12 list13 x14 some15 t53 t54 t59 (i : Int) = res := by
    intro m
    induction m with
    | zero => intro i some15 h1 h2 h3; exact absurd h2 (by omega)
    | succ m ih =>
      intro i some15 h1 h2 h3
      rcases Nat.lt_or_ge i cnt with hlt | hge
      · exact hs _ i some15 hlt h3 (fun some15' h4 => ih (i + 1) some15' (by omega) (by omega) h4)
      · obtain rfl : i = cnt := by omega
        exact he _ some15 h3
  exact key big i0 some15 hi (by have := big_ge; omega) h0
theorem zz62_h4 {a0 : Y4} {b1 : Y4} (cnt : Nat) (Inv : Nat → Prop) {res : Option (Bool × Unit)} (hn : cnt ≤ 500000000000)
  (hs : ∀ (rc : Y4 → Y4 → Int → Option (Bool × Unit)) (i : Nat), i < cnt → Inv i → (Inv (i + 1) → rc a0 b1 ((i + 1 : Nat) : Int) = res) → zz62_b4 rc zz62_a4 a0 b1 (i : Int) = res)
  (he : ∀ (rc : Y4 → Y4 → Int → Option (Bool × Unit)), Inv cnt → zz62_b4 rc zz62_a4 a0 b1 (cnt : Int) = res)
  (i0 : Nat) (hi : i0 ≤ cnt) (h0 : Inv i0) : zz62_F4 big a0 b1 (i0 : Int) = res := by
  have key : ∀ (m i : Nat), i ≤ cnt → cnt < m + i → Inv i → zz62_l4 big zz62_a4 m a0 b1 (i : Int) = res := by
    intro m
    induction m with
    | zero => intro i h1 h2 h3; exact absurd h2 (by omega)
    | succ m ih =>
      intro i h1 h2 h3
      rcases Nat.lt_or_ge i cnt with hlt | hge
      · exact hs _ i hlt h3 (fun h4 => ih (i + 1) (by omega) (by omega) h4)
      · obtain rfl : i = cnt := by omega
        exact he _ h3
  exact key big i0 hi (by have := big_ge; omega) h0
theorem zz63_h4 {a0 : Y3} {b1 : Y3} (cnt : Nat) (Inv : Nat → Prop) {res : Option (Bool × Unit)} (hn : cnt ≤ 500000000000)
  (hs : ∀ (rc : Y3 → Y3 → Int → Option (Bool × Unit)) (i : Nat), i < cnt → Inv i → (Inv (i + 1) → rc a0 b1 ((i + 1 : Nat) : Int) = res) → zz63_b4 rc zz63_a4 a0 b1 (i : Int) = res)
  (he : ∀ (rc : Y3 → Y3 → Int → Option (Bool × Unit)), Inv cnt → zz63_b4 rc zz63_a4 a0 b1 (cnt : Int) = res)
  (i0 : Nat) (hi : i0 ≤ cnt) (h0 : Inv i0) : zz63_F4 big a0 b1 (i0 : Int) = res := by
  have key : ∀ (m i : Nat), i ≤ cnt → cnt < m + i → Inv i → zz63_l4 big zz63_a4 m a0 b1 (i : Int) = res := by
    intro m
    induction m with
    | zero => intro i h1 h2 h3; exact absurd h2 (by omega)
    | succ m ih =>
      intro i h1 h2 h3
      rcases Nat.lt_or_ge i cnt with hlt | hge
      · exact hs _ i hlt h3 (fun h4 => ih (i + 1) (by omega) (by omega) h4)
      · obtain rfl : i = cnt := by omega
        exact he _ h3
  exact key big i0 hi (by have := big_ge; omega) h0
theorem zz65_h2 (cnt : Nat) (Inv : Nat → Y4 → Int → Prop) {res : Option Y6} (hn : cnt ≤ 500000000000)
  (hs : ∀ (rc : Y4 → Int → Int → Option Y6) (i : Nat) (a0 : Y4) (k1 : Int), i < cnt → Inv i a0 k1 → (∀ (a0' : Y4) (k1' : Int), Inv (i + 1) a0' k1' → rc a0' k1' ((i + 1 : Nat) : Int) = res) → zz65_b2 rc zz65_a2 a0 k1 (i : Int) = res)
  (he : ∀ (rc : Y4 → Int → Int → Option Y6) (a0 : Y4) (k1 : Int), Inv cnt a0 k1 → zz65_b2 rc zz65_a2 a0 k1 (cnt : Int) = res)
  (i0 : Nat) (hi : i0 ≤ cnt) (a0 : Y4) (k1 : Int) (h0 : Inv i0 a0 k1) : zz65_F2 big a0 k1 (i0 : Int) = res := by
  have key : ∀ (m i : Nat) (a0 : Y4) (k1 : Int), i ≤ cnt → cnt < m + i → Inv i a0 k1 → zz65_l2 big zz65_a2 m a0 k1 (i : Int) = res := by
    intro m
    induction m with
    | zero => intro i a0 k1 h1 h2 h3; exact absurd h2 (by omega)
    | succ m ih =>
      intro i a0 k1 h1 h2 h3
      rcases Nat.lt_or_ge i cnt with hlt | hge
      · exact hs _ i a0 k1 hlt h3 (fun a0' k1' h4 => ih (i + 1) a0' k1' (by omega) (by omega) h4)
      · obtain rfl : i = cnt := by omega
        exact he _ a0 k1 h3
  exact key big i0 a0 k1 hi (by have := big_ge; omega) h0
theorem zz66_h2 (cnt : Nat) (Inv : Nat → Y3 → Int → Prop) {res : Option (Int × Y2)} (hn : cnt ≤ 500000000000)
  (hs : ∀ (rc : Y3 → Int → Int → Option (Int × Y2)) (i : Nat) (a0 : Y3) (k1 : Int), i < cnt → Inv i a0 k1 → (∀ (a0' : Y3) (k1' : Int), Inv (i + 1) a0' k1' → rc a0' k1' ((i + 1 : Nat) : Int) = res) → zz66_b2 rc zz66_a2 a0 k1 (i : Int) = res)
  (he : ∀ (rc : Y3 → Int → Int → Option (Int × Y2)) (a0 : Y3) (k1 : Int), Inv cnt a0 k1 → zz66_b2 rc zz66_a2 a0 k1 (cnt : Int) = res)
  (i0 : Nat) (hi : i0 ≤ cnt) (a0 : Y3) (k1 : Int) (h0 : Inv i0 a0 k1) : zz66_F2 big a0 k1 (i0 : Int) = res := by
  have key : ∀ (m i : Nat) (a0 : Y3) (k1 : Int), i ≤ cnt → cnt < m + i → Inv i a0 k1 → zz66_l2 big zz66_a2 m a0 k1 (i : Int) = res := by
    intro m
    induction m with
    | zero => intro i a0 k1 h1 h2 h3; exact absurd h2 (by omega)
    | succ m ih =>
      intro i a0 k1 h1 h2 h3
      rcases Nat.lt_or_ge i cnt with hlt | hge
      · exact hs _ i a0 k1 hlt h3 (fun a0' k1' h4 => ih (i + 1) a0' k1' (by omega) (by omega) h4)
      · obtain rfl : i = cnt := by omega
        exact he _ a0 k1 h3
  exact key big i0 a0 k1 hi (by have := big_ge; omega) h0
theorem zz68_h2 {a0 : Y4} (cnt : Nat) (Inv : Nat → Int → Prop) {res : Option (Int × Unit)} (hn : cnt ≤ 500000000000)
  (hs : ∀ (rc : Y4 → Int → Int → Option (Int × Unit)) (i : Nat) (k1 : Int), i < cnt → Inv i k1 → (∀ (k1' : Int), Inv (i + 1) k1' → rc a0 k1' ((i + 1 : Nat) : Int) = res) → zz68_b2 rc zz68_a2 a0 k1 (i : Int) = res)
  (he : ∀ (rc : Y4 → Int → Int → Option (Int × Unit)) (k1 : Int), Inv cnt k1 → zz68_b2 rc zz68_a2 a0 k1 (cnt : Int) = res)
  (i0 : Nat) (hi : i0 ≤ cnt) (k1 : Int) (h0 : Inv i0 k1) : zz68_F2 big a0 k1 (i0 : Int) = res := by
  have key : ∀ (m i : Nat) (k1 : Int), i ≤ cnt → cnt < m + i → Inv i k1 → zz68_l2 big zz68_a2 m a0 k1 (i : Int) = res := by
    intro m
    induction m with
    | zero => intro i k1 h1 h2 h3; exact absurd h2 (by omega)
    | succ m ih =>
      intro i k1 h1 h2 h3
      rcases Nat.lt_or_ge i cnt with hlt | hge
      · exact hs _ i k1 hlt h3 (fun k1' h4 => ih (i + 1) k1' (by omega) (by omega) h4)
      · obtain rfl : i = cnt := by omega
        exact he _ k1 h3
  exact key big i0 k1 hi (by have := big_ge; omega) h0
theorem zz69_h4 {f2 : Y4} {p3 : Y2} {q4 : Y2} (cnt : Nat) (Inv : Nat → Prop) {res : Option (Bool × Unit)} (hn : cnt ≤ 500000000000)
  (hs : ∀ (rc : Y4 → Y2 → Y2 → Int → Option (Bool × Unit)) (i : Nat), i < cnt → Inv i → (Inv (i + 1) → rc f2 p3 q4 ((i + 1 : Nat) : Int) = res) → zz69_b4 (zz69_F7 big rc zz69_a4) zz69_a4 f2 p3 q4 (i : Int) = res)
  (he : ∀ (rc : Y4 → Y2 → Y2 → Int → Option (Bool × Unit)), Inv cnt → zz69_b4 (zz69_F7 big rc zz69_a4) zz69_a4 f2 p3 q4 (cnt : Int) = res)
  (i0 : Nat) (hi : i0 ≤ cnt) (h0 : Inv i0) : zz69_F4 big f2 p3 q4 (i0 : Int) = res := by
  have key : ∀ (m i : Nat), i ≤ cnt → cnt < m + i → Inv i → zz69_l4 big zz69_a4 m f2 p3 q4 (i : Int) = res := by
    intro m
    induction m with
    | zero => intro i h1 h2 h3; exact absurd h2 (by omega)
    | succ m ih =>
      intro i h1 h2 h3
      rcases Nat.lt_or_ge i cnt with hlt | hge
      · exact hs _ i hlt h3 (fun h4 => ih (i + 1) (by omega) (by omega) h4)
      · obtain rfl : i = cnt := by omega
        exact he _ h3
  exact key big i0 hi (by have := big_ge; omega) h0
theorem zz69_h7 {rec : Y4 → Y2 → Y2 → Int → Option (Bool × Unit)} {k : Option (Bool × Unit)} {f2 : Y4} {p3 : Y2} {q4 : Y2} {x7 : Int} (cnt : Nat) (Inv : Nat → Prop) {res : Option (Bool × Unit)} (hn : cnt ≤ 500000000000)
  (hs : ∀ (rc : Y4 → Y2 → Y2 → Int → Int → Option (Bool × Unit)) (i : Nat), i < cnt → Inv i → (Inv (i + 1) → rc f2 p3 q4 x7 ((i + 1 : Nat) : Int) = res) → zz69_b7 rc (zz69_a7 rec) f2 p3 q4 x7 (i : Int) = res)
  (he : ∀ (rc : Y4 → Y2 → Y2 → Int → Int → Option (Bool × Unit)), Inv cnt → zz69_b7 rc (zz69_a7 rec) f2 p3 q4 x7 (cnt : Int) = res)
  (i0 : Nat) (hi : i0 ≤ cnt) (h0 : Inv i0) : zz69_F7 big rec k f2 p3 q4 x7 (i0 : Int) = res := by
  have key : ∀ (m i : Nat), i ≤ cnt → cnt < m + i → Inv i → zz69_l7 big (zz69_a7 rec) m f2 p3 q4 x7 (i : Int) = res := by
    intro m
    induction m with
    | zero => intro i h1 h2 h3; exact absurd h2 (by omega)
    | succ m ih =>
      intro i h1 h2 h3
      rcases Nat.lt_or_ge i cnt with hlt | hge
      · exact hs _ i hlt h3 (fun h4 => ih (i + 1) (by omega) (by omega) h4)
      · obtain rfl : i = cnt := by omega
        exact he _ h3
  exact key big i0 hi (by have := big_ge; omega) h0
theorem zz70_h6 {f2 : Y4} {q4 : Y2} {from9 : Y4} {to10 : Y4} (cnt : Nat) (Inv : Nat → Y4 → Prop) {res : Option ((Y4 × (Bool × Unit)) × Unit)} (hn : cnt ≤ 500000000000)
  (hs : ∀ (rc : Y4 → Y2 → Y4 → Y4 → Y4 → Int → Option ((Y4 × (Bool × Unit)) × Unit)) (i : Nat) (out8 : Y4), i < cnt → Inv i out8 → (∀ (out8' : Y4), Inv (i + 1) out8' → rc f2 q4 out8' from9 to10 ((i + 1 : Nat) : Int) = res) → zz70_b6 (zz70_F9 big rc zz70_a6) zz70_a6 f2 q4 out8 from9 to10 (i : Int) = res)
  (he : ∀ (rc : Y4 → Y2 → Y4 → Y4 → Y4 → Int → Option ((Y4 × (Bool × Unit)) × Unit)) (out8 : Y4), Inv cnt out8 → zz70_b6 (zz70_F9 big rc zz70_a6) zz70_a6 f2 q4 out8 from9 to10 (cnt : Int) = res)
  (i0 : Nat) (hi : i0 ≤ cnt) (out8 : Y4) (h0 : Inv i0 out8) : zz70_F6 big f2 q4 out8 from9 to10 (i0 : Int) = res := by
  have key : ∀ (m i : Nat) (out8 : Y4), i ≤ cnt → cnt < m + i → Inv i out8 → zz70_l6 big zz70_a6 m f2 q4 out8 from9 to10 (i : Int) = res := by
    intro m
    induction m with
    | zero => intro i out8 h1 h2 h3; exact absurd h2 (by omega)
    | succ m ih =>
      intro i out8 h1 h2 h3
      rcases Nat.lt_or_ge i cnt with hlt | hge
      · exact hs _ i out8 hlt h3 (fun out8' h4 => ih (i + 1) out8' (by omega) (by omega) h4)
      · obtain rfl : i = cnt := by omega
        exact he _ out8 h3
  exact key big i0 out8 hi (by have := big_ge; omega) h0
theorem zz70_h9 {rec : Y4 → Y2 → Y4 → Y4 → Y4 → Int → Option ((Y4 × (Bool × Unit)) × Unit)} {k : Y4 → Option ((Y4 × (Bool × Unit)) × Unit)} {f2 : Y4} {q4 : Y2} {out8 : Y4} {from9 : Y4} {to10 : Y4} {i11 : Int} (cnt : Nat) (Inv : Nat → Prop) {res : Option ((Y4 × (Bool × Unit)) × Unit)} (hn : cnt ≤ 500000000000)
  (hs : ∀ (rc : Y4 → Y2 → Y4 → Y4 → Y4 → Int → Int → Option ((Y4 × (Bool × Unit)) × Unit)) (i : Nat), i < cnt → Inv i → (Inv (i + 1) → rc f2 q4 out8 from9 to10 i11 ((i + 1 : Nat) : Int) = res) → zz70_b9 rc (zz70_a9 rec) f2 q4 out8 from9 to10 i11 (i : Int) = res)
  (he : ∀ (rc : Y4 → Y2 → Y4 → Y4 → Y4 → Int → Int → Option ((Y4 × (Bool × Unit)) × Unit)), Inv cnt → zz70_b9 rc (zz70_a9 rec) f2 q4 out8 from9 to10 i11 (cnt : Int) = res)
  (i0 : Nat) (hi : i0 ≤ cnt) (h0 : Inv i0) : zz70_F9 big rec k f2 q4 out8 from9 to10 i11 (i0 : Int) = res := by
  have key : ∀ (m i : Nat), i ≤ cnt → cnt < m + i → Inv i → zz70_l9 big (zz70_a9 rec) m f2 q4 out8 from9 to10 i11 (i : Int) = res := by
    intro m
    induction m with
    | zero => intro i h1 h2 h3; exact absurd h2 (by omega)
    | succ m ih =>
      intro i h1 h2 h3
      rcases Nat.lt_or_ge i cnt with hlt | hge
      · exact hs _ i hlt h3 (fun h4 => ih (i + 1) (by omega) (by omega) h4)
      · obtain rfl : i = cnt := by omega
        exact he _ h3
  exact key big i0 hi (by have := big_ge; omega) h0
theorem zz72_h4 {l0 : Y1} {m1 : Y1} {f2 : Y4} {t47 : Int} (cnt : Nat) (Inv : Nat → Prop) {res : Option (Bool × Unit)} (hn : cnt ≤ 500000000000)
  (hs : ∀ (rc : Y1 → Y1 → Y4 → Int → Int → Option (Bool × Unit)) (i : Nat), i < cnt → Inv i → (Inv (i + 1) → rc l0 m1 f2 t47 ((i + 1 : Nat) : Int) = res) → zz72_b4 (zz72_F7 big rc zz72_a4) zz72_a4 l0 m1 f2 t47 (i : Int) = res)
  (he : ∀ (rc : Y1 → Y1 → Y4 → Int → Int → Option (Bool × Unit)), Inv cnt → zz72_b4 (zz72_F7 big rc zz72_a4) zz72_a4 l0 m1 f2 t47 (cnt : Int) = res)
  (i0 : Nat) (hi : i0 ≤ cnt) (h0 : Inv i0) : zz72_F4 big l0 m1 f2 t47 (i0 : Int) = res := by
  have key : ∀ (m i : Nat), i ≤ cnt → cnt < m + i → Inv i → zz72_l4 big zz72_a4 m l0 m1 f2 t47 (i : Int) = res := by
    intro m
    induction m with
    | zero => intro i h1 h2 h3; exact absurd h2 (by omega)
    | succ m ih =>
      intro i h1 h2 h3
      rcases Nat.lt_or_ge i cnt with hlt | hge
      · exact hs _ i hlt h3 (fun h4 => ih (i + 1) (by omega) (by omega) h4)
      · obtain rfl : i = cnt := by omega
        exact he _ h3
  exact key big i0 hi (by have := big_ge; omega) h0
theorem zz72_h7 {rec : Y1 → Y1 → Y4 → Int → Int → Option (Bool × Unit)} {k : Option (Bool × Unit)} {l0 : Y1} {m1 : Y1} {f2 : Y4} {x7 : Int} {t47 : Int} {t48 : Int} {t52 : Int} (cnt : Nat) (Inv : Nat → Prop) {res : Option (Bool × Unit)} (hn : cnt ≤ 500000000000)
  (hs : ∀ (rc : Y1 → Y1 → Y4 → Int → Int → Int → Int → Int → Option (Bool × Unit)) (i : Nat), i < cnt → Inv i → (Inv (i + 1) → rc l0 m1 f2 x7 t47 t48 t52 ((i + 1 : Nat) : Int) = res) → zz72_b7 rc (zz72_a7 rec) l0 m1 f2 x7 t47 t48 t52 (i : Int) = res)
  (he : ∀ (rc : Y1 → Y1 → Y4 → Int → Int → Int → Int → Int → Option (Bool × Unit)), Inv cnt → zz72_b7 rc (zz72_a7 rec) l0 m1 f2 x7 t47 t48 t52 (cnt : Int) = res)
  (i0 : Nat) (hi : i0 ≤ cnt) (h0 : Inv i0) : zz72_F7 big rec k l0 m1 f2 x7 t47 t48 t52 (i0 : Int) = res := by
  have key : ∀ (m i : Nat), i ≤ cnt → cnt < m + i → Inv i → zz72_l7 big (zz72_a7 rec) m l0 m1 f2 x7 t47 t48 t52 (i : Int) = res := by
    intro m
    induction m with
    | zero => intro i h1 h2 h3; exact absurd h2 (by omega)
    | succ m ih =>
      intro i h1 h2 h3
      rcases Nat.lt_or_ge i cnt with hlt | hge
      · exact hs _ i hlt h3 (fun h4 => ih (i + 1) (by omega) (by omega) h4)
      · obtain rfl : i = cnt := by omega
        exact he _ h3
  exact key big i0 hi (by have := big_ge; omega) h0
theorem zz73_h6 {f2 : Y4} {l8 : Y1} {m9 : Y1} {t35 : Y4} {t36 : Int} (cnt : Nat) (Inv : Nat → Y4 → Prop) {res : Option ((Y4 × (Bool × Unit)) × Unit)} (hn : cnt ≤ 500000000000)
  (hs : ∀ (rc : Y4 → Y1 → Y1 → Y4 → Y4 → Int → Int → Option ((Y4 × (Bool × Unit)) × Unit)) (i : Nat) (list11 : Y4), i < cnt → Inv i list11 → (∀ (list11' : Y4), Inv (i + 1) list11' → rc f2 l8 m9 list11' t35 t36 ((i + 1 : Nat) : Int) = res) → zz73_b6 (zz73_F9 big rc zz73_a6) zz73_a6 f2 l8 m9 list11 t35 t36 (i : Int) = res)
  (he : ∀ (rc : Y4 → Y1 → Y1 → Y4 → Y4 → Int → Int → Option ((Y4 × (Bool × Unit)) × Unit)) (list11 : Y4), Inv cnt list11 → zz73_b6 (zz73_F9 big rc zz73_a6) zz73_a6 f2 l8 m9 list11 t35 t36 (cnt : Int) = res)
  (i0 : Nat) (hi : i0 ≤ cnt) (list11 : Y4) (h0 : Inv i0 list11) : zz73_F6 big f2 l8 m9 list11 t35 t36 (i0 : Int) = res := by
  have key : ∀ (m i : Nat) (list11 : Y4), i ≤ cnt → cnt < m + i → Inv i list11 → zz73_l6 big zz73_a6 m f2 l8 m9 list11 t35 t36 (i : Int) = res := by
    intro m
    induction m with
    | zero => intro i list11 h1 h2 h3; exact absurd h2 (by omega)
    | succ m ih =>
      intro i list11 h1 h2 h3
      rcases Nat.lt_or_ge i cnt with hlt | hge
      · exact hs _ i list11 hlt h3 (fun list11' h4 => ih (i + 1) list11' (by omega) (by omega) h4)
      · obtain rfl : i = cnt := by omega
        exact he _ list11 h3
  exact key big i0 list11 hi (by have := big_ge; omega) h0
theorem zz73_h9 {rec : Y4 → Y1 → Y1 → Y4 → Y4 → Int → Int → Option ((Y4 × (Bool × Unit)) × Unit)} {k : Y4 → Option ((Y4 × (Bool × Unit)) × Unit)} {f2 : Y4} {l8 : Y1} {m9 : Y1} {list11 : Y4} {atom13 : Int} {t35 : Y4} {t36 : Int} {t37 : Int} {t42 : Y4} {t43 : Int} (cnt : Nat) (Inv : Nat → Prop) {res : Option ((Y4 × (Bool × Unit)) × Unit)} (hn : cnt ≤ 500000000000)
  (hs : ∀ (rc : Y4 → Y1 → Y1 → Y4 → Int → Y4 → Int → Int → Y4 → Int → Int → Option ((Y4 × (Bool × Unit)) × Unit)) (i : Nat), i < cnt → Inv i → (Inv (i + 1) → rc f2 l8 m9 list11 atom13 t35 t36 t37 t42 t43 ((i + 1 : Nat) : Int) = res) → zz73_b9 (zz73_a9 rec) rc f2 l8 m9 list11 atom13 t35 t36 t37 t42 t43 (i : Int) = res)
  (he : ∀ (rc : Y4 → Y1 → Y1 → Y4 → Int → Y4 → Int → Int → Y4 → Int → Int → Option ((Y4 × (Bool × Unit)) × Unit)), Inv cnt → zz73_b9 (zz73_a9 rec) rc f2 l8 m9 list11 atom13 t35 t36 t37 t42 t43 (cnt : Int) = res)
  (i0 : Nat) (hi : i0 ≤ cnt) (h0 : Inv i0) : zz73_F9 big rec k f2 l8 m9 list11 atom13 t35 t36 t37 t42 t43 (i0 : Int) = res := by
  have key : ∀ (m i : Nat), i ≤ cnt → cnt < m + i → Inv i → zz73_l9 big (zz73_a9 rec) m f2 l8 m9 list11 atom13 t35 t36 t37 t42 t43 (i : Int) = res := by
    intro m
    induction m with
    | zero => intro i h1 h2 h3; exact absurd h2 (by omega)
    | succ m ih =>
      intro i h1 h2 h3
      rcases Nat.lt_or_ge i cnt with hlt | hge
      · exact hs _ i hlt h3 (fun h4 => ih (i + 1) (by omega) (by omega) h4)
      · obtain rfl : i = cnt := by omega
        exact he _ h3
  exact key big i0 hi (by have := big_ge; omega) h0
theorem zz74_h5 {p1 : Y2} {t2 : Y7} {n3 : Int} {dual4 : Y2} (cnt : Nat) (Inv : Nat → Y6 → Y6 → Prop) {res : Option (Y7 × Unit)} (hn : cnt ≤ 500000000000)
  (hs : ∀ (rc : Y2 → Y7 → Int → Y2 → Y6 → Y6 → Int → Option (Y7 × Unit)) (i : Nat) (meet5 : Y6) (join6 : Y6), i < cnt → Inv i meet5 join6 → (∀ (meet5' : Y6) (join6' : Y6), Inv (i + 1) meet5' join6' → rc p1 t2 n3 dual4 meet5' join6' ((i + 1 : Nat) : Int) = res) → zz74_b5 (zz74_F8 big rc zz74_a5) zz74_a5 p1 t2 n3 dual4 meet5 join6 (i : Int) = res)
  (he : ∀ (rc : Y2 → Y7 → Int → Y2 → Y6 → Y6 → Int → Option (Y7 × Unit)) (meet5 : Y6) (join6 : Y6), Inv cnt meet5 join6 → zz74_b5 (zz74_F8 big rc zz74_a5) zz74_a5 p1 t2 n3 dual4 meet5 join6 (cnt : Int) = res)
  (i0 : Nat) (hi : i0 ≤ cnt) (meet5 : Y6) (join6 : Y6) (h0 : Inv i0 meet5 join6) : zz74_F5 big p1 t2 n3 dual4 meet5 join6 (i0 : Int) = res := by
  have key : ∀ (m i : Nat) (meet5 : Y6) (join6 : Y6), i ≤ cnt → cnt < m + i → Inv i meet5 join6 → zz74_l5 big zz74_a5 m p1 t2 n3 dual4 meet5 join6 (i : Int) = res := by
    intro m
    induction m with
    | zero => intro i meet5 join6 h1 h2 h3; exact absurd h2 (by omega)
    | succ m ih =>
      intro i meet5 join6 h1 h2 h3
      rcases Nat.lt_or_ge i cnt with hlt | hge
      · exact hs _ i meet5 join6 hlt h3 (fun meet5' join6' h4 => ih (i + 1) meet5' join6' (by omega) (by omega) h4)
      · obtain rfl : i = cnt := by omega
        exact he _ meet5 join6 h3
  exact key big i0 meet5 join6 hi (by have := big_ge; omega) h0
theorem zz74_h8 {rec : Y2 → Y7 → Int → Y2 → Y6 → Y6 → Int → Option (Y7 × Unit)} {k : Y7 → Int → Y6 → Y6 → Option (Y7 × Unit)} {p1 : Y2} {t2 : Y7} {n3 : Int} {dual4 : Y2} {x7 : Int} (cnt : Nat) (Inv : Nat → Y6 → Y6 → Prop) {res : Option (Y7 × Unit)} (hn : cnt ≤ 500000000000)
  (hs : ∀ (rc : Y2 → Y7 → Int → Y2 → Y6 → Y6 → Int → Int → Option (Y7 × Unit)) (i : Nat) (meet5 : Y6) (join6 : Y6), i < cnt → Inv i meet5 join6 → (∀ (meet5' : Y6) (join6' : Y6), Inv (i + 1) meet5' join6' → rc p1 t2 n3 dual4 meet5' join6' x7 ((i + 1 : Nat) : Int) = res) → zz74_b8 rc (zz74_a8 rec) p1 t2 n3 dual4 meet5 join6 x7 (i : Int) = res)
  (he : ∀ (rc : Y2 → Y7 → Int → Y2 → Y6 → Y6 → Int → Int → Option (Y7 × Unit)) (meet5 : Y6) (join6 : Y6), Inv cnt meet5 join6 → zz74_b8 rc (zz74_a8 rec) p1 t2 n3 dual4 meet5 join6 x7 (cnt : Int) = res)
  (i0 : Nat) (hi : i0 ≤ cnt) (meet5 : Y6) (join6 : Y6) (h0 : Inv i0 meet5 join6) : zz74_F8 big rec k p1 t2 n3 dual4 meet5 join6 x7 (i0 : Int) = res := by
  have key : ∀ (m i : Nat) (meet5 : Y6) (join6 : Y6), i ≤ cnt → cnt < m + i → Inv i meet5 join6 → zz74_l8 big (zz74_a8 rec) m p1 t2 n3 dual4 meet5 join6 x7 (i : Int) = res := by
    intro m
    induction m with
    | zero => intro i meet5 join6 h1 h2 h3; exact absurd h2 (by omega)
    | succ m ih =>
      intro i meet5 join6 h1 h2 h3
      rcases Nat.lt_or_ge i cnt with hlt | hge
      · exact hs _ i meet5 join6 hlt h3 (fun meet5' join6' h4 => ih (i + 1) meet5' join6' (by omega) (by omega) h4)
      · obtain rfl : i = cnt := by omega
        exact he _ meet5 join6 h3
  exact key big i0 meet5 join6 hi (by have := big_ge; omega) h0
theorem zz75_h3 {p1 : Y2} (cnt : Nat) (Inv : Nat → Y4 → Prop) {res : Option (Y4 × Unit)} (hn : cnt ≤ 500000000000)
  (hs : ∀ (rc : Y2 → Y4 → Int → Option (Y4 × Unit)) (i : Nat) (out3 : Y4), i < cnt → Inv i out3 → (∀ (out3' : Y4), Inv (i + 1) out3' → rc p1 out3' ((i + 1 : Nat) : Int) = res) → zz75_b3 rc zz75_a3 p1 out3 (i : Int) = res)
  (he : ∀ (rc : Y2 → Y4 → Int → Option (Y4 × Unit)) (out3 : Y4), Inv cnt out3 → zz75_b3 rc zz75_a3 p1 out3 (cnt : Int) = res)
  (i0 : Nat) (hi : i0 ≤ cnt) (out3 : Y4) (h0 : Inv i0 out3) : zz75_F3 big p1 out3 (i0 : Int) = res := by
  have key : ∀ (m i : Nat) (out3 : Y4), i ≤ cnt → cnt < m + i → Inv i out3 → zz75_l3 big zz75_a3 m p1 out3 (i : Int) = res := by
    intro m
    induction m with
    | zero => intro i out3 h1 h2 h3; exact absurd h2 (by omega)
    | succ m ih =>
      intro i out3 h1 h2 h3
      rcases Nat.lt_or_ge i cnt with hlt | hge
      · exact hs _ i out3 hlt h3 (fun out3' h4 => ih (i + 1) out3' (by omega) (by omega) h4)
      · obtain rfl : i = cnt := by omega
        exact he _ out3 h3
  exact key big i0 out3 hi (by have := big_ge; omega) h0
theorem zz77_h3 {t2 : Y6} {t7 : Y3} {t8 : Int} (cnt : Nat) (Inv : Nat → Y6 → Prop) {res : Option (Y6 × Unit)} (hn : cnt ≤ 500000000000)
  (hs : ∀ (rc : Y6 → Y6 → Y3 → Int → Int → Option (Y6 × Unit)) (i : Nat) (f3 : Y6), i < cnt → Inv i f3 → (∀ (f3' : Y6), Inv (i + 1) f3' → rc t2 f3' t7 t8 ((i + 1 : Nat) : Int) = res) → zz77_b3 rc zz77_a3 t2 f3 t7 t8 (i : Int) = res)
  (he : ∀ (rc : Y6 → Y6 → Y3 → Int → Int → Option (Y6 × Unit)) (f3 : Y6), Inv cnt f3 → zz77_b3 rc zz77_a3 t2 f3 t7 t8 (cnt : Int) = res)
  (i0 : Nat) (hi : i0 ≤ cnt) (f3 : Y6) (h0 : Inv i0 f3) : zz77_F3 big t2 f3 t7 t8 (i0 : Int) = res := by
  have key : ∀ (m i : Nat) (f3 : Y6), i ≤ cnt → cnt < m + i → Inv i f3 → zz77_l3 big zz77_a3 m t2 f3 t7 t8 (i : Int) = res := by
    intro m
    induction m with
    | zero => intro i f3 h1 h2 h3; exact absurd h2 (by omega)
    | succ m ih =>
      intro i f3 h1 h2 h3
      rcases Nat.lt_or_ge i cnt with hlt | hge
      · exact hs _ i f3 hlt h3 (fun f3' h4 => ih (i + 1) f3' (by omega) (by omega) h4)
      · obtain rfl : i = cnt := by omega
        exact he _ f3 h3
  exact key big i0 f3 hi (by have := big_ge; omega) h0
theorem zz79_h3 {l0 : Y1} {t10 : Int} (cnt : Nat) (Inv : Nat → Y4 → Prop) {res : Option (Y4 × Unit)} (hn : cnt ≤ 500000000000)
  (hs : ∀ (rc : Y1 → Y4 → Int → Int → Option (Y4 × Unit)) (i : Nat) (list3 : Y4), i < cnt → Inv i list3 → (∀ (list3' : Y4), Inv (i + 1) list3' → rc l0 list3' t10 ((i + 1 : Nat) : Int) = res) → zz79_b3 rc zz79_a3 l0 list3 t10 (i : Int) = res)
  (he : ∀ (rc : Y1 → Y4 → Int → Int → Option (Y4 × Unit)) (list3 : Y4), Inv cnt list3 → zz79_b3 rc zz79_a3 l0 list3 t10 (cnt : Int) = res)
  (i0 : Nat) (hi : i0 ≤ cnt) (list3 : Y4) (h0 : Inv i0 list3) : zz79_F3 big l0 list3 t10 (i0 : Int) = res := by
  have key : ∀ (m i : Nat) (list3 : Y4), i ≤ cnt → cnt < m + i → Inv i list3 → zz79_l3 big zz79_a3 m l0 list3 t10 (i : Int) = res := by
    intro m
    induction m with
    | zero => intro i list3 h1 h2 h3; exact absurd h2 (by omega)
    | succ m ih =>
      intro i list3 h1 h2 h3
      rcases Nat.lt_or_ge i cnt with hlt | hge
      · exact hs _ i list3 hlt h3 (fun list3' h4 => ih (i + 1) list3' (by omega) (by omega) h4)
      · obtain rfl : i = cnt := by omega
        exact he _ list3 h3
  exact key big i0 list3 hi (by have := big_ge; omega) h0
theorem zz82_h4 {a0 : (List Y6)} {b1 : (List Y6)} (cnt : Nat) (Inv : Nat → Prop) {res : Option (Bool × Unit)} (hn : cnt ≤ 500000000000)
  (hs : ∀ (rc : (List Y6) → (List Y6) → Int → Option (Bool × Unit)) (i : Nat), i < cnt → Inv i → (Inv (i + 1) → rc a0 b1 ((i + 1 : Nat) : Int) = res) → zz82_b4 rc zz82_a4 a0 b1 (i : Int) = res)
  (he : ∀ (rc : (List Y6) → (List Y6) → Int → Option (Bool × Unit)), Inv cnt → zz82_b4 rc zz82_a4 a0 b1 (cnt : Int) = res)
  (i0 : Nat) (hi : i0 ≤ cnt) (h0 : Inv i0) : zz82_F4 big a0 b1 (i0 : Int) = res := by
  have key : ∀ (m i : Nat), i ≤ cnt → cnt < m + i → Inv i → zz82_l4 big zz82_a4 m a0 b1 (i : Int) = res := by
    intro m
    induction m with
    | zero => intro i h1 h2 h3; exact absurd h2 (by omega)
    | succ m ih =>
      intro i h1 h2 h3
      rcases Nat.lt_or_ge i cnt with hlt | hge
      · exact hs _ i hlt h3 (fun h4 => ih (i + 1) (by omega) (by omega) h4)
      · obtain rfl : i = cnt := by omega
        exact he _ h3
  exact key big i0 hi (by have := big_ge; omega) h0
theorem zz84_h2 (cnt : Nat) (Inv : Nat → (List Y6) → Int → Prop) {res : Option Y7} (hn : cnt ≤ 500000000000)
  (hs : ∀ (rc : (List Y6) → Int → Int → Option Y7) (i : Nat) (a0 : (List Y6)) (k1 : Int), i < cnt → Inv i a0 k1 → (∀ (a0' : (List Y6)) (k1' : Int), Inv (i + 1) a0' k1' → rc a0' k1' ((i + 1 : Nat) : Int) = res) → zz84_b2 rc zz84_a2 a0 k1 (i : Int) = res)
  (he : ∀ (rc : (List Y6) → Int → Int → Option Y7) (a0 : (List Y6)) (k1 : Int), Inv cnt a0 k1 → zz84_b2 rc zz84_a2 a0 k1 (cnt : Int) = res)
  (i0 : Nat) (hi : i0 ≤ cnt) (a0 : (List Y6)) (k1 : Int) (h0 : Inv i0 a0 k1) : zz84_F2 big a0 k1 (i0 : Int) = res := by
  have key : ∀ (m i : Nat) (a0 : (List Y6)) (k1 : Int), i ≤ cnt → cnt < m + i → Inv i a0 k1 → zz84_l2 big zz84_a2 m a0 k1 (i : Int) = res := by
    intro m
    induction m with
    | zero => intro i a0 k1 h1 h2 h3; exact absurd h2 (by omega)
    | succ m ih =>
      intro i a0 k1 h1 h2 h3
      rcases Nat.lt_or_ge i cnt with hlt | hge
      · exact hs _ i a0 k1 hlt h3 (fun a0' k1' h4 => ih (i + 1) a0' k1' (by omega) (by omega) h4)
      · obtain rfl : i = cnt := by omega
        exact he _ a0 k1 h3
  exact key big i0 a0 k1 hi (by have := big_ge; omega) h0
theorem zz86_h2 {a0 : (List Y6)} (cnt : Nat) (Inv : Nat → Int → Prop) {res : Option (Int × Unit)} (hn : cnt ≤ 500000000000)
  (hs : ∀ (rc : (List Y6) → Int → Int → Option (Int × Unit)) (i : Nat) (k1 : Int), i < cnt → Inv i k1 → (∀ (k1' : Int), Inv (i + 1) k1' → rc a0 k1' ((i + 1 : Nat) : Int) = res) → zz86_b2 rc zz86_a2 a0 k1 (i : Int) = res)
  (he : ∀ (rc : (List Y6) → Int → Int → Option (Int × Unit)) (k1 : Int), Inv cnt k1 → zz86_b2 rc zz86_a2 a0 k1 (cnt : Int) = res)
  (i0 : Nat) (hi : i0 ≤ cnt) (k1 : Int) (h0 : Inv i0 k1) : zz86_F2 big a0 k1 (i0 : Int) = res := by
  have key : ∀ (m i : Nat) (k1 : Int), i ≤ cnt → cnt < m + i → Inv i k1 → zz86_l2 big zz86_a2 m a0 k1 (i : Int) = res := by
    intro m
    induction m with
    | zero => intro i k1 h1 h2 h3; exact absurd h2 (by omega)
    | succ m ih =>
      intro i k1 h1 h2 h3
      rcases Nat.lt_or_ge i cnt with hlt | hge
      · exact hs _ i k1 hlt h3 (fun k1' h4 => ih (i + 1) k1' (by omega) (by omega) h4)
      · obtain rfl : i = cnt := by omega
        exact he _ k1 h3
  exact key big i0 k1 hi (by have := big_ge; omega) h0
end Go.Proofs.Ytafkhhcnmmkieaa
