import Derived.Test.YtlndlclemhfekaaPLib
import Derived.Test.YtlndlclemhfekaaGk11
set_option linter.unusedVariables false
namespace Go.Proofs.Ytlndlclemhfekaa
open Go Go.Gx Go.Proofs

/-! rules for the loops -/
theorem zz4_h3 {a0 : Y3} (cnt : Nat) (Inv : Nat → Y3 → Prop) {res : Option Y2} (hn : cnt ≤ 500000000000)
  (hs : ∀ (rc : Y3 → Y3 → Int → Option Y2) (i : Nat) (out3 : Y3), i < cnt → Inv i out3 → (∀ (out3' : Y3), Inv (i + 1) out3' → rc a0 out3' ((i + 1 : Nat) : Int) = res) → zz4_b3 rc zz4_a3 a0 out3 (i : Int) = res)
  (he : ∀ (rc : Y3 → Y3 → Int → Option Y2) (out3 : Y3), Inv cnt out3 → zz4_b3 rc zz4_a3 a0 out3 (cnt : Int) = res)
  (i0 : Nat) (hi : i0 ≤ cnt) (out3 : Y3) (h0 : Inv i0 out3) : zz4_F3 big a0 out3 (i0 : Int) = res := by
  have key : ∀ (m i : Nat) (out3 : Y3), i ≤ cnt → cnt < m + i → Inv i out3 → zz4_l3 big zz4_a3 m a0 out3 (i : Int) = res := by
    intro m
    induction m with
    | zero => intro i out3 h1 h2 h3; exact absurd h2 (by omega)
    | succ m ih =>
      intro i out3 h1 h2 h3
      rcases Nat.lt_or_ge i cnt with hlt | hge
      · exact hs _ i out3 hlt h3 (fun out3' h4 => ih (i + 1) out3' (by omega) (by omega) h4)
      · obtain rfl : i = cnt := by omega
        exact he _ out3 h3
  exact key big i0 out3 hi (by have := big_ge; omega) h0
theorem zz8_h2 {l0 : Y4} {n1 : Int} (cnt : Nat) (Inv : Nat → Prop) {res : Option (Bool × Unit)} (hn : cnt ≤ 500000000000)
  (hs : ∀ (rc : Y4 → Int → Int → Option (Bool × Unit)) (i : Nat), i < cnt → Inv i → (Inv (i + 1) → rc l0 n1 ((i + 1 : Nat) : Int) = res) → zz8_b2 rc zz8_a2 l0 n1 (i : Int) = res)
  (he : ∀ (rc : Y4 → Int → Int → Option (Bool × Unit)), Inv cnt → zz8_b2 rc zz8_a2 l0 n1 (cnt : Int) = res)
  (i0 : Nat) (hi : i0 ≤ cnt) (h0 : Inv i0) : zz8_F2 big l0 n1 (i0 : Int) = res := by
  have key : ∀ (m i : Nat), i ≤ cnt → cnt < m + i → Inv i → zz8_l2 big zz8_a2 m l0 n1 (i : Int) = res := by
    intro m
    induction m with
    | zero => intro i h1 h2 h3; exact absurd h2 (by omega)
    | succ m ih =>
      intro i h1 h2 h3
      rcases Nat.lt_or_ge i cnt with hlt | hge
      · exact hs _ i hlt h3 (fun h4 => ih (i + 1) (by omega) (by omega) h4)
      · obtain rfl : i = cnt := by omega
        exact he _ h3
  exact key big i0 hi (by have := big_ge; omega) h0
theorem zz9_h2 {x0 : Y4} {y1 : Y4} (cnt : Nat) (Inv : Nat → Prop) {res : Option (Bool × Unit)} (hn : cnt ≤ 500000000000)
  (hs : ∀ (rc : Y4 → Y4 → Int → Option (Bool × Unit)) (i : Nat), i < cnt → Inv i → (Inv (i + 1) → rc x0 y1 ((i + 1 : Nat) : Int) = res) → zz9_b2 rc zz9_a2 x0 y1 (i : Int) = res)
  (he : ∀ (rc : Y4 → Y4 → Int → Option (Bool × Unit)), Inv cnt → zz9_b2 rc zz9_a2 x0 y1 (cnt : Int) = res)
  (i0 : Nat) (hi : i0 ≤ cnt) (h0 : Inv i0) : zz9_F2 big x0 y1 (i0 : Int) = res := by
  have key : ∀ (m i : Nat), i ≤ cnt → cnt < m + i → Inv i → zz9_l2 big zz9_a2 m x0 y1 (i : Int) = res := by
    intro m
    induction m with
    | zero => intro i h1 h2 h3; exact absurd h2 (by omega)
    | succ m ih =>
      intro i h1 h2 h3
      rcases Nat.lt_or_ge i cnt with hlt | hge
      · exact hs _ i hlt h3 (fun h4 => ih (i + 1) (by omega) (by omega) h4)
      · obtain rfl : i = cnt := by omega
        exact he _ h3
  exact key big i0 hi (by have := big_ge; omega) h0
theorem zz10_h5 {p1 : Y2} {n3 : Int} (cnt : Nat) (Inv : Nat → Prop) {res : Option (Bool × Unit)} (hn : cnt ≤ 500000000000)
  (hs : ∀ (rc : Y2 → Int → Int → Option (Bool × Unit)) (i : Nat), i < cnt → Inv i → (Inv (i + 1) → rc p1 n3 ((i + 1 : Nat) : Int) = res) → zz10_b5 rc (zz10_a5 (zz10_F10 big)) p1 n3 (i : Int) = res)
  (he : ∀ (rc : Y2 → Int → Int → Option (Bool × Unit)), Inv cnt → zz10_b5 rc (zz10_a5 (zz10_F10 big)) p1 n3 (cnt : Int) = res)
  (i0 : Nat) (hi : i0 ≤ cnt) (h0 : Inv i0) : zz10_F5 big p1 n3 (i0 : Int) = res := by
  have key : ∀ (m i : Nat), i ≤ cnt → cnt < m + i → Inv i → zz10_l5 big (zz10_a5 (zz10_F10 big)) m p1 n3 (i : Int) = res := by
    intro m
    induction m with
    | zero => intro i h1 h2 h3; exact absurd h2 (by omega)
    | succ m ih =>
      intro i h1 h2 h3
      rcases Nat.lt_or_ge i cnt with hlt | hge
      · exact hs _ i hlt h3 (fun h4 => ih (i + 1) (by omega) (by omega) h4)
      · obtain rfl : i = cnt := by omega
        exact he _ h3
  exact key big i0 hi (by have := big_ge; omega) h0
theorem zz10_h10 {p1 : Y2} {n3 : Int} (cnt : Nat) (Inv : Nat → Prop) {res : Option (Bool × Unit)} (hn : cnt ≤ 500000000000)
  (hs : ∀ (rc : Y2 → Int → Int → Option (Bool × Unit)) (i : Nat), i < cnt → Inv i → (Inv (i + 1) → rc p1 n3 ((i + 1 : Nat) : Int) = res) → zz10_b10 (zz10_F13 big rc zz10_a10) zz10_a10 p1 n3 (i : Int) = res)
  (he : ∀ (rc : Y2 → Int → Int → Option (Bool × Unit)), Inv cnt → zz10_b10 (zz10_F13 big rc zz10_a10) zz10_a10 p1 n3 (cnt : Int) = res)
  (i0 : Nat) (hi : i0 ≤ cnt) (h0 : Inv i0) : zz10_F10 big p1 n3 (i0 : Int) = res := by
  have key : ∀ (m i : Nat), i ≤ cnt → cnt < m + i → Inv i → zz10_l10 big zz10_a10 m p1 n3 (i : Int) = res := by
    intro m
    induction m with
    | zero => intro i h1 h2 h3; exact absurd h2 (by omega)
    | succ m ih =>
      intro i h1 h2 h3
      rcases Nat.lt_or_ge i cnt with hlt | hge
      · exact hs _ i hlt h3 (fun h4 => ih (i + 1) (by omega) (by omega) h4)
      · obtain rfl : i = cnt := by omega
        exact he _ h3
  exact key big i0 hi (by have := big_ge; omega) h0
theorem zz10_h13 {rec : Y2 → Int → Int → Option (Bool × Unit)} {k : Option (Bool × Unit)} {p1 : Y2} {n3 : Int} {x5 : Int} (cnt : Nat) (Inv : Nat → Prop) {res : Option (Bool × Unit)} (hn : cnt ≤ 500000000000)
  (hs : ∀ (rc : Y2 → Int → Int → Int → Option (Bool × Unit)) (i : Nat), i < cnt → Inv i → (Inv (i + 1) → rc p1 n3 x5 ((i + 1 : Nat) : Int) = res) → zz10_b13 rc (zz10_a13 rec) p1 n3 x5 (i : Int) = res)
  (he : ∀ (rc : Y2 → Int → Int → Int → Option (Bool × Unit)), Inv cnt → zz10_b13 rc (zz10_a13 rec) p1 n3 x5 (cnt : Int) = res)
  (i0 : Nat) (hi : i0 ≤ cnt) (h0 : Inv i0) : zz10_F13 big rec k p1 n3 x5 (i0 : Int) = res := by
  have key : ∀ (m i : Nat), i ≤ cnt → cnt < m + i → Inv i → zz10_l13 big (zz10_a13 rec) m p1 n3 x5 (i : Int) = res := by
    intro m
    induction m with
    | zero => intro i h1 h2 h3; exact absurd h2 (by omega)
    | succ m ih =>
      intro i h1 h2 h3
      rcases Nat.lt_or_ge i cnt with hlt | hge
      · exact hs _ i hlt h3 (fun h4 => ih (i + 1) (by omega) (by omega) h4)
      · obtain rfl : i = cnt := by omega
        exact he _ h3
  exact key big i0 hi (by have := big_ge; omega) h0
theorem zz12_h3 {p1 : Y2} {t2 : Y2} (cnt : Nat) (Inv : Nat → Y2 → Prop) {res : Option (Y2 × Unit)} (hn : cnt ≤ 500000000000)
  (hs : ∀ (rc : Y2 → Y2 → Y2 → Int → Option (Y2 × Unit)) (i : Nat) (out3 : Y2), i < cnt → Inv i out3 → (∀ (out3' : Y2), Inv (i + 1) out3' → rc p1 t2 out3' ((i + 1 : Nat) : Int) = res) → zz12_b3 (zz12_F7 big rc zz12_a3) zz12_a3 p1 t2 out3 (i : Int) = res)
  (he : ∀ (rc : Y2 → Y2 → Y2 → Int → Option (Y2 × Unit)) (out3 : Y2), Inv cnt out3 → zz12_b3 (zz12_F7 big rc zz12_a3) zz12_a3 p1 t2 out3 (cnt : Int) = res)
  (i0 : Nat) (hi : i0 ≤ cnt) (out3 : Y2) (h0 : Inv i0 out3) : zz12_F3 big p1 t2 out3 (i0 : Int) = res := by
  have key : ∀ (m i : Nat) (out3 : Y2), i ≤ cnt → cnt < m + i → Inv i out3 → zz12_l3 big zz12_a3 m p1 t2 out3 (i : Int) = res := by
    intro m
    induction m with
    | zero => intro i out3 h1 h2 h3; exact absurd h2 (by omega)
    | succ m ih =>
      intro i out3 h1 h2 h3
      rcases Nat.lt_or_ge i cnt with hlt | hge
      · exact hs _ i out3 hlt h3 (fun out3' h4 => ih (i + 1) out3' (by omega) (by omega) h4)
      · obtain rfl : i = cnt := by omega
        exact he _ out3 h3
  exact key big i0 out3 hi (by have := big_ge; omega) h0
theorem zz12_h7 {rec : Y2 → Y2 → Y2 → Int → Option (Y2 × Unit)} {k : Y2 → Y2 → Option (Y2 × Unit)} {p1 : Y2} {t2 : Y2} {out3 : Y2} {x4 : Int} (cnt : Nat) (Inv : Nat → Y4 → Prop) {res : Option (Y2 × Unit)} (hn : cnt ≤ 500000000000)
  (hs : ∀ (rc : Y2 → Y2 → Y2 → Int → Y4 → Int → Option (Y2 × Unit)) (i : Nat) (below5 : Y4), i < cnt → Inv i below5 → (∀ (below5' : Y4), Inv (i + 1) below5' → rc p1 t2 out3 x4 below5' ((i + 1 : Nat) : Int) = res) → zz12_b7 rc (zz12_a7 rec) p1 t2 out3 x4 below5 (i : Int) = res)
  (he : ∀ (rc : Y2 → Y2 → Y2 → Int → Y4 → Int → Option (Y2 × Unit)) (below5 : Y4), Inv cnt below5 → zz12_b7 rc (zz12_a7 rec) p1 t2 out3 x4 below5 (cnt : Int) = res)
  (i0 : Nat) (hi : i0 ≤ cnt) (below5 : Y4) (h0 : Inv i0 below5) : zz12_F7 big rec k p1 t2 out3 x4 below5 (i0 : Int) = res := by
  have key : ∀ (m i : Nat) (below5 : Y4), i ≤ cnt → cnt < m + i → Inv i below5 → zz12_l7 big (zz12_a7 rec) m p1 t2 out3 x4 below5 (i : Int) = res := by
    intro m
    induction m with
    | zero => intro i below5 h1 h2 h3; exact absurd h2 (by omega)
    | succ m ih =>
      intro i below5 h1 h2 h3
      rcases Nat.lt_or_ge i cnt with hlt | hge
      · exact hs _ i below5 hlt h3 (fun below5' h4 => ih (i + 1) below5' (by omega) (by omega) h4)
      · obtain rfl : i = cnt := by omega
        exact he _ below5 h3
  exact key big i0 below5 hi (by have := big_ge; omega) h0
theorem zz13_h3 {some1 : Y4} {p2 : Y2} (cnt : Nat) (Inv : Nat → Y4 → Prop) {res : Option (Int × Unit)} (hn : cnt ≤ 500000000000)
  (hs : ∀ (rc : Y4 → Y2 → Y4 → Int → Option (Int × Unit)) (i : Nat) (low5 : Y4), i < cnt → Inv i low5 → (∀ (low5' : Y4), Inv (i + 1) low5' → rc some1 p2 low5' ((i + 1 : Nat) : Int) = res) → zz13_b3 (zz13_F7 big rc (zz13_a3 (zz13_F13 big))) (zz13_a3 (zz13_F13 big)) some1 p2 low5 (i : Int) = res)
  (he : ∀ (rc : Y4 → Y2 → Y4 → Int → Option (Int × Unit)) (low5 : Y4), Inv cnt low5 → zz13_b3 (zz13_F7 big rc (zz13_a3 (zz13_F13 big))) (zz13_a3 (zz13_F13 big)) some1 p2 low5 (cnt : Int) = res)
  (i0 : Nat) (hi : i0 ≤ cnt) (low5 : Y4) (h0 : Inv i0 low5) : zz13_F3 big some1 p2 low5 (i0 : Int) = res := by
  have key : ∀ (m i : Nat) (low5 : Y4), i ≤ cnt → cnt < m + i → Inv i low5 → zz13_l3 big (zz13_a3 (zz13_F13 big)) m some1 p2 low5 (i : Int) = res := by
    intro m
    induction m with
    | zero => intro i low5 h1 h2 h3; exact absurd h2 (by omega)
    | succ m ih =>
      intro i low5 h1 h2 h3
      rcases Nat.lt_or_ge i cnt with hlt | hge
      · exact hs _ i low5 hlt h3 (fun low5' h4 => ih (i + 1) low5' (by omega) (by omega) h4)
      · obtain rfl : i = cnt := by omega
        exact he _ low5 h3
  exact key big i0 low5 hi (by have := big_ge; omega) h0
theorem zz13_h7 {rec : Y4 → Y2 → Y4 → Int → Option (Int × Unit)} {k : Y2 → Y4 → Option (Int × Unit)} {some1 : Y4} {p2 : Y2} {low5 : Y4} {z6 : Int} (cnt : Nat) (Inv : Nat → Bool → Prop) {res : Option (Int × Unit)} (hn : cnt ≤ 500000000000)
  (hs : ∀ (rc : Y4 → Y2 → Y4 → Int → Bool → Int → Option (Int × Unit)) (i : Nat) (all7 : Bool), i < cnt → Inv i all7 → (∀ (all7' : Bool), Inv (i + 1) all7' → rc some1 p2 low5 z6 all7' ((i + 1 : Nat) : Int) = res) → zz13_b7 rc (zz13_a7 rec) some1 p2 low5 z6 all7 (i : Int) = res)
  (he : ∀ (rc : Y4 → Y2 → Y4 → Int → Bool → Int → Option (Int × Unit)) (all7 : Bool), Inv cnt all7 → zz13_b7 rc (zz13_a7 rec) some1 p2 low5 z6 all7 (cnt : Int) = res)
  (i0 : Nat) (hi : i0 ≤ cnt) (all7 : Bool) (h0 : Inv i0 all7) : zz13_F7 big rec k some1 p2 low5 z6 all7 (i0 : Int) = res := by
  have key : ∀ (m i : Nat) (all7 : Bool), i ≤ cnt → cnt < m + i → Inv i all7 → zz13_l7 big (zz13_a7 rec) m some1 p2 low5 z6 all7 (i : Int) = res := by
    intro m
    induction m with
    | zero => intro i all7 h1 h2 h3; exact absurd h2 (by omega)
    | succ m ih =>
      intro i all7 h1 h2 h3
      rcases Nat.lt_or_ge i cnt with hlt | hge
      · exact hs _ i all7 hlt h3 (fun all7' h4 => ih (i + 1) all7' (by omega) (by omega) h4)
      · obtain rfl : i = cnt := by omega
        exact he _ all7 h3
  exact key big i0 all7 hi (by have := big_ge; omega) h0
theorem zz13_h13 {p2 : Y2} {low5 : Y4} (cnt : Nat) (Inv : Nat → Prop) {res : Option (Int × Unit)} (hn : cnt ≤ 500000000000)
  (hs : ∀ (rc : Y2 → Y4 → Int → Option (Int × Unit)) (i : Nat), i < cnt → Inv i → (Inv (i + 1) → rc p2 low5 ((i + 1 : Nat) : Int) = res) → zz13_b13 rc zz13_a13 p2 low5 (i : Int) = res)
  (he : ∀ (rc : Y2 → Y4 → Int → Option (Int × Unit)), Inv cnt → zz13_b13 rc zz13_a13 p2 low5 (cnt : Int) = res)
  (i0 : Nat) (hi : i0 ≤ cnt) (h0 : Inv i0) : zz13_F13 big p2 low5 (i0 : Int) = res := by
  have key : ∀ (m i : Nat), i ≤ cnt → cnt < m + i → Inv i → zz13_l13 big zz13_a13 m p2 low5 (i : Int) = res := by
    intro m
    induction m with
    | zero => intro i h1 h2 h3; exact absurd h2 (by omega)
    | succ m ih =>
      intro i h1 h2 h3
      rcases Nat.lt_or_ge i cnt with hlt | hge
      · exact hs _ i hlt h3 (fun h4 => ih (i + 1) (by omega) (by omega) h4)
      · obtain rfl : i = cnt := by omega
        exact he _ h3
  exact key big i0 hi (by have := big_ge; omega) h0
theorem zz14_h5 {p1 : Y2} {dual3 : Y2} (cnt : Nat) (Inv : Nat → Prop) {res : Option (Bool × Unit)} (hn : cnt ≤ 500000000000)
  (hs : ∀ (rc : Y2 → Y2 → Int → Option (Bool × Unit)) (i : Nat), i < cnt → Inv i → (Inv (i + 1) → rc p1 dual3 ((i + 1 : Nat) : Int) = res) → zz14_b5 (zz14_F8 big rc zz14_a5) zz14_a5 p1 dual3 (i : Int) = res)
  (he : ∀ (rc : Y2 → Y2 → Int → Option (Bool × Unit)), Inv cnt → zz14_b5 (zz14_F8 big rc zz14_a5) zz14_a5 p1 dual3 (cnt : Int) = res)
  (i0 : Nat) (hi : i0 ≤ cnt) (h0 : Inv i0) : zz14_F5 big p1 dual3 (i0 : Int) = res := by
  have key : ∀ (m i : Nat), i ≤ cnt → cnt < m + i → Inv i → zz14_l5 big zz14_a5 m p1 dual3 (i : Int) = res := by
    intro m
    induction m with
    | zero => intro i h1 h2 h3; exact absurd h2 (by omega)
    | succ m ih =>
      intro i h1 h2 h3
      rcases Nat.lt_or_ge i cnt with hlt | hge
      · exact hs _ i hlt h3 (fun h4 => ih (i + 1) (by omega) (by omega) h4)
      · obtain rfl : i = cnt := by omega
        exact he _ h3
  exact key big i0 hi (by have := big_ge; omega) h0
theorem zz14_h8 {rec : Y2 → Y2 → Int → Option (Bool × Unit)} {k : Option (Bool × Unit)} {p1 : Y2} {dual3 : Y2} {x4 : Int} (cnt : Nat) (Inv : Nat → Prop) {res : Option (Bool × Unit)} (hn : cnt ≤ 500000000000)
  (hs : ∀ (rc : Y2 → Y2 → Int → Int → Option (Bool × Unit)) (i : Nat), i < cnt → Inv i → (Inv (i + 1) → rc p1 dual3 x4 ((i + 1 : Nat) : Int) = res) → zz14_b8 rc (zz14_a8 rec) p1 dual3 x4 (i : Int) = res)
  (he : ∀ (rc : Y2 → Y2 → Int → Int → Option (Bool × Unit)), Inv cnt → zz14_b8 rc (zz14_a8 rec) p1 dual3 x4 (cnt : Int) = res)
  (i0 : Nat) (hi : i0 ≤ cnt) (h0 : Inv i0) : zz14_F8 big rec k p1 dual3 x4 (i0 : Int) = res := by
  have key : ∀ (m i : Nat), i ≤ cnt → cnt < m + i → Inv i → zz14_l8 big (zz14_a8 rec) m p1 dual3 x4 (i : Int) = res := by
    intro m
    induction m with
    | zero => intro i h1 h2 h3; exact absurd h2 (by omega)
    | succ m ih =>
      intro i h1 h2 h3
      rcases Nat.lt_or_ge i cnt with hlt | hge
      · exact hs _ i hlt h3 (fun h4 => ih (i + 1) (by omega) (by omega) h4)
      · obtain rfl : i = cnt := by omega
        exact he _ h3
  exact key big i0 hi (by have := big_ge; omega) h0
theorem zz17_h4 {x1 : Int} {y2 : Int} {p3 : Y2} (cnt : Nat) (Inv : Nat → Prop) {res : Option (Bool × Unit)} (hn : cnt ≤ 500000000000)
  (hs : ∀ (rc : Int → Int → Y2 → Int → Option (Bool × Unit)) (i : Nat), i < cnt → Inv i → (Inv (i + 1) → rc x1 y2 p3 ((i + 1 : Nat) : Int) = res) → zz17_b4 rc zz17_a4 x1 y2 p3 (i : Int) = res)
  (he : ∀ (rc : Int → Int → Y2 → Int → Option (Bool × Unit)), Inv cnt → zz17_b4 rc zz17_a4 x1 y2 p3 (cnt : Int) = res)
  (i0 : Nat) (hi : i0 ≤ cnt) (h0 : Inv i0) : zz17_F4 big x1 y2 p3 (i0 : Int) = res := by
  have key : ∀ (m i : Nat), i ≤ cnt → cnt < m + i → Inv i → zz17_l4 big zz17_a4 m x1 y2 p3 (i : Int) = res := by
    intro m
    induction m with
    | zero => intro i h1 h2 h3; exact absurd h2 (by omega)
    | succ m ih =>
      intro i h1 h2 h3
      rcases Nat.lt_or_ge i cnt with hlt | hge
      · exact hs _ i hlt h3 (fun h4 => ih (i + 1) (by omega) (by omega) h4)
      · obtain rfl : i = cnt := by omega
        exact he _ h3
  exact key big i0 hi (by have := big_ge; omega) h0
theorem zz18_h4 {p1 : Y2} {bottom4 : Int} (cnt : Nat) (Inv : Nat → Y4 → Prop) {res : Option (Y4 × Unit)} (hn : cnt ≤ 500000000000)
  (hs : ∀ (rc : Y2 → Y4 → Int → Int → Option (Y4 × Unit)) (i : Nat) (out3 : Y4), i < cnt → Inv i out3 → (∀ (out3' : Y4), Inv (i + 1) out3' → rc p1 out3' bottom4 ((i + 1 : Nat) : Int) = res) → zz18_b4 rc zz18_a4 p1 out3 bottom4 (i : Int) = res)
  (he : ∀ (rc : Y2 → Y4 → Int → Int → Option (Y4 × Unit)) (out3 : Y4), Inv cnt out3 → zz18_b4 rc zz18_a4 p1 out3 bottom4 (cnt : Int) = res)
  (i0 : Nat) (hi : i0 ≤ cnt) (out3 : Y4) (h0 : Inv i0 out3) : zz18_F4 big p1 out3 bottom4 (i0 : Int) = res := by
  have key : ∀ (m i : Nat) (out3 : Y4), i ≤ cnt → cnt < m + i → Inv i out3 → zz18_l4 big zz18_a4 m p1 out3 bottom4 (i : Int) = res := by
    intro m
    induction m with
    | zero => intro i out3 h1 h2 h3; exact absurd h2 (by omega)
    | succ m ih =>
      intro i out3 h1 h2 h3
      rcases Nat.lt_or_ge i cnt with hlt | hge
      · exact hs _ i out3 hlt h3 (fun out3' h4 => ih (i + 1) out3' (by omega) (by omega) h4)
      · obtain rfl : i = cnt := by omega
        exact he _ out3 h3
  exact key big i0 out3 hi (by have := big_ge; omega) h0
theorem zz19_h3 {x1 : Int} {p2 : Y2} (cnt : Nat) (Inv : Nat → Y4 → Prop) {res : Option (Y4 × Unit)} (hn : cnt ≤ 500000000000)
  (hs : ∀ (rc : Int → Y2 → Y4 → Int → Option (Y4 × Unit)) (i : Nat) (out5 : Y4), i < cnt → Inv i out5 → (∀ (out5' : Y4), Inv (i + 1) out5' → rc x1 p2 out5' ((i + 1 : Nat) : Int) = res) → zz19_b3 rc zz19_a3 x1 p2 out5 (i : Int) = res)
  (he : ∀ (rc : Int → Y2 → Y4 → Int → Option (Y4 × Unit)) (out5 : Y4), Inv cnt out5 → zz19_b3 rc zz19_a3 x1 p2 out5 (cnt : Int) = res)
  (i0 : Nat) (hi : i0 ≤ cnt) (out5 : Y4) (h0 : Inv i0 out5) : zz19_F3 big x1 p2 out5 (i0 : Int) = res := by
  have key : ∀ (m i : Nat) (out5 : Y4), i ≤ cnt → cnt < m + i → Inv i out5 → zz19_l3 big zz19_a3 m x1 p2 out5 (i : Int) = res := by
    intro m
    induction m with
    | zero => intro i out5 h1 h2 h3; exact absurd h2 (by omega)
    | succ m ih =>
      intro i out5 h1 h2 h3
      rcases Nat.lt_or_ge i cnt with hlt | hge
      · exact hs _ i out5 hlt h3 (fun out5' h4 => ih (i + 1) out5' (by omega) (by omega) h4)
      · obtain rfl : i = cnt := by omega
        exact he _ out5 h3
  exact key big i0 out5 hi (by have := big_ge; omega) h0
theorem zz20_h2 {a0 : Y4} {b1 : Y4} (cnt : Nat) (Inv : Nat → Prop) {res : Option (Bool × Unit)} (hn : cnt ≤ 500000000000)
  (hs : ∀ (rc : Y4 → Y4 → Int → Option (Bool × Unit)) (i : Nat), i < cnt → Inv i → (Inv (i + 1) → rc a0 b1 ((i + 1 : Nat) : Int) = res) → zz20_b2 rc zz20_a2 a0 b1 (i : Int) = res)
  (he : ∀ (rc : Y4 → Y4 → Int → Option (Bool × Unit)), Inv cnt → zz20_b2 rc zz20_a2 a0 b1 (cnt : Int) = res)
  (i0 : Nat) (hi : i0 ≤ cnt) (h0 : Inv i0) : zz20_F2 big a0 b1 (i0 : Int) = res := by
  have key : ∀ (m i : Nat), i ≤ cnt → cnt < m + i → Inv i → zz20_l2 big zz20_a2 m a0 b1 (i : Int) = res := by
    intro m
    induction m with
    | zero => intro i h1 h2 h3; exact absurd h2 (by omega)
    | succ m ih =>
      intro i h1 h2 h3
      rcases Nat.lt_or_ge i cnt with hlt | hge
      · exact hs _ i hlt h3 (fun h4 => ih (i + 1) (by omega) (by omega) h4)
      · obtain rfl : i = cnt := by omega
        exact he _ h3
  exact key big i0 hi (by have := big_ge; omega) h0
theorem zz21_v2 {lists0 : Y3} {l1 : Y4} (mu : Int → Nat) (Inv : Int → Prop) {Q : Option Y2 → Prop}
  (hs : ∀ (rc : Y3 → Y4 → Int → Option Y2) (k5 : Int), Inv k5 → (∀ (k5' : Int), Inv k5' → mu k5' < mu k5 → Q (rc lists0 l1 k5')) → Q (zz21_b2 rc zz21_a2 lists0 l1 k5))
  (k5 : Int) (hm : mu k5 ≤ 500000000000) (h0 : Inv k5) : Q (zz21_F2 big lists0 l1 k5) := by
  have key : ∀ (m : Nat) (k5 : Int), mu k5 < m → Inv k5 → Q (zz21_l2 big zz21_a2 m lists0 l1 k5) := by
    intro m
    induction m with
    | zero => intro k5 h2 h3; exact absurd h2 (by omega)
    | succ m ih =>
      intro k5 h2 h3
      exact hs _ k5 h3 (fun k5' h4 h5 => ih k5' (by omega) h4)
  exact key big k5 (by have := big_ge; omega) h0
theorem zz22_h6 {p1 : Y2} {atoms5 : Y4} (cnt : Nat) (Inv : Nat → Y3 → Prop) {res : Option ((Y3 × (Bool × Unit)) × Unit)} (hn : cnt ≤ 500000000000)
  (hs : ∀ (rc : Y2 → Y3 → Y4 → Int → Option ((Y3 × (Bool × Unit)) × Unit)) (i : Nat) (out4 : Y3), i < cnt → Inv i out4 → (∀ (out4' : Y3), Inv (i + 1) out4' → rc p1 out4' atoms5 ((i + 1 : Nat) : Int) = res) → zz22_b6 rc zz22_a6 p1 out4 atoms5 (i : Int) = res)
  (he : ∀ (rc : Y2 → Y3 → Y4 → Int → Option ((Y3 × (Bool × Unit)) × Unit)) (out4 : Y3), Inv cnt out4 → zz22_b6 rc zz22_a6 p1 out4 atoms5 (cnt : Int) = res)
  (i0 : Nat) (hi : i0 ≤ cnt) (out4 : Y3) (h0 : Inv i0 out4) : zz22_F6 big p1 out4 atoms5 (i0 : Int) = res := by
  have key : ∀ (m i : Nat) (out4 : Y3), i ≤ cnt → cnt < m + i → Inv i out4 → zz22_l6 big zz22_a6 m p1 out4 atoms5 (i : Int) = res := by
    intro m
    induction m with
    | zero => intro i out4 h1 h2 h3; exact absurd h2 (by omega)
    | succ m ih =>
      intro i out4 h1 h2 h3
      rcases Nat.lt_or_ge i cnt with hlt | hge
      · exact hs _ i out4 hlt h3 (fun out4' h4 => ih (i + 1) out4' (by omega) (by omega) h4)
      · obtain rfl : i = cnt := by omega
        exact he _ out4 h3
  exact key big i0 out4 hi (by have := big_ge; omega) h0
theorem zz23_h3 {n0 : Int} {t8 : Int} (cnt : Nat) (Inv : Nat → Y5 → Prop) {res : Option (Y5 × Unit)} (hn : cnt ≤ 500000000000)
  (hs : ∀ (rc : Int → Y5 → Int → Int → Option (Y5 × Unit)) (i : Nat) (o3 : Y5), i < cnt → Inv i o3 → (∀ (o3' : Y5), Inv (i + 1) o3' → rc n0 o3' t8 ((i + 1 : Nat) : Int) = res) → zz23_b3 rc zz23_a3 n0 o3 t8 (i : Int) = res)
  (he : ∀ (rc : Int → Y5 → Int → Int → Option (Y5 × Unit)) (o3 : Y5), Inv cnt o3 → zz23_b3 rc zz23_a3 n0 o3 t8 (cnt : Int) = res)
  (i0 : Nat) (hi : i0 ≤ cnt) (o3 : Y5) (h0 : Inv i0 o3) : zz23_F3 big n0 o3 t8 (i0 : Int) = res := by
  have key : ∀ (m i : Nat) (o3 : Y5), i ≤ cnt → cnt < m + i → Inv i o3 → zz23_l3 big zz23_a3 m n0 o3 t8 (i : Int) = res := by
    intro m
    induction m with
    | zero => intro i o3 h1 h2 h3; exact absurd h2 (by omega)
    | succ m ih =>
      intro i o3 h1 h2 h3
      rcases Nat.lt_or_ge i cnt with hlt | hge
      · exact hs _ i o3 hlt h3 (fun o3' h4 => ih (i + 1) o3' (by omega) (by omega) h4)
      · obtain rfl : i = cnt := by omega
        exact he _ o3 h3
  exact key big i0 o3 hi (by have := big_ge; omega) h0
theorem zz26_h2 {o0 : Y5} {t7 : Int} (cnt : Nat) (Inv : Nat → Prop) {res : Option (Bool × Unit)} (hn : cnt ≤ 500000000000)
  (hs : ∀ (rc : Y5 → Int → Int → Option (Bool × Unit)) (i : Nat), i < cnt → Inv i → (Inv (i + 1) → rc o0 t7 ((i + 1 : Nat) : Int) = res) → zz26_b2 (zz26_F7 big rc zz26_a2) zz26_a2 o0 t7 (i : Int) = res)
  (he : ∀ (rc : Y5 → Int → Int → Option (Bool × Unit)), Inv cnt → zz26_b2 (zz26_F7 big rc zz26_a2) zz26_a2 o0 t7 (cnt : Int) = res)
  (i0 : Nat) (hi : i0 ≤ cnt) (h0 : Inv i0) : zz26_F2 big o0 t7 (i0 : Int) = res := by
  have key : ∀ (m i : Nat), i ≤ cnt → cnt < m + i → Inv i → zz26_l2 big zz26_a2 m o0 t7 (i : Int) = res := by
    intro m
    induction m with
    | zero => intro i h1 h2 h3; exact absurd h2 (by omega)
    | succ m ih =>
      intro i h1 h2 h3
      rcases Nat.lt_or_ge i cnt with hlt | hge
      · exact hs _ i hlt h3 (fun h4 => ih (i + 1) (by omega) (by omega) h4)
      · obtain rfl : i = cnt := by omega
        exact he _ h3
  exact key big i0 hi (by have := big_ge; omega) h0
theorem zz26_h7 {rec : Y5 → Int → Int → Option (Bool × Unit)} {k : Option (Bool × Unit)} {o0 : Y5} {x3 : Int} {t7 : Int} {t8 : Int} {t20 : Int} (cnt : Nat) (Inv : Nat → Prop) {res : Option (Bool × Unit)} (hn : cnt ≤ 500000000000)
  (hs : ∀ (rc : Y5 → Int → Int → Int → Int → Int → Option (Bool × Unit)) (i : Nat), i < cnt → Inv i → (Inv (i + 1) → rc o0 x3 t7 t8 t20 ((i + 1 : Nat) : Int) = res) → zz26_b7 (zz26_F12 big rc (zz26_a7 rec)) (zz26_a7 rec) o0 x3 t7 t8 t20 (i : Int) = res)
  (he : ∀ (rc : Y5 → Int → Int → Int → Int → Int → Option (Bool × Unit)), Inv cnt → zz26_b7 (zz26_F12 big rc (zz26_a7 rec)) (zz26_a7 rec) o0 x3 t7 t8 t20 (cnt : Int) = res)
  (i0 : Nat) (hi : i0 ≤ cnt) (h0 : Inv i0) : zz26_F7 big rec k o0 x3 t7 t8 t20 (i0 : Int) = res := by
  have key : ∀ (m i : Nat), i ≤ cnt → cnt < m + i → Inv i → zz26_l7 big (zz26_a7 rec) m o0 x3 t7 t8 t20 (i : Int) = res := by
    intro m
    induction m with
    | zero => intro i h1 h2 h3; exact absurd h2 (by omega)
    | succ m ih =>
      intro i h1 h2 h3
      rcases Nat.lt_or_ge i cnt with hlt | hge
      · exact hs _ i hlt h3 (fun h4 => ih (i + 1) (by omega) (by omega) h4)
      · obtain rfl : i = cnt := by omega
        exact he _ h3
  exact key big i0 hi (by have := big_ge; omega) h0
theorem zz26_h12 {rec : Y5 → Int → Int → Int → Int → Int → Option (Bool × Unit)} {k : Y5 → Int → Int → Option (Bool × Unit)} {o0 : Y5} {x3 : Int} {y4 : Int} {t7 : Int} {t8 : Int} {t20 : Int} {t21 : Int} {t46 : Int} (cnt : Nat) (Inv : Nat → Prop) {res : Option (Bool × Unit)} (hn : cnt ≤ 500000000000)
  (hs : ∀ (rc : Y5 → Int → Int → Int → Int → Int → Int → Int → Int → Option (Bool × Unit)) (i : Nat), i < cnt → Inv i → (Inv (i + 1) → rc o0 x3 y4 t7 t8 t20 t21 t46 ((i + 1 : Nat) : Int) = res) → zz26_b12 rc (zz26_a12 rec) o0 x3 y4 t7 t8 t20 t21 t46 (i : Int) = res)
  (he : ∀ (rc : Y5 → Int → Int → Int → Int → Int → Int → Int → Int → Option (Bool × Unit)), Inv cnt → zz26_b12 rc (zz26_a12 rec) o0 x3 y4 t7 t8 t20 t21 t46 (cnt : Int) = res)
  (i0 : Nat) (hi : i0 ≤ cnt) (h0 : Inv i0) : zz26_F12 big rec k o0 x3 y4 t7 t8 t20 t21 t46 (i0 : Int) = res := by
  have key : ∀ (m i : Nat), i ≤ cnt → cnt < m + i → Inv i → zz26_l12 big (zz26_a12 rec) m o0 x3 y4 t7 t8 t20 t21 t46 (i : Int) = res := by
    intro m
    induction m with
    | zero => intro i h1 h2 h3; exact absurd h2 (by omega)
    | succ m ih =>
      intro i h1 h2 h3
      rcases Nat.lt_or_ge i cnt with hlt | hge
      · exact hs _ i hlt h3 (fun h4 => ih (i + 1) (by omega) (by omega) h4)
      · obtain rfl : i = cnt := by omega
        exact he _ h3
  exact key big i0 hi (by have := big_ge; omega) h0
theorem zz27_h6 {n4 : Int} {t18 : Y3} {t19 : Int} (cnt : Nat) (Inv : Nat → Y5 → Prop) {res : Option ((Y5 × (Bool × Unit)) × Unit)} (hn : cnt ≤ 500000000000)
  (hs : ∀ (rc : Int → Y5 → Y3 → Int → Int → Option ((Y5 × (Bool × Unit)) × Unit)) (i : Nat) (o5 : Y5), i < cnt → Inv i o5 → (∀ (o5' : Y5), Inv (i + 1) o5' → rc n4 o5' t18 t19 ((i + 1 : Nat) : Int) = res) → zz27_b6 (zz27_F11 big rc zz27_a6) zz27_a6 n4 o5 t18 t19 (i : Int) = res)
  (he : ∀ (rc : Int → Y5 → Y3 → Int → Int → Option ((Y5 × (Bool × Unit)) × Unit)) (o5 : Y5), Inv cnt o5 → zz27_b6 (zz27_F11 big rc zz27_a6) zz27_a6 n4 o5 t18 t19 (cnt : Int) = res)
  (i0 : Nat) (hi : i0 ≤ cnt) (o5 : Y5) (h0 : Inv i0 o5) : zz27_F6 big n4 o5 t18 t19 (i0 : Int) = res := by
  have key : ∀ (m i : Nat) (o5 : Y5), i ≤ cnt → cnt < m + i → Inv i o5 → zz27_l6 big zz27_a6 m n4 o5 t18 t19 (i : Int) = res := by
    intro m
    induction m with
    | zero => intro i o5 h1 h2 h3; exact absurd h2 (by omega)
    | succ m ih =>
      intro i o5 h1 h2 h3
      rcases Nat.lt_or_ge i cnt with hlt | hge
      · exact hs _ i o5 hlt h3 (fun o5' h4 => ih (i + 1) o5' (by omega) (by omega) h4)
      · obtain rfl : i = cnt := by omega
        exact he _ o5 h3
  exact key big i0 o5 hi (by have := big_ge; omega) h0
theorem zz27_h11 {rec : Int → Y5 → Y3 → Int → Int → Option ((Y5 × (Bool × Unit)) × Unit)} {k : Y5 → Option ((Y5 × (Bool × Unit)) × Unit)} {n4 : Int} {x6 : Int} {t18 : Y3} {t19 : Int} {t20 : Int} {t29 : Y4} {t30 : Int} {t31 : Bool} {t32 : Bool} {t34 : Y4} {t35 : Int} (cnt : Nat) (Inv : Nat → Y5 → Prop) {res : Option ((Y5 × (Bool × Unit)) × Unit)} (hn : cnt ≤ 500000000000)
  (hs : ∀ (rc : Int → Y5 → Int → Y3 → Int → Int → Y4 → Int → Bool → Bool → Y4 → Int → Int → Option ((Y5 × (Bool × Unit)) × Unit)) (i : Nat) (o5 : Y5), i < cnt → Inv i o5 → (∀ (o5' : Y5), Inv (i + 1) o5' → rc n4 o5' x6 t18 t19 t20 t29 t30 t31 t32 t34 t35 ((i + 1 : Nat) : Int) = res) → zz27_b11 rc (zz27_a11 rec) n4 o5 x6 t18 t19 t20 t29 t30 t31 t32 t34 t35 (i : Int) = res)
  (he : ∀ (rc : Int → Y5 → Int → Y3 → Int → Int → Y4 → Int → Bool → Bool → Y4 → Int → Int → Option ((Y5 × (Bool × Unit)) × Unit)) (o5 : Y5), Inv cnt o5 → zz27_b11 rc (zz27_a11 rec) n4 o5 x6 t18 t19 t20 t29 t30 t31 t32 t34 t35 (cnt : Int) = res)
  (i0 : Nat) (hi : i0 ≤ cnt) (o5 : Y5) (h0 : Inv i0 o5) : zz27_F11 big rec k n4 o5 x6 t18 t19 t20 t29 t30 t31 t32 t34 t35 (i0 : Int) = res := by
  have key : ∀ (m i : Nat) (o5 : Y5), i ≤ cnt → cnt < m + i → Inv i o5 → zz27_l11 big (zz27_a11 rec) m n4 o5 x6 t18 t19 t20 t29 t30 t31 t32 t34 t35 (i : Int) = res := by
    intro m
    induction m with
    | zero => intro i o5 h1 h2 h3; exact absurd h2 (by omega)
    | succ m ih =>
      intro i o5 h1 h2 h3
      rcases Nat.lt_or_ge i cnt with hlt | hge
      · exact hs _ i o5 hlt h3 (fun o5' h4 => ih (i + 1) o5' (by omega) (by omega) h4)
      · obtain rfl : i = cnt := by omega
        exact he _ o5 h3
  exact key big i0 o5 hi (by have := big_ge; omega) h0
theorem zz28_h2 {o0 : Y5} {list1 : Y4} {t10 : Y4} {t11 : Int} (cnt : Nat) (Inv : Nat → Prop) {res : Option (Int × Unit)} (hn : cnt ≤ 500000000000)
  (hs : ∀ (rc : Y5 → Y4 → Y4 → Int → Int → Option (Int × Unit)) (i : Nat), i < cnt → Inv i → (Inv (i + 1) → rc o0 list1 t10 t11 ((i + 1 : Nat) : Int) = res) → zz28_b2 (zz28_F6 big rc zz28_a2) zz28_a2 o0 list1 t10 t11 (i : Int) = res)
  (he : ∀ (rc : Y5 → Y4 → Y4 → Int → Int → Option (Int × Unit)), Inv cnt → zz28_b2 (zz28_F6 big rc zz28_a2) zz28_a2 o0 list1 t10 t11 (cnt : Int) = res)
  (i0 : Nat) (hi : i0 ≤ cnt) (h0 : Inv i0) : zz28_F2 big o0 list1 t10 t11 (i0 : Int) = res := by
  have key : ∀ (m i : Nat), i ≤ cnt → cnt < m + i → Inv i → zz28_l2 big zz28_a2 m o0 list1 t10 t11 (i : Int) = res := by
    intro m
    induction m with
    | zero => intro i h1 h2 h3; exact absurd h2 (by omega)
    | succ m ih =>
      intro i h1 h2 h3
      rcases Nat.lt_or_ge i cnt with hlt | hge
      · exact hs _ i hlt h3 (fun h4 => ih (i + 1) (by omega) (by omega) h4)
      · obtain rfl : i = cnt := by omega
        exact he _ h3
  exact key big i0 hi (by have := big_ge; omega) h0
theorem zz28_h6 {rec : Y5 → Y4 → Y4 → Int → Int → Option (Int × Unit)} {k : Option (Int × Unit)} {o0 : Y5} {list1 : Y4} {x6 : Int} {t10 : Y4} {t11 : Int} {t12 : Int} {t16 : Y4} {t17 : Int} (cnt : Nat) (Inv : Nat → Bool → Prop) {res : Option (Int × Unit)} (hn : cnt ≤ 500000000000)
  (hs : ∀ (rc : Y5 → Y4 → Int → Bool → Y4 → Int → Int → Y4 → Int → Int → Option (Int × Unit)) (i : Nat) (top7 : Bool), i < cnt → Inv i top7 → (∀ (top7' : Bool), Inv (i + 1) top7' → rc o0 list1 x6 top7' t10 t11 t12 t16 t17 ((i + 1 : Nat) : Int) = res) → zz28_b6 rc (zz28_a6 rec) o0 list1 x6 top7 t10 t11 t12 t16 t17 (i : Int) = res)
  (he : ∀ (rc : Y5 → Y4 → Int → Bool → Y4 → Int → Int → Y4 → Int → Int → Option (Int × Unit)) (top7 : Bool), Inv cnt top7 → zz28_b6 rc (zz28_a6 rec) o0 list1 x6 top7 t10 t11 t12 t16 t17 (cnt : Int) = res)
  (i0 : Nat) (hi : i0 ≤ cnt) (top7 : Bool) (h0 : Inv i0 top7) : zz28_F6 big rec k o0 list1 x6 top7 t10 t11 t12 t16 t17 (i0 : Int) = res := by
  have key : ∀ (m i : Nat) (top7 : Bool), i ≤ cnt → cnt < m + i → Inv i top7 → zz28_l6 big (zz28_a6 rec) m o0 list1 x6 top7 t10 t11 t12 t16 t17 (i : Int) = res := by
    intro m
    induction m with
    | zero => intro i top7 h1 h2 h3; exact absurd h2 (by omega)
    | succ m ih =>
      intro i top7 h1 h2 h3
      rcases Nat.lt_or_ge i cnt with hlt | hge
      · exact hs _ i top7 hlt h3 (fun top7' h4 => ih (i + 1) top7' (by omega) (by omega) h4)
      · obtain rfl : i = cnt := by omega
        exact he _ top7 h3
  exact key big i0 top7 hi (by have := big_ge; omega) h0
theorem zz30_h3 {so1 : (Y5 × (Int × (Int × Unit)))} {t9 : Int} (cnt : Nat) (Inv : Nat → Y4 → Prop) {res : Option (Y4 × Unit)} (hn : cnt ≤ 500000000000)
  (hs : ∀ (rc : (Y5 × (Int × (Int × Unit))) → Y4 → Int → Int → Option (Y4 × Unit)) (i : Nat) (list5 : Y4), i < cnt → Inv i list5 → (∀ (list5' : Y4), Inv (i + 1) list5' → rc so1 list5' t9 ((i + 1 : Nat) : Int) = res) → zz30_b3 rc zz30_a3 so1 list5 t9 (i : Int) = res)
  (he : ∀ (rc : (Y5 × (Int × (Int × Unit))) → Y4 → Int → Int → Option (Y4 × Unit)) (list5 : Y4), Inv cnt list5 → zz30_b3 rc zz30_a3 so1 list5 t9 (cnt : Int) = res)
  (i0 : Nat) (hi : i0 ≤ cnt) (list5 : Y4) (h0 : Inv i0 list5) : zz30_F3 big so1 list5 t9 (i0 : Int) = res := by
  have key : ∀ (m i : Nat) (list5 : Y4), i ≤ cnt → cnt < m + i → Inv i list5 → zz30_l3 big zz30_a3 m so1 list5 t9 (i : Int) = res := by
    intro m
    induction m with
    | zero => intro i list5 h1 h2 h3; exact absurd h2 (by omega)
    | succ m ih =>
      intro i list5 h1 h2 h3
      rcases Nat.lt_or_ge i cnt with hlt | hge
      · exact hs _ i list5 hlt h3 (fun list5' h4 => ih (i + 1) list5' (by omega) (by omega) h4)
      · obtain rfl : i = cnt := by omega
        exact he _ list5 h3
  exact key big i0 list5 hi (by have := big_ge; omega) h0
theorem zz31_h3 {o1 : Y5} {t11 : Int} (cnt : Nat) (Inv : Nat → Y3 → Prop) {res : Option ((Y3 × (Bool × Unit)) × Unit)} (hn : cnt ≤ 500000000000)
  (hs : ∀ (rc : Y5 → Y3 → Int → Int → Option ((Y3 × (Bool × Unit)) × Unit)) (i : Nat) (table4 : Y3), i < cnt → Inv i table4 → (∀ (table4' : Y3), Inv (i + 1) table4' → rc o1 table4' t11 ((i + 1 : Nat) : Int) = res) → zz31_b3 (zz31_F7 big rc zz31_a3) zz31_a3 o1 table4 t11 (i : Int) = res)
  (he : ∀ (rc : Y5 → Y3 → Int → Int → Option ((Y3 × (Bool × Unit)) × Unit)) (table4 : Y3), Inv cnt table4 → zz31_b3 (zz31_F7 big rc zz31_a3) zz31_a3 o1 table4 t11 (cnt : Int) = res)
  (i0 : Nat) (hi : i0 ≤ cnt) (table4 : Y3) (h0 : Inv i0 table4) : zz31_F3 big o1 table4 t11 (i0 : Int) = res := by
  have key : ∀ (m i : Nat) (table4 : Y3), i ≤ cnt → cnt < m + i → Inv i table4 → zz31_l3 big zz31_a3 m o1 table4 t11 (i : Int) = res := by
    intro m
    induction m with
    | zero => intro i table4 h1 h2 h3; exact absurd h2 (by omega)
    | succ m ih =>
      intro i table4 h1 h2 h3
      rcases Nat.lt_or_ge i cnt with hlt | hge
      · exact hs _ i table4 hlt h3 (fun table4' h4 => ih (i + 1) table4' (by omega) (by omega) h4)
      · obtain rfl : i = cnt := by omega
        exact he _ table4 h3
  exact key big i0 table4 hi (by have := big_ge; omega) h0
theorem zz31_h7 {rec : Y5 → Y3 → Int → Int → Option ((Y3 × (Bool × Unit)) × Unit)} {k : Y3 → Option ((Y3 × (Bool × Unit)) × Unit)} {o1 : Y5} {table4 : Y3} {x5 : Int} {t11 : Int} {t12 : Int} {t17 : Int} (cnt : Nat) (Inv : Nat → Y4 → Prop) {res : Option ((Y3 × (Bool × Unit)) × Unit)} (hn : cnt ≤ 500000000000)
  (hs : ∀ (rc : Y5 → Y3 → Int → Y4 → Int → Int → Int → Int → Option ((Y3 × (Bool × Unit)) × Unit)) (i : Nat) (row6 : Y4), i < cnt → Inv i row6 → (∀ (row6' : Y4), Inv (i + 1) row6' → rc o1 table4 x5 row6' t11 t12 t17 ((i + 1 : Nat) : Int) = res) → zz31_b7 rc (zz31_a7 rec) o1 table4 x5 row6 t11 t12 t17 (i : Int) = res)
  (he : ∀ (rc : Y5 → Y3 → Int → Y4 → Int → Int → Int → Int → Option ((Y3 × (Bool × Unit)) × Unit)) (row6 : Y4), Inv cnt row6 → zz31_b7 rc (zz31_a7 rec) o1 table4 x5 row6 t11 t12 t17 (cnt : Int) = res)
  (i0 : Nat) (hi : i0 ≤ cnt) (row6 : Y4) (h0 : Inv i0 row6) : zz31_F7 big rec k o1 table4 x5 row6 t11 t12 t17 (i0 : Int) = res := by
  have key : ∀ (m i : Nat) (row6 : Y4), i ≤ cnt → cnt < m + i → Inv i row6 → zz31_l7 big (zz31_a7 rec) m o1 table4 x5 row6 t11 t12 t17 (i : Int) = res := by
    intro m
    induction m with
    | zero => intro i row6 h1 h2 h3; exact absurd h2 (by omega)
    | succ m ih =>
      intro i row6 h1 h2 h3
      rcases Nat.lt_or_ge i cnt with hlt | hge
      · exact hs _ i row6 hlt h3 (fun row6' h4 => ih (i + 1) row6' (by omega) (by omega) h4)
      · obtain rfl : i = cnt := by omega
        exact he _ row6 h3
  exact key big i0 row6 hi (by have := big_ge; omega) h0
theorem zz32_h3 {o0 : Y5} {t10 : Int} (cnt : Nat) (Inv : Nat → Y5 → Prop) {res : Option (Y5 × Unit)} (hn : cnt ≤ 500000000000)
  (hs : ∀ (rc : Y5 → Y5 → Int → Int → Option (Y5 × Unit)) (i : Nat) (d3 : Y5), i < cnt → Inv i d3 → (∀ (d3' : Y5), Inv (i + 1) d3' → rc o0 d3' t10 ((i + 1 : Nat) : Int) = res) → zz32_b3 (zz32_F6 big rc zz32_a3) zz32_a3 o0 d3 t10 (i : Int) = res)
  (he : ∀ (rc : Y5 → Y5 → Int → Int → Option (Y5 × Unit)) (d3 : Y5), Inv cnt d3 → zz32_b3 (zz32_F6 big rc zz32_a3) zz32_a3 o0 d3 t10 (cnt : Int) = res)
  (i0 : Nat) (hi : i0 ≤ cnt) (d3 : Y5) (h0 : Inv i0 d3) : zz32_F3 big o0 d3 t10 (i0 : Int) = res := by
  have key : ∀ (m i : Nat) (d3 : Y5), i ≤ cnt → cnt < m + i → Inv i d3 → zz32_l3 big zz32_a3 m o0 d3 t10 (i : Int) = res := by
    intro m
    induction m with
    | zero => intro i d3 h1 h2 h3; exact absurd h2 (by omega)
    | succ m ih =>
      intro i d3 h1 h2 h3
      rcases Nat.lt_or_ge i cnt with hlt | hge
      · exact hs _ i d3 hlt h3 (fun d3' h4 => ih (i + 1) d3' (by omega) (by omega) h4)
      · obtain rfl : i = cnt := by omega
        exact he _ d3 h3
  exact key big i0 d3 hi (by have := big_ge; omega) h0
theorem zz32_h6 {rec : Y5 → Y5 → Int → Int → Option (Y5 × Unit)} {k : Y5 → Option (Y5 × Unit)} {o0 : Y5} {x4 : Int} {t10 : Int} {t11 : Int} {t15 : Int} (cnt : Nat) (Inv : Nat → Y5 → Prop) {res : Option (Y5 × Unit)} (hn : cnt ≤ 500000000000)
  (hs : ∀ (rc : Y5 → Y5 → Int → Int → Int → Int → Int → Option (Y5 × Unit)) (i : Nat) (d3 : Y5), i < cnt → Inv i d3 → (∀ (d3' : Y5), Inv (i + 1) d3' → rc o0 d3' x4 t10 t11 t15 ((i + 1 : Nat) : Int) = res) → zz32_b6 rc (zz32_a6 rec) o0 d3 x4 t10 t11 t15 (i : Int) = res)
  (he : ∀ (rc : Y5 → Y5 → Int → Int → Int → Int → Int → Option (Y5 × Unit)) (d3 : Y5), Inv cnt d3 → zz32_b6 rc (zz32_a6 rec) o0 d3 x4 t10 t11 t15 (cnt : Int) = res)
  (i0 : Nat) (hi : i0 ≤ cnt) (d3 : Y5) (h0 : Inv i0 d3) : zz32_F6 big rec k o0 d3 x4 t10 t11 t15 (i0 : Int) = res := by
  have key : ∀ (m i : Nat) (d3 : Y5), i ≤ cnt → cnt < m + i → Inv i d3 → zz32_l6 big (zz32_a6 rec) m o0 d3 x4 t10 t11 t15 (i : Int) = res := by
    intro m
    induction m with
    | zero => intro i d3 h1 h2 h3; exact absurd h2 (by omega)
    | succ m ih =>
      intro i d3 h1 h2 h3
      rcases Nat.lt_or_ge i cnt with hlt | hge
      · exact hs _ i d3 hlt h3 (fun d3' h4 => ih (i + 1) d3' (by omega) (by omega) h4)
      · obtain rfl : i = cnt := by omega
        exact he _ d3 h3
  exact key big i0 d3 hi (by have := big_ge; omega) h0
theorem zz34_h3 {l0 : Y1} {t9 : Int} (cnt : Nat) (Inv : Nat → Int → Prop) {res : Option (Int × Unit)} (hn : cnt ≤ 500000000000)
  (hs : ∀ (rc : Y1 → Int → Int → Int → Option (Int × Unit)) (i : Nat) (b3 : Int), i < cnt → Inv i b3 → (∀ (b3' : Int), Inv (i + 1) b3' → rc l0 b3' t9 ((i + 1 : Nat) : Int) = res) → zz34_b3 rc zz34_a3 l0 b3 t9 (i : Int) = res)
  (he : ∀ (rc : Y1 → Int → Int → Int → Option (Int × Unit)) (b3 : Int), Inv cnt b3 → zz34_b3 rc zz34_a3 l0 b3 t9 (cnt : Int) = res)
  (i0 : Nat) (hi : i0 ≤ cnt) (b3 : Int) (h0 : Inv i0 b3) : zz34_F3 big l0 b3 t9 (i0 : Int) = res := by
  have key : ∀ (m i : Nat) (b3 : Int), i ≤ cnt → cnt < m + i → Inv i b3 → zz34_l3 big zz34_a3 m l0 b3 t9 (i : Int) = res := by
    intro m
    induction m with
    | zero => intro i b3 h1 h2 h3; exact absurd h2 (by omega)
    | succ m ih =>
      intro i b3 h1 h2 h3
      rcases Nat.lt_or_ge i cnt with hlt | hge
      · exact hs _ i b3 hlt h3 (fun b3' h4 => ih (i + 1) b3' (by omega) (by omega) h4)
      · obtain rfl : i = cnt := by omega
        exact he _ b3 h3
  exact key big i0 b3 hi (by have := big_ge; omega) h0
theorem zz36_h4 {o0 : Y5} {x1 : Int} {y2 : Int} {t14 : Int} (cnt : Nat) (Inv : Nat → Prop) {res : Option (Bool × Unit)} (hn : cnt ≤ 500000000000)
  (hs : ∀ (rc : Y5 → Int → Int → Int → Int → Option (Bool × Unit)) (i : Nat), i < cnt → Inv i → (Inv (i + 1) → rc o0 x1 y2 t14 ((i + 1 : Nat) : Int) = res) → zz36_b4 rc zz36_a4 o0 x1 y2 t14 (i : Int) = res)
  (he : ∀ (rc : Y5 → Int → Int → Int → Int → Option (Bool × Unit)), Inv cnt → zz36_b4 rc zz36_a4 o0 x1 y2 t14 (cnt : Int) = res)
  (i0 : Nat) (hi : i0 ≤ cnt) (h0 : Inv i0) : zz36_F4 big o0 x1 y2 t14 (i0 : Int) = res := by
  have key : ∀ (m i : Nat), i ≤ cnt → cnt < m + i → Inv i → zz36_l4 big zz36_a4 m o0 x1 y2 t14 (i : Int) = res := by
    intro m
    induction m with
    | zero => intro i h1 h2 h3; exact absurd h2 (by omega)
    | succ m ih =>
      intro i h1 h2 h3
      rcases Nat.lt_or_ge i cnt with hlt | hge
      · exact hs _ i hlt h3 (fun h4 => ih (i + 1) (by omega) (by omega) h4)
      · obtain rfl : i = cnt := by omega
        exact he _ h3
  exact key big i0 hi (by have := big_ge; omega) h0
theorem zz38_h3 {so1 : (Y5 × (Int × Unit))} {t9 : Int} (cnt : Nat) (Inv : Nat → Y4 → Prop) {res : Option (Y4 × Unit)} (hn : cnt ≤ 500000000000)
  (hs : ∀ (rc : (Y5 × (Int × Unit)) → Y4 → Int → Int → Option (Y4 × Unit)) (i : Nat) (list5 : Y4), i < cnt → Inv i list5 → (∀ (list5' : Y4), Inv (i + 1) list5' → rc so1 list5' t9 ((i + 1 : Nat) : Int) = res) → zz38_b3 rc zz38_a3 so1 list5 t9 (i : Int) = res)
  (he : ∀ (rc : (Y5 × (Int × Unit)) → Y4 → Int → Int → Option (Y4 × Unit)) (list5 : Y4), Inv cnt list5 → zz38_b3 rc zz38_a3 so1 list5 t9 (cnt : Int) = res)
  (i0 : Nat) (hi : i0 ≤ cnt) (list5 : Y4) (h0 : Inv i0 list5) : zz38_F3 big so1 list5 t9 (i0 : Int) = res := by
  have key : ∀ (m i : Nat) (list5 : Y4), i ≤ cnt → cnt < m + i → Inv i list5 → zz38_l3 big zz38_a3 m so1 list5 t9 (i : Int) = res := by
    intro m
    induction m with
    | zero => intro i list5 h1 h2 h3; exact absurd h2 (by omega)
    | succ m ih =>
      intro i list5 h1 h2 h3
      rcases Nat.lt_or_ge i cnt with hlt | hge
      · exact hs _ i list5 hlt h3 (fun list5' h4 => ih (i + 1) list5' (by omega) (by omega) h4)
      · obtain rfl : i = cnt := by omega
        exact he _ list5 h3
  exact key big i0 list5 hi (by have := big_ge; omega) h0
theorem zz42_h3 {so1 : (Y5 × (Int × Unit))} {t9 : Int} (cnt : Nat) (Inv : Nat → Y4 → Prop) {res : Option (Y4 × Unit)} (hn : cnt ≤ 500000000000)
  (hs : ∀ (rc : (Y5 × (Int × Unit)) → Y4 → Int → Int → Option (Y4 × Unit)) (i : Nat) (list5 : Y4), i < cnt → Inv i list5 → (∀ (list5' : Y4), Inv (i + 1) list5' → rc so1 list5' t9 ((i + 1 : Nat) : Int) = res) → zz42_b3 rc zz42_a3 so1 list5 t9 (i : Int) = res)
  (he : ∀ (rc : (Y5 × (Int × Unit)) → Y4 → Int → Int → Option (Y4 × Unit)) (list5 : Y4), Inv cnt list5 → zz42_b3 rc zz42_a3 so1 list5 t9 (cnt : Int) = res)
  (i0 : Nat) (hi : i0 ≤ cnt) (list5 : Y4) (h0 : Inv i0 list5) : zz42_F3 big so1 list5 t9 (i0 : Int) = res := by
  have key : ∀ (m i : Nat) (list5 : Y4), i ≤ cnt → cnt < m + i → Inv i list5 → zz42_l3 big zz42_a3 m so1 list5 t9 (i : Int) = res := by
    intro m
    induction m with
    | zero => intro i list5 h1 h2 h3; exact absurd h2 (by omega)
    | succ m ih =>
      intro i list5 h1 h2 h3
      rcases Nat.lt_or_ge i cnt with hlt | hge
      · exact hs _ i list5 hlt h3 (fun list5' h4 => ih (i + 1) list5' (by omega) (by omega) h4)
      · obtain rfl : i = cnt := by omega
        exact he _ list5 h3
  exact key big i0 list5 hi (by have := big_ge; omega) h0
theorem zz44_h6 {l4 : Y1} {t19 : Y4} {t20 : Int} (cnt : Nat) (Inv : Nat → Y3 → Prop) {res : Option ((Y3 × (Bool × Unit)) × Unit)} (hn : cnt ≤ 500000000000)
  (hs : ∀ (rc : Y1 → Y3 → Y4 → Int → Int → Option ((Y3 × (Bool × Unit)) × Unit)) (i : Nat) (list6 : Y3), i < cnt → Inv i list6 → (∀ (list6' : Y3), Inv (i + 1) list6' → rc l4 list6' t19 t20 ((i + 1 : Nat) : Int) = res) → zz44_b6 rc zz44_a6 l4 list6 t19 t20 (i : Int) = res)
  (he : ∀ (rc : Y1 → Y3 → Y4 → Int → Int → Option ((Y3 × (Bool × Unit)) × Unit)) (list6 : Y3), Inv cnt list6 → zz44_b6 rc zz44_a6 l4 list6 t19 t20 (cnt : Int) = res)
  (i0 : Nat) (hi : i0 ≤ cnt) (list6 : Y3) (h0 : Inv i0 list6) : zz44_F6 big l4 list6 t19 t20 (i0 : Int) = res := by
  have key : ∀ (m i : Nat) (list6 : Y3), i ≤ cnt → cnt < m + i → Inv i list6 → zz44_l6 big zz44_a6 m l4 list6 t19 t20 (i : Int) = res := by
    intro m
    induction m with
    | zero => intro i list6 h1 h2 h3; exact absurd h2 (by omega)
    | succ m ih =>
      intro i list6 h1 h2 h3
      rcases Nat.lt_or_ge i cnt with hlt | hge
      · exact hs _ i list6 hlt h3 (fun list6' h4 => ih (i + 1) list6' (by omega) (by omega) h4)
      · obtain rfl : i = cnt := by omega
        exact he _ list6 h3
  exact key big i0 list6 hi (by have := big_ge; omega) h0
end Go.Proofs.Ytlndlclemhfekaa
