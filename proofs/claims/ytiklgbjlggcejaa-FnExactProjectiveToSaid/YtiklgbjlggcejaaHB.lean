import Derived.Test.YtiklgbjlggcejaaPLib
import Derived.Test.YtiklgbjlggcejaaGB
set_option linter.unusedVariables false
namespace Go.Proofs.Ytiklgbjlggcejaa
open Go Go.Gx Go.Proofs

/-! rules for the loops -/
theorem zz4_h3 {a0 : Y3} (cnt : Nat) (Inv : Nat → Y3 → Prop) {res : Option Y2} (hn : cnt ≤ 500000000000)
  (hs : ∀ (rc : Y3 → Y3 → Int → Option Y2) (i : Nat) (out3 : Y3), i < cnt → Inv i out3 → (∀ (out3' : Y3), Inv (i + 1) out3' → rc a0 out3' ((i + 1 : Nat) : Int) = res) → zz4_b3 rc zz4_a3 a0 out3 (i : Int) = res)
  (he : ∀ (rc : Y3 → Y3 → Int → Option Y2) (out3 : Y3), Inv cnt out3 → zz4_b3 rc zz4_a3 a0 out3 (cnt : Int) = res)
  (i0 : Nat) (hi : i0 ≤ cnt) (out3 : Y3) (h0 : Inv i0 out3) : zz4_F3 big a0 out3 (i0 : Int) = res := by
  have key : ∀ (m i : Nat) (out3 : Y3), i ≤ cnt → cnt < m + i → Inv i out3 → zz4_l3 big zz4_a3 m a0 out3 (i : Int) = res := by
    intro m
    induction m with
    | zero => intro i out3 h1 h2 h3; exact absurd h2 (by omega)
    | succ m ih =>
      intro i out3 h1 h2 h3
      rcases Nat.lt_or_ge i cnt with hlt | hge
      · exact hs _ i out3 hlt h3 (fun out3' h4 => ih (i + 1) out3' (by omega) (by omega) h4)
      · obtain rfl : i = cnt := by omega
        exact he _ out3 h3
  exact key big i0 out3 hi (by have := big_ge; omega) h0
theorem zz8_h2 {l0 : Y4} {n1 : Int} (cnt : Nat) (Inv : Nat → Prop) {res : Option (Bool × Unit)} (hn : cnt ≤ 500000000000)
  (hs : ∀ (rc : Y4 → Int → Int → Option (Bool × Unit)) (i : Nat), i < cnt → Inv i → (Inv (i + 1) → rc l0 n1 ((i + 1 : Nat) : Int) = res) → zz8_b2 rc zz8_a2 l0 n1 (i : Int) = res)
  (he : ∀ (rc : Y4 → Int → Int → Option (Bool × Unit)), Inv cnt → zz8_b2 rc zz8_a2 l0 n1 (cnt : Int) = res)
  (i0 : Nat) (hi : i0 ≤ cnt) (h0 : Inv i0) : zz8_F2 big l0 n1 (i0 : Int) = res := by
  have key : ∀ (m i : Nat), i ≤ cnt → cnt < m + i → Inv i → zz8_l2 big zz8_a2 m l0 n1 (i : Int) = res := by
    intro m
    induction m with
    | zero => intro i h1 h2 h3; exact absurd h2 (by omega)
    | succ m ih =>
      intro i h1 h2 h3
      rcases Nat.lt_or_ge i cnt with hlt | hge
      · exact hs _ i hlt h3 (fun h4 => ih (i + 1) (by omega) (by omega) h4)
      · obtain rfl : i = cnt := by omega
        exact he _ h3
  exact key big i0 hi (by have := big_ge; omega) h0
theorem zz9_h2 {x0 : Y4} {y1 : Y4} (cnt : Nat) (Inv : Nat → Prop) {res : Option (Bool × Unit)} (hn : cnt ≤ 500000000000)
  (hs : ∀ (rc : Y4 → Y4 → Int → Option (Bool × Unit)) (i : Nat), i < cnt → Inv i → (Inv (i + 1) → rc x0 y1 ((i + 1 : Nat) : Int) = res) → zz9_b2 rc zz9_a2 x0 y1 (i : Int) = res)
  (he : ∀ (rc : Y4 → Y4 → Int → Option (Bool × Unit)), Inv cnt → zz9_b2 rc zz9_a2 x0 y1 (cnt : Int) = res)
  (i0 : Nat) (hi : i0 ≤ cnt) (h0 : Inv i0) : zz9_F2 big x0 y1 (i0 : Int) = res := by
  have key : ∀ (m i : Nat), i ≤ cnt → cnt < m + i → Inv i → zz9_l2 big zz9_a2 m x0 y1 (i : Int) = res := by
    intro m
    induction m with
    | zero => intro i h1 h2 h3; exact absurd h2 (by omega)
    | succ m ih =>
      intro i h1 h2 h3
      rcases Nat.lt_or_ge i cnt with hlt | hge
      · exact hs _ i hlt h3 (fun h4 => ih (i + 1) (by omega) (by omega) h4)
      · obtain rfl : i = cnt := by omega
        exact he _ h3
  exact key big i0 hi (by have := big_ge; omega) h0
theorem zz10_h5 {p1 : Y2} {n3 : Int} (cnt : Nat) (Inv : Nat → Prop) {res : Option (Bool × Unit)} (hn : cnt ≤ 500000000000)
  (hs : ∀ (rc : Y2 → Int → Int → Option (Bool × Unit)) (i : Nat), i < cnt → Inv i → (Inv (i + 1) → rc p1 n3 ((i + 1 : Nat) : Int) = res) → zz10_b5 rc (zz10_a5 (zz10_F10 big)) p1 n3 (i : Int) = res)
  (he : ∀ (rc : Y2 → Int → Int → Option (Bool × Unit)), Inv cnt → zz10_b5 rc (zz10_a5 (zz10_F10 big)) p1 n3 (cnt : Int) = res)
  (i0 : Nat) (hi : i0 ≤ cnt) (h0 : Inv i0) : zz10_F5 big p1 n3 (i0 : Int) = res := by
  have key : ∀ (m i : Nat), i ≤ cnt → cnt < m + i → Inv i → zz10_l5 big (zz10_a5 (zz10_F10 big)) m p1 n3 (i : Int) = res := by
    intro m
    induction m with
    | zero => intro i h1 h2 h3; exact absurd h2 (by omega)
    | succ m ih =>
      intro i h1 h2 h3
      rcases Nat.lt_or_ge i cnt with hlt | hge
      · exact hs _ i hlt h3 (fun h4 => ih (i + 1) (by omega) (by omega) h4)
      · obtain rfl : i = cnt := by omega
        exact he _ h3
  exact key big i0 hi (by have := big_ge; omega) h0
theorem zz10_h10 {p1 : Y2} {n3 : Int} (cnt : Nat) (Inv : Nat → Prop) {res : Option (Bool × Unit)} (hn : cnt ≤ 500000000000)
  (hs : ∀ (rc : Y2 → Int → Int → Option (Bool × Unit)) (i : Nat), i < cnt → Inv i → (Inv (i + 1) → rc p1 n3 ((i + 1 : Nat) : Int) = res) → zz10_b10 (zz10_F13 big rc zz10_a10) zz10_a10 p1 n3 (i : Int) = res)
  (he : ∀ (rc : Y2 → Int → Int → Option (Bool × Unit)), Inv cnt → zz10_b10 (zz10_F13 big rc zz10_a10) zz10_a10 p1 n3 (cnt : Int) = res)
  (i0 : Nat) (hi : i0 ≤ cnt) (h0 : Inv i0) : zz10_F10 big p1 n3 (i0 : Int) = res := by
  have key : ∀ (m i : Nat), i ≤ cnt → cnt < m + i → Inv i → zz10_l10 big zz10_a10 m p1 n3 (i : Int) = res := by
    intro m
    induction m with
    | zero => intro i h1 h2 h3; exact absurd h2 (by omega)
    | succ m ih =>
      intro i h1 h2 h3
      rcases Nat.lt_or_ge i cnt with hlt | hge
      · exact hs _ i hlt h3 (fun h4 => ih (i + 1) (by omega) (by omega) h4)
      · obtain rfl : i = cnt := by omega
        exact he _ h3
  exact key big i0 hi (by have := big_ge; omega) h0
theorem zz10_h13 {rec : Y2 → Int → Int → Option (Bool × Unit)} {k : Option (Bool × Unit)} {p1 : Y2} {n3 : Int} {x5 : Int} (cnt : Nat) (Inv : Nat → Prop) {res : Option (Bool × Unit)} (hn : cnt ≤ 500000000000)
  (hs : ∀ (rc : Y2 → Int → Int → Int → Option (Bool × Unit)) (i : Nat), i < cnt → Inv i → (Inv (i + 1) → rc p1 n3 x5 ((i + 1 : Nat) : Int) = res) → zz10_b13 rc (zz10_a13 rec) p1 n3 x5 (i : Int) = res)
  (he : ∀ (rc : Y2 → Int → Int → Int → Option (Bool × Unit)), Inv cnt → zz10_b13 rc (zz10_a13 rec) p1 n3 x5 (cnt : Int) = res)
  (i0 : Nat) (hi : i0 ≤ cnt) (h0 : Inv i0) : zz10_F13 big rec k p1 n3 x5 (i0 : Int) = res := by
  have key : ∀ (m i : Nat), i ≤ cnt → cnt < m + i → Inv i → zz10_l13 big (zz10_a13 rec) m p1 n3 x5 (i : Int) = res := by
    intro m
    induction m with
    | zero => intro i h1 h2 h3; exact absurd h2 (by omega)
    | succ m ih =>
      intro i h1 h2 h3
      rcases Nat.lt_or_ge i cnt with hlt | hge
      · exact hs _ i hlt h3 (fun h4 => ih (i + 1) (by omega) (by omega) h4)
      · obtain rfl : i = cnt := by omega
        exact he _ h3
  exact key big i0 hi (by have := big_ge; omega) h0
theorem zz12_h3 {p1 : Y2} {t2 : Y2} (cnt : Nat) (Inv : Nat → Y2 → Prop) {res : Option (Y2 × Unit)} (hn : cnt ≤ 500000000000)
  (hs : ∀ (rc : Y2 → Y2 → Y2 → Int → Option (Y2 × Unit)) (i : Nat) (out3 : Y2), i < cnt → Inv i out3 → (∀ (out3' : Y2), Inv (i + 1) out3' → rc p1 t2 out3' ((i + 1 : Nat) : Int) = res) → zz12_b3 (zz12_F7 big rc zz12_a3) zz12_a3 p1 t2 out3 (i : Int) = res)
  (he : ∀ (rc : Y2 → Y2 → Y2 → Int → Option (Y2 × Unit)) (out3 : Y2), Inv cnt out3 → zz12_b3 (zz12_F7 big rc zz12_a3) zz12_a3 p1 t2 out3 (cnt : Int) = res)
  (i0 : Nat) (hi : i0 ≤ cnt) (out3 : Y2) (h0 : Inv i0 out3) : zz12_F3 big p1 t2 out3 (i0 : Int) = res := by
  have key : ∀ (m i : Nat) (out3 : Y2), i ≤ cnt → cnt < m + i → Inv i out3 → zz12_l3 big zz12_a3 m p1 t2 out3 (i : Int) = res := by
    intro m
    induction m with
    | zero => intro i out3 h1 h2 h3; exact absurd h2 (by omega)
    | succ m ih =>
      intro i out3 h1 h2 h3
      rcases Nat.lt_or_ge i cnt with hlt | hge
      · exact hs _ i out3 hlt h3 (fun out3' h4 => ih (i + 1) out3' (by omega) (by omega) h4)
      · obtain rfl : i = cnt := by omega
        exact he _ out3 h3
  exact key big i0 out3 hi (by have := big_ge; omega) h0
theorem zz12_h7 {rec : Y2 → Y2 → Y2 → Int → Option (Y2 × Unit)} {k : Y2 → Y2 → Option (Y2 × Unit)} {p1 : Y2} {t2 : Y2} {out3 : Y2} {x4 : Int} (cnt : Nat) (Inv : Nat → Y4 → Prop) {res : Option (Y2 × Unit)} (hn : cnt ≤ 500000000000)
  (hs : ∀ (rc : Y2 → Y2 → Y2 → Int → Y4 → Int → Option (Y2 × Unit)) (i : Nat) (below5 : Y4), i < cnt → Inv i below5 → (∀ (below5' : Y4), Inv (i + 1) below5' → rc p1 t2 out3 x4 below5' ((i + 1 : Nat) : Int) = res) → zz12_b7 rc (zz12_a7 rec) p1 t2 out3 x4 below5 (i : Int) = res)
  (he : ∀ (rc : Y2 → Y2 → Y2 → Int → Y4 → Int → Option (Y2 × Unit)) (below5 : Y4), Inv cnt below5 → zz12_b7 rc (zz12_a7 rec) p1 t2 out3 x4 below5 (cnt : Int) = res)
  (i0 : Nat) (hi : i0 ≤ cnt) (below5 : Y4) (h0 : Inv i0 below5) : zz12_F7 big rec k p1 t2 out3 x4 below5 (i0 : Int) = res := by
  have key : ∀ (m i : Nat) (below5 : Y4), i ≤ cnt → cnt < m + i → Inv i below5 → zz12_l7 big (zz12_a7 rec) m p1 t2 out3 x4 below5 (i : Int) = res := by
    intro m
    induction m with
    | zero => intro i below5 h1 h2 h3; exact absurd h2 (by omega)
    | succ m ih =>
      intro i below5 h1 h2 h3
      rcases Nat.lt_or_ge i cnt with hlt | hge
      · exact hs _ i below5 hlt h3 (fun below5' h4 => ih (i + 1) below5' (by omega) (by omega) h4)
      · obtain rfl : i = cnt := by omega
        exact he _ below5 h3
  exact key big i0 below5 hi (by have := big_ge; omega) h0
theorem zz13_h3 {some1 : Y4} {p2 : Y2} (cnt : Nat) (Inv : Nat → Y4 → Prop) {res : Option (Int × Unit)} (hn : cnt ≤ 500000000000)
  (hs : ∀ (rc : Y4 → Y2 → Y4 → Int → Option (Int × Unit)) (i : Nat) (low5 : Y4), i < cnt → Inv i low5 → (∀ (low5' : Y4), Inv (i + 1) low5' → rc some1 p2 low5' ((i + 1 : Nat) : Int) = res) → zz13_b3 (zz13_F7 big rc (zz13_a3 (zz13_F13 big))) (zz13_a3 (zz13_F13 big)) some1 p2 low5 (i : Int) = res)
  (he : ∀ (rc : Y4 → Y2 → Y4 → Int → Option (Int × Unit)) (low5 : Y4), Inv cnt low5 → zz13_b3 (zz13_F7 big rc (zz13_a3 (zz13_F13 big))) (zz13_a3 (zz13_F13 big)) some1 p2 low5 (cnt : Int) = res)
  (i0 : Nat) (hi : i0 ≤ cnt) (low5 : Y4) (h0 : Inv i0 low5) : zz13_F3 big some1 p2 low5 (i0 : Int) = res := by
  have key : ∀ (m i : Nat) (low5 : Y4), i ≤ cnt → cnt < m + i → Inv i low5 → zz13_l3 big (zz13_a3 (zz13_F13 big)) m some1 p2 low5 (i : Int) = res := by
    intro m
    induction m with
    | zero => intro i low5 h1 h2 h3; exact absurd h2 (by omega)
    | succ m ih =>
      intro i low5 h1 h2 h3
      rcases Nat.lt_or_ge i cnt with hlt | hge
      · exact hs _ i low5 hlt h3 (fun low5' h4 => ih (i + 1) low5' (by omega) (by omega) h4)
      · obtain rfl : i = cnt := by omega
        exact he _ low5 h3
  exact key big i0 low5 hi (by have := big_ge; omega) h0
theorem zz13_h7 {rec : Y4 → Y2 → Y4 → Int → Option (Int × Unit)} {k : Y2 → Y4 → Option (Int × Unit)} {some1 : Y4} {p2 : Y2} {low5 : Y4} {z6 : Int} (cnt : Nat) (Inv : Nat → Bool → Prop) {res : Option (Int × Unit)} (hn : cnt ≤ 500000000000)
  (hs : ∀ (rc : Y4 → Y2 → Y4 → Int → Bool → Int → Option (Int × Unit)) (i : Nat) (all7 : Bool), i < cnt → Inv i all7 → (∀ (all7' : Bool), Inv (i + 1) all7' → rc some1 p2 low5 z6 all7' ((i + 1 : Nat) : Int) = res) → zz13_b7 rc (zz13_a7 rec) some1 p2 low5 z6 all7 (i : Int) = res)
  (he : ∀ (rc : Y4 → Y2 → Y4 → Int → Bool → Int → Option (Int × Unit)) (all7 : Bool), Inv cnt all7 → zz13_b7 rc (zz13_a7 rec) some1 p2 low5 z6 all7 (cnt : Int) = res)
  (i0 : Nat) (hi : i0 ≤ cnt) (all7 : Bool) (h0 : Inv i0 all7) : zz13_F7 big rec k some1 p2 low5 z6 all7 (i0 : Int) = res := by
  have key : ∀ (m i : Nat) (all7 : Bool), i ≤ cnt → cnt < m + i → Inv i all7 → zz13_l7 big (zz13_a7 rec) m some1 p2 low5 z6 all7 (i : Int) = res := by
    intro m
    induction m with
    | zero => intro i all7 h1 h2 h3; exact absurd h2 (by omega)
    | succ m ih =>
      intro i all7 h1 h2 h3
      rcases Nat.lt_or_ge i cnt with hlt | hge
      · exact hs _ i all7 hlt h3 (fun all7' h4 => ih (i + 1) all7' (by omega) (by omega) h4)
      · obtain rfl : i = cnt := by omega
        exact he _ all7 h3
  exact key big i0 all7 hi (by have := big_ge; omega) h0
theorem zz13_h13 {p2 : Y2} {low5 : Y4} (cnt : Nat) (Inv : Nat → Prop) {res : Option (Int × Unit)} (hn : cnt ≤ 500000000000)
  (hs : ∀ (rc : Y2 → Y4 → Int → Option (Int × Unit)) (i : Nat), i < cnt → Inv i → (Inv (i + 1) → rc p2 low5 ((i + 1 : Nat) : Int) = res) → zz13_b13 rc zz13_a13 p2 low5 (i : Int) = res)
  (he : ∀ (rc : Y2 → Y4 → Int → Option (Int × Unit)), Inv cnt → zz13_b13 rc zz13_a13 p2 low5 (cnt : Int) = res)
  (i0 : Nat) (hi : i0 ≤ cnt) (h0 : Inv i0) : zz13_F13 big p2 low5 (i0 : Int) = res := by
  have key : ∀ (m i : Nat), i ≤ cnt → cnt < m + i → Inv i → zz13_l13 big zz13_a13 m p2 low5 (i : Int) = res := by
    intro m
    induction m with
    | zero => intro i h1 h2 h3; exact absurd h2 (by omega)
    | succ m ih =>
      intro i h1 h2 h3
      rcases Nat.lt_or_ge i cnt with hlt | hge
      · exact hs _ i hlt h3 (fun h4 => ih (i + 1) (by omega) (by omega) h4)
      · obtain rfl : i = cnt := by omega
        exact he _ h3
  exact key big i0 hi (by have := big_ge; omega) h0
theorem zz14_h5 {p1 : Y2} {dual3 : Y2} (cnt : Nat) (Inv : Nat → Prop) {res : Option (Bool × Unit)} (hn : cnt ≤ 500000000000)
  (hs : ∀ (rc : Y2 → Y2 → Int → Option (Bool × Unit)) (i : Nat), i < cnt → Inv i → (Inv (i + 1) → rc p1 dual3 ((i + 1 : Nat) : Int) = res) → zz14_b5 (zz14_F8 big rc zz14_a5) zz14_a5 p1 dual3 (i : Int) = res)
  (he : ∀ (rc : Y2 → Y2 → Int → Option (Bool × Unit)), Inv cnt → zz14_b5 (zz14_F8 big rc zz14_a5) zz14_a5 p1 dual3 (cnt : Int) = res)
  (i0 : Nat) (hi : i0 ≤ cnt) (h0 : Inv i0) : zz14_F5 big p1 dual3 (i0 : Int) = res := by
  have key : ∀ (m i : Nat), i ≤ cnt → cnt < m + i → Inv i → zz14_l5 big zz14_a5 m p1 dual3 (i : Int) = res := by
    intro m
    induction m with
    | zero => intro i h1 h2 h3; exact absurd h2 (by omega)
    | succ m ih =>
      intro i h1 h2 h3
      rcases Nat.lt_or_ge i cnt with hlt | hge
      · exact hs _ i hlt h3 (fun h4 => ih (i + 1) (by omega) (by omega) h4)
      · obtain rfl : i = cnt := by omega
        exact he _ h3
  exact key big i0 hi (by have := big_ge; omega) h0
theorem zz14_h8 {rec : Y2 → Y2 → Int → Option (Bool × Unit)} {k : Option (Bool × Unit)} {p1 : Y2} {dual3 : Y2} {x4 : Int} (cnt : Nat) (Inv : Nat → Prop) {res : Option (Bool × Unit)} (hn : cnt ≤ 500000000000)
  (hs : ∀ (rc : Y2 → Y2 → Int → Int → Option (Bool × Unit)) (i : Nat), i < cnt → Inv i → (Inv (i + 1) → rc p1 dual3 x4 ((i + 1 : Nat) : Int) = res) → zz14_b8 rc (zz14_a8 rec) p1 dual3 x4 (i : Int) = res)
  (he : ∀ (rc : Y2 → Y2 → Int → Int → Option (Bool × Unit)), Inv cnt → zz14_b8 rc (zz14_a8 rec) p1 dual3 x4 (cnt : Int) = res)
  (i0 : Nat) (hi : i0 ≤ cnt) (h0 : Inv i0) : zz14_F8 big rec k p1 dual3 x4 (i0 : Int) = res := by
  have key : ∀ (m i : Nat), i ≤ cnt → cnt < m + i → Inv i → zz14_l8 big (zz14_a8 rec) m p1 dual3 x4 (i : Int) = res := by
    intro m
    induction m with
    | zero => intro i h1 h2 h3; exact absurd h2 (by omega)
    | succ m ih =>
      intro i h1 h2 h3
      rcases Nat.lt_or_ge i cnt with hlt | hge
      · exact hs _ i hlt h3 (fun h4 => ih (i + 1) (by omega) (by omega) h4)
      · obtain rfl : i = cnt := by omega
        exact he _ h3
  exact key big i0 hi (by have := big_ge; omega) h0
theorem zz18_h4 {x1 : Int} {y2 : Int} {p3 : Y2} (cnt : Nat) (Inv : Nat → Prop) {res : Option (Bool × Unit)} (hn : cnt ≤ 500000000000)
  (hs : ∀ (rc : Int → Int → Y2 → Int → Option (Bool × Unit)) (i : Nat), i < cnt → Inv i → (Inv (i + 1) → rc x1 y2 p3 ((i + 1 : Nat) : Int) = res) → zz18_b4 rc zz18_a4 x1 y2 p3 (i : Int) = res)
  (he : ∀ (rc : Int → Int → Y2 → Int → Option (Bool × Unit)), Inv cnt → zz18_b4 rc zz18_a4 x1 y2 p3 (cnt : Int) = res)
  (i0 : Nat) (hi : i0 ≤ cnt) (h0 : Inv i0) : zz18_F4 big x1 y2 p3 (i0 : Int) = res := by
  have key : ∀ (m i : Nat), i ≤ cnt → cnt < m + i → Inv i → zz18_l4 big zz18_a4 m x1 y2 p3 (i : Int) = res := by
    intro m
    induction m with
    | zero => intro i h1 h2 h3; exact absurd h2 (by omega)
    | succ m ih =>
      intro i h1 h2 h3
      rcases Nat.lt_or_ge i cnt with hlt | hge
      · exact hs _ i hlt h3 (fun h4 => ih (i + 1) (by omega) (by omega) h4)
      · obtain rfl : i = cnt := by omega
        exact he _ h3
  exact key big i0 hi (by have := big_ge; omega) h0
theorem zz20_h3 {p1 : Y2} (cnt : Nat) (Inv : Nat → (List (Int × (Int × Unit))) → Prop) {res : Option ((List (Int × (Int × Unit))) × Unit)} (hn : cnt ≤ 500000000000)
  (hs : ∀ (rc : Y2 → (List (Int × (Int × Unit))) → Int → Option ((List (Int × (Int × Unit))) × Unit)) (i : Nat) (out3 : (List (Int × (Int × Unit)))), i < cnt → Inv i out3 → (∀ (out3' : (List (Int × (Int × Unit)))), Inv (i + 1) out3' → rc p1 out3' ((i + 1 : Nat) : Int) = res) → zz20_b3 (zz20_F6 big rc zz20_a3) zz20_a3 p1 out3 (i : Int) = res)
  (he : ∀ (rc : Y2 → (List (Int × (Int × Unit))) → Int → Option ((List (Int × (Int × Unit))) × Unit)) (out3 : (List (Int × (Int × Unit)))), Inv cnt out3 → zz20_b3 (zz20_F6 big rc zz20_a3) zz20_a3 p1 out3 (cnt : Int) = res)
  (i0 : Nat) (hi : i0 ≤ cnt) (out3 : (List (Int × (Int × Unit)))) (h0 : Inv i0 out3) : zz20_F3 big p1 out3 (i0 : Int) = res := by
  have key : ∀ (m i : Nat) (out3 : (List (Int × (Int × Unit)))), i ≤ cnt → cnt < m + i → Inv i out3 → zz20_l3 big zz20_a3 m p1 out3 (i : Int) = res := by
    intro m
    induction m with
    | zero => intro i out3 h1 h2 h3; exact absurd h2 (by omega)
    | succ m ih =>
      intro i out3 h1 h2 h3
      rcases Nat.lt_or_ge i cnt with hlt | hge
      · exact hs _ i out3 hlt h3 (fun out3' h4 => ih (i + 1) out3' (by omega) (by omega) h4)
      · obtain rfl : i = cnt := by omega
        exact he _ out3 h3
  exact key big i0 out3 hi (by have := big_ge; omega) h0
theorem zz20_h6 {rec : Y2 → (List (Int × (Int × Unit))) → Int → Option ((List (Int × (Int × Unit))) × Unit)} {k : (List (Int × (Int × Unit))) → Option ((List (Int × (Int × Unit))) × Unit)} {p1 : Y2} {x4 : Int} (cnt : Nat) (Inv : Nat → (List (Int × (Int × Unit))) → Prop) {res : Option ((List (Int × (Int × Unit))) × Unit)} (hn : cnt ≤ 500000000000)
  (hs : ∀ (rc : Y2 → (List (Int × (Int × Unit))) → Int → Int → Option ((List (Int × (Int × Unit))) × Unit)) (i : Nat) (out3 : (List (Int × (Int × Unit)))), i < cnt → Inv i out3 → (∀ (out3' : (List (Int × (Int × Unit)))), Inv (i + 1) out3' → rc p1 out3' x4 ((i + 1 : Nat) : Int) = res) → zz20_b6 rc (zz20_a6 rec) p1 out3 x4 (i : Int) = res)
  (he : ∀ (rc : Y2 → (List (Int × (Int × Unit))) → Int → Int → Option ((List (Int × (Int × Unit))) × Unit)) (out3 : (List (Int × (Int × Unit)))), Inv cnt out3 → zz20_b6 rc (zz20_a6 rec) p1 out3 x4 (cnt : Int) = res)
  (i0 : Nat) (hi : i0 ≤ cnt) (out3 : (List (Int × (Int × Unit)))) (h0 : Inv i0 out3) : zz20_F6 big rec k p1 out3 x4 (i0 : Int) = res := by
  have key : ∀ (m i : Nat) (out3 : (List (Int × (Int × Unit)))), i ≤ cnt → cnt < m + i → Inv i out3 → zz20_l6 big (zz20_a6 rec) m p1 out3 x4 (i : Int) = res := by
    intro m
    induction m with
    | zero => intro i out3 h1 h2 h3; exact absurd h2 (by omega)
    | succ m ih =>
      intro i out3 h1 h2 h3
      rcases Nat.lt_or_ge i cnt with hlt | hge
      · exact hs _ i out3 hlt h3 (fun out3' h4 => ih (i + 1) out3' (by omega) (by omega) h4)
      · obtain rfl : i = cnt := by omega
        exact he _ out3 h3
  exact key big i0 out3 hi (by have := big_ge; omega) h0
theorem zz24_h8 {x1 : Int} {y2 : Int} {p3 : Y2} {out8 : (List (Int × (Int × Unit)))} {edges9 : (List (Int × (Int × Unit)))} (cnt : Nat) (Inv : Nat → (List Bool) → Y4 → Prop) {res : Option (((List (Int × (Int × Unit))) × (Bool × Unit)) × Unit)} (hn : cnt ≤ 500000000000)
  (hs : ∀ (rc : Int → Int → Y2 → (List (Int × (Int × Unit))) → (List (Int × (Int × Unit))) → (List Bool) → Y4 → Int → Option (((List (Int × (Int × Unit))) × (Bool × Unit)) × Unit)) (i : Nat) (seen10 : (List Bool)) (line11 : Y4), i < cnt → Inv i seen10 line11 → (∀ (seen10' : (List Bool)) (line11' : Y4), Inv (i + 1) seen10' line11' → rc x1 y2 p3 out8 edges9 seen10' line11' ((i + 1 : Nat) : Int) = res) → zz24_b8 rc (zz24_a8 (zz24_F14 big)) x1 y2 p3 out8 edges9 seen10 line11 (i : Int) = res)
  (he : ∀ (rc : Int → Int → Y2 → (List (Int × (Int × Unit))) → (List (Int × (Int × Unit))) → (List Bool) → Y4 → Int → Option (((List (Int × (Int × Unit))) × (Bool × Unit)) × Unit)) (seen10 : (List Bool)) (line11 : Y4), Inv cnt seen10 line11 → zz24_b8 rc (zz24_a8 (zz24_F14 big)) x1 y2 p3 out8 edges9 seen10 line11 (cnt : Int) = res)
  (i0 : Nat) (hi : i0 ≤ cnt) (seen10 : (List Bool)) (line11 : Y4) (h0 : Inv i0 seen10 line11) : zz24_F8 big x1 y2 p3 out8 edges9 seen10 line11 (i0 : Int) = res := by
  have key : ∀ (m i : Nat) (seen10 : (List Bool)) (line11 : Y4), i ≤ cnt → cnt < m + i → Inv i seen10 line11 → zz24_l8 big (zz24_a8 (zz24_F14 big)) m x1 y2 p3 out8 edges9 seen10 line11 (i : Int) = res := by
    intro m
    induction m with
    | zero => intro i seen10 line11 h1 h2 h3; exact absurd h2 (by omega)
    | succ m ih =>
      intro i seen10 line11 h1 h2 h3
      rcases Nat.lt_or_ge i cnt with hlt | hge
      · exact hs _ i seen10 line11 hlt h3 (fun seen10' line11' h4 => ih (i + 1) seen10' line11' (by omega) (by omega) h4)
      · obtain rfl : i = cnt := by omega
        exact he _ seen10 line11 h3
  exact key big i0 seen10 line11 hi (by have := big_ge; omega) h0
theorem zz24_h14 {p3 : Y2} {out8 : (List (Int × (Int × Unit)))} {edges9 : (List (Int × (Int × Unit)))} (cnt : Nat) (Inv : Nat → (List Bool) → Y4 → Prop) {res : Option (((List (Int × (Int × Unit))) × (Bool × Unit)) × Unit)} (hn : cnt ≤ 500000000000)
  (hs : ∀ (rc : Y2 → (List (Int × (Int × Unit))) → (List (Int × (Int × Unit))) → (List Bool) → Y4 → Int → Option (((List (Int × (Int × Unit))) × (Bool × Unit)) × Unit)) (i : Nat) (seen10 : (List Bool)) (line11 : Y4), i < cnt → Inv i seen10 line11 → (∀ (seen10' : (List Bool)) (line11' : Y4), Inv (i + 1) seen10' line11' → rc p3 out8 edges9 seen10' line11' ((i + 1 : Nat) : Int) = res) → zz24_b14 (zz24_F17 big rc (zz24_a14 (zz24_F23 big))) (zz24_a14 (zz24_F23 big)) p3 out8 edges9 seen10 line11 (i : Int) = res)
  (he : ∀ (rc : Y2 → (List (Int × (Int × Unit))) → (List (Int × (Int × Unit))) → (List Bool) → Y4 → Int → Option (((List (Int × (Int × Unit))) × (Bool × Unit)) × Unit)) (seen10 : (List Bool)) (line11 : Y4), Inv cnt seen10 line11 → zz24_b14 (zz24_F17 big rc (zz24_a14 (zz24_F23 big))) (zz24_a14 (zz24_F23 big)) p3 out8 edges9 seen10 line11 (cnt : Int) = res)
  (i0 : Nat) (hi : i0 ≤ cnt) (seen10 : (List Bool)) (line11 : Y4) (h0 : Inv i0 seen10 line11) : zz24_F14 big p3 out8 edges9 seen10 line11 (i0 : Int) = res := by
  have key : ∀ (m i : Nat) (seen10 : (List Bool)) (line11 : Y4), i ≤ cnt → cnt < m + i → Inv i seen10 line11 → zz24_l14 big (zz24_a14 (zz24_F23 big)) m p3 out8 edges9 seen10 line11 (i : Int) = res := by
    intro m
    induction m with
    | zero => intro i seen10 line11 h1 h2 h3; exact absurd h2 (by omega)
    | succ m ih =>
      intro i seen10 line11 h1 h2 h3
      rcases Nat.lt_or_ge i cnt with hlt | hge
      · exact hs _ i seen10 line11 hlt h3 (fun seen10' line11' h4 => ih (i + 1) seen10' line11' (by omega) (by omega) h4)
      · obtain rfl : i = cnt := by omega
        exact he _ seen10 line11 h3
  exact key big i0 seen10 line11 hi (by have := big_ge; omega) h0
theorem zz24_h17 {rec : Y2 → (List (Int × (Int × Unit))) → (List (Int × (Int × Unit))) → (List Bool) → Y4 → Int → Option (((List (Int × (Int × Unit))) × (Bool × Unit)) × Unit)} {k : (List (Int × (Int × Unit))) → (List (Int × (Int × Unit))) → (List Bool) → Option (((List (Int × (Int × Unit))) × (Bool × Unit)) × Unit)} {p3 : Y2} {out8 : (List (Int × (Int × Unit)))} {edges9 : (List (Int × (Int × Unit)))} {n13 : Int} (cnt : Nat) (Inv : Nat → (List Bool) → Y4 → Prop) {res : Option (((List (Int × (Int × Unit))) × (Bool × Unit)) × Unit)} (hn : cnt ≤ 500000000000)
  (hs : ∀ (rc : Y2 → (List (Int × (Int × Unit))) → (List (Int × (Int × Unit))) → (List Bool) → Y4 → Int → Int → Option (((List (Int × (Int × Unit))) × (Bool × Unit)) × Unit)) (i : Nat) (seen10 : (List Bool)) (line11 : Y4), i < cnt → Inv i seen10 line11 → (∀ (seen10' : (List Bool)) (line11' : Y4), Inv (i + 1) seen10' line11' → rc p3 out8 edges9 seen10' line11' n13 ((i + 1 : Nat) : Int) = res) → zz24_b17 rc (zz24_a17 rec) p3 out8 edges9 seen10 line11 n13 (i : Int) = res)
  (he : ∀ (rc : Y2 → (List (Int × (Int × Unit))) → (List (Int × (Int × Unit))) → (List Bool) → Y4 → Int → Int → Option (((List (Int × (Int × Unit))) × (Bool × Unit)) × Unit)) (seen10 : (List Bool)) (line11 : Y4), Inv cnt seen10 line11 → zz24_b17 rc (zz24_a17 rec) p3 out8 edges9 seen10 line11 n13 (cnt : Int) = res)
  (i0 : Nat) (hi : i0 ≤ cnt) (seen10 : (List Bool)) (line11 : Y4) (h0 : Inv i0 seen10 line11) : zz24_F17 big rec k p3 out8 edges9 seen10 line11 n13 (i0 : Int) = res := by
  have key : ∀ (m i : Nat) (seen10 : (List Bool)) (line11 : Y4), i ≤ cnt → cnt < m + i → Inv i seen10 line11 → zz24_l17 big (zz24_a17 rec) m p3 out8 edges9 seen10 line11 n13 (i : Int) = res := by
    intro m
    induction m with
    | zero => intro i seen10 line11 h1 h2 h3; exact absurd h2 (by omega)
    | succ m ih =>
      intro i seen10 line11 h1 h2 h3
      rcases Nat.lt_or_ge i cnt with hlt | hge
      · exact hs _ i seen10 line11 hlt h3 (fun seen10' line11' h4 => ih (i + 1) seen10' line11' (by omega) (by omega) h4)
      · obtain rfl : i = cnt := by omega
        exact he _ seen10 line11 h3
  exact key big i0 seen10 line11 hi (by have := big_ge; omega) h0
theorem zz24_h23 {edges9 : (List (Int × (Int × Unit)))} {seen10 : (List Bool)} (cnt : Nat) (Inv : Nat → (List (Int × (Int × Unit))) → Prop) {res : Option (((List (Int × (Int × Unit))) × (Bool × Unit)) × Unit)} (hn : cnt ≤ 500000000000)
  (hs : ∀ (rc : (List (Int × (Int × Unit))) → (List (Int × (Int × Unit))) → (List Bool) → Int → Option (((List (Int × (Int × Unit))) × (Bool × Unit)) × Unit)) (i : Nat) (out8 : (List (Int × (Int × Unit)))), i < cnt → Inv i out8 → (∀ (out8' : (List (Int × (Int × Unit)))), Inv (i + 1) out8' → rc out8' edges9 seen10 ((i + 1 : Nat) : Int) = res) → zz24_b23 rc zz24_a23 out8 edges9 seen10 (i : Int) = res)
  (he : ∀ (rc : (List (Int × (Int × Unit))) → (List (Int × (Int × Unit))) → (List Bool) → Int → Option (((List (Int × (Int × Unit))) × (Bool × Unit)) × Unit)) (out8 : (List (Int × (Int × Unit)))), Inv cnt out8 → zz24_b23 rc zz24_a23 out8 edges9 seen10 (cnt : Int) = res)
  (i0 : Nat) (hi : i0 ≤ cnt) (out8 : (List (Int × (Int × Unit)))) (h0 : Inv i0 out8) : zz24_F23 big out8 edges9 seen10 (i0 : Int) = res := by
  have key : ∀ (m i : Nat) (out8 : (List (Int × (Int × Unit)))), i ≤ cnt → cnt < m + i → Inv i out8 → zz24_l23 big zz24_a23 m out8 edges9 seen10 (i : Int) = res := by
    intro m
    induction m with
    | zero => intro i out8 h1 h2 h3; exact absurd h2 (by omega)
    | succ m ih =>
      intro i out8 h1 h2 h3
      rcases Nat.lt_or_ge i cnt with hlt | hge
      · exact hs _ i out8 hlt h3 (fun out8' h4 => ih (i + 1) out8' (by omega) (by omega) h4)
      · obtain rfl : i = cnt := by omega
        exact he _ out8 h3
  exact key big i0 out8 hi (by have := big_ge; omega) h0
theorem zz25_h3 {n0 : Int} {t8 : Int} (cnt : Nat) (Inv : Nat → Y5 → Prop) {res : Option (Y5 × Unit)} (hn : cnt ≤ 500000000000)
  (hs : ∀ (rc : Int → Y5 → Int → Int → Option (Y5 × Unit)) (i : Nat) (o3 : Y5), i < cnt → Inv i o3 → (∀ (o3' : Y5), Inv (i + 1) o3' → rc n0 o3' t8 ((i + 1 : Nat) : Int) = res) → zz25_b3 rc zz25_a3 n0 o3 t8 (i : Int) = res)
  (he : ∀ (rc : Int → Y5 → Int → Int → Option (Y5 × Unit)) (o3 : Y5), Inv cnt o3 → zz25_b3 rc zz25_a3 n0 o3 t8 (cnt : Int) = res)
  (i0 : Nat) (hi : i0 ≤ cnt) (o3 : Y5) (h0 : Inv i0 o3) : zz25_F3 big n0 o3 t8 (i0 : Int) = res := by
  have key : ∀ (m i : Nat) (o3 : Y5), i ≤ cnt → cnt < m + i → Inv i o3 → zz25_l3 big zz25_a3 m n0 o3 t8 (i : Int) = res := by
    intro m
    induction m with
    | zero => intro i o3 h1 h2 h3; exact absurd h2 (by omega)
    | succ m ih =>
      intro i o3 h1 h2 h3
      rcases Nat.lt_or_ge i cnt with hlt | hge
      · exact hs _ i o3 hlt h3 (fun o3' h4 => ih (i + 1) o3' (by omega) (by omega) h4)
      · obtain rfl : i = cnt := by omega
        exact he _ o3 h3
  exact key big i0 o3 hi (by have := big_ge; omega) h0
theorem zz28_h2 {o0 : Y5} {t7 : Int} (cnt : Nat) (Inv : Nat → Prop) {res : Option (Bool × Unit)} (hn : cnt ≤ 500000000000)
  (hs : ∀ (rc : Y5 → Int → Int → Option (Bool × Unit)) (i : Nat), i < cnt → Inv i → (Inv (i + 1) → rc o0 t7 ((i + 1 : Nat) : Int) = res) → zz28_b2 (zz28_F7 big rc zz28_a2) zz28_a2 o0 t7 (i : Int) = res)
  (he : ∀ (rc : Y5 → Int → Int → Option (Bool × Unit)), Inv cnt → zz28_b2 (zz28_F7 big rc zz28_a2) zz28_a2 o0 t7 (cnt : Int) = res)
  (i0 : Nat) (hi : i0 ≤ cnt) (h0 : Inv i0) : zz28_F2 big o0 t7 (i0 : Int) = res := by
  have key : ∀ (m i : Nat), i ≤ cnt → cnt < m + i → Inv i → zz28_l2 big zz28_a2 m o0 t7 (i : Int) = res := by
    intro m
    induction m with
    | zero => intro i h1 h2 h3; exact absurd h2 (by omega)
    | succ m ih =>
      intro i h1 h2 h3
      rcases Nat.lt_or_ge i cnt with hlt | hge
      · exact hs _ i hlt h3 (fun h4 => ih (i + 1) (by omega) (by omega) h4)
      · obtain rfl : i = cnt := by omega
        exact he _ h3
  exact key big i0 hi (by have := big_ge; omega) h0
theorem zz28_h7 {rec : Y5 → Int → Int → Option (Bool × Unit)} {k : Option (Bool × Unit)} {o0 : Y5} {x3 : Int} {t7 : Int} {t8 : Int} {t20 : Int} (cnt : Nat) (Inv : Nat → Prop) {res : Option (Bool × Unit)} (hn : cnt ≤ 500000000000)
  (hs : ∀ (rc : Y5 → Int → Int → Int → Int → Int → Option (Bool × Unit)) (i : Nat), i < cnt → Inv i → (Inv (i + 1) → rc o0 x3 t7 t8 t20 ((i + 1 : Nat) : Int) = res) → zz28_b7 (zz28_F12 big rc (zz28_a7 rec)) (zz28_a7 rec) o0 x3 t7 t8 t20 (i : Int) = res)
  (he : ∀ (rc : Y5 → Int → Int → Int → Int → Int → Option (Bool × Unit)), Inv cnt → zz28_b7 (zz28_F12 big rc (zz28_a7 rec)) (zz28_a7 rec) o0 x3 t7 t8 t20 (cnt : Int) = res)
  (i0 : Nat) (hi : i0 ≤ cnt) (h0 : Inv i0) : zz28_F7 big rec k o0 x3 t7 t8 t20 (i0 : Int) = res := by
  have key : ∀ (m i : Nat), i ≤ cnt → cnt < m + i → Inv i → zz28_l7 big (zz28_a7 rec) m o0 x3 t7 t8 t20 (i : Int) = res := by
    intro m
    induction m with
    | zero => intro i h1 h2 h3; exact absurd h2 (by omega)
    | succ m ih =>
      intro i h1 h2 h3
      rcases Nat.lt_or_ge i cnt with hlt | hge
      · exact hs _ i hlt h3 (fun h4 => ih (i + 1) (by omega) (by omega) h4)
      · obtain rfl : i = cnt := by omega
        exact he _ h3
  exact key big i0 hi (by have := big_ge; omega) h0
theorem zz28_h12 {rec : Y5 → Int → Int → Int → Int → Int → Option (Bool × Unit)} {k : Y5 → Int → Int → Option (Bool × Unit)} {o0 : Y5} {x3 : Int} {y4 : Int} {t7 : Int} {t8 : Int} {t20 : Int} {t21 : Int} {t46 : Int} (cnt : Nat) (Inv : Nat → Prop) {res : Option (Bool × Unit)} (hn : cnt ≤ 500000000000)
  (hs : ∀ (rc : Y5 → Int → Int → Int → Int → Int → Int → Int → Int → Option (Bool × Unit)) (i : Nat), i < cnt → Inv i → (Inv (i + 1) → rc o0 x3 y4 t7 t8 t20 t21 t46 ((i + 1 : Nat) : Int) = res) → zz28_b12 rc (zz28_a12 rec) o0 x3 y4 t7 t8 t20 t21 t46 (i : Int) = res)
  (he : ∀ (rc : Y5 → Int → Int → Int → Int → Int → Int → Int → Int → Option (Bool × Unit)), Inv cnt → zz28_b12 rc (zz28_a12 rec) o0 x3 y4 t7 t8 t20 t21 t46 (cnt : Int) = res)
  (i0 : Nat) (hi : i0 ≤ cnt) (h0 : Inv i0) : zz28_F12 big rec k o0 x3 y4 t7 t8 t20 t21 t46 (i0 : Int) = res := by
  have key : ∀ (m i : Nat), i ≤ cnt → cnt < m + i → Inv i → zz28_l12 big (zz28_a12 rec) m o0 x3 y4 t7 t8 t20 t21 t46 (i : Int) = res := by
    intro m
    induction m with
    | zero => intro i h1 h2 h3; exact absurd h2 (by omega)
    | succ m ih =>
      intro i h1 h2 h3
      rcases Nat.lt_or_ge i cnt with hlt | hge
      · exact hs _ i hlt h3 (fun h4 => ih (i + 1) (by omega) (by omega) h4)
      · obtain rfl : i = cnt := by omega
        exact he _ h3
  exact key big i0 hi (by have := big_ge; omega) h0
theorem zz29_h6 {n4 : Int} {t18 : Y3} {t19 : Int} (cnt : Nat) (Inv : Nat → Y5 → Prop) {res : Option ((Y5 × (Bool × Unit)) × Unit)} (hn : cnt ≤ 500000000000)
  (hs : ∀ (rc : Int → Y5 → Y3 → Int → Int → Option ((Y5 × (Bool × Unit)) × Unit)) (i : Nat) (o5 : Y5), i < cnt → Inv i o5 → (∀ (o5' : Y5), Inv (i + 1) o5' → rc n4 o5' t18 t19 ((i + 1 : Nat) : Int) = res) → zz29_b6 (zz29_F11 big rc zz29_a6) zz29_a6 n4 o5 t18 t19 (i : Int) = res)
  (he : ∀ (rc : Int → Y5 → Y3 → Int → Int → Option ((Y5 × (Bool × Unit)) × Unit)) (o5 : Y5), Inv cnt o5 → zz29_b6 (zz29_F11 big rc zz29_a6) zz29_a6 n4 o5 t18 t19 (cnt : Int) = res)
  (i0 : Nat) (hi : i0 ≤ cnt) (o5 : Y5) (h0 : Inv i0 o5) : zz29_F6 big n4 o5 t18 t19 (i0 : Int) = res := by
  have key : ∀ (m i : Nat) (o5 : Y5), i ≤ cnt → cnt < m + i → Inv i o5 → zz29_l6 big zz29_a6 m n4 o5 t18 t19 (i : Int) = res := by
    intro m
    induction m with
    | zero => intro i o5 h1 h2 h3; exact absurd h2 (by omega)
    | succ m ih =>
      intro i o5 h1 h2 h3
      rcases Nat.lt_or_ge i cnt with hlt | hge
      · exact hs _ i o5 hlt h3 (fun o5' h4 => ih (i + 1) o5' (by omega) (by omega) h4)
      · obtain rfl : i = cnt := by omega
        exact he _ o5 h3
  exact key big i0 o5 hi (by have := big_ge; omega) h0
theorem zz29_h11 {rec : Int → Y5 → Y3 → Int → Int → Option ((Y5 × (Bool × Unit)) × Unit)} {k : Y5 → Option ((Y5 × (Bool × Unit)) × Unit)} {n4 : Int} {x6 : Int} {t18 : Y3} {t19 : Int} {t20 : Int} {t29 : Y4} {t30 : Int} {t31 : Bool} {t32 : Bool} {t34 : Y4} {t35 : Int} (cnt : Nat) (Inv : Nat → Y5 → Prop) {res : Option ((Y5 × (Bool × Unit)) × Unit)} (hn : cnt ≤ 500000000000)
  (hs : ∀ (rc : Int → Y5 → Int → Y3 → Int → Int → Y4 → Int → Bool → Bool → Y4 → Int → Int → Option ((Y5 × (Bool × Unit)) × Unit)) (i : Nat) (o5 : Y5), i < cnt → Inv i o5 → (∀ (o5' : Y5), Inv (i + 1) o5' → rc n4 o5' x6 t18 t19 t20 t29 t30 t31 t32 t34 t35 ((i + 1 : Nat) : Int) = res) → zz29_b11 rc (zz29_a11 rec) n4 o5 x6 t18 t19 t20 t29 t30 t31 t32 t34 t35 (i : Int) = res)
  (he : ∀ (rc : Int → Y5 → Int → Y3 → Int → Int → Y4 → Int → Bool → Bool → Y4 → Int → Int → Option ((Y5 × (Bool × Unit)) × Unit)) (o5 : Y5), Inv cnt o5 → zz29_b11 rc (zz29_a11 rec) n4 o5 x6 t18 t19 t20 t29 t30 t31 t32 t34 t35 (cnt : Int) = res)
  (i0 : Nat) (hi : i0 ≤ cnt) (o5 : Y5) (h0 : Inv i0 o5) : zz29_F11 big rec k n4 o5 x6 t18 t19 t20 t29 t30 t31 t32 t34 t35 (i0 : Int) = res := by
  have key : ∀ (m i : Nat) (o5 : Y5), i ≤ cnt → cnt < m + i → Inv i o5 → zz29_l11 big (zz29_a11 rec) m n4 o5 x6 t18 t19 t20 t29 t30 t31 t32 t34 t35 (i : Int) = res := by
    intro m
    induction m with
    | zero => intro i o5 h1 h2 h3; exact absurd h2 (by omega)
    | succ m ih =>
      intro i o5 h1 h2 h3
      rcases Nat.lt_or_ge i cnt with hlt | hge
      · exact hs _ i o5 hlt h3 (fun o5' h4 => ih (i + 1) o5' (by omega) (by omega) h4)
      · obtain rfl : i = cnt := by omega
        exact he _ o5 h3
  exact key big i0 o5 hi (by have := big_ge; omega) h0
theorem zz30_h2 {o0 : Y5} {list1 : Y4} {t10 : Y4} {t11 : Int} (cnt : Nat) (Inv : Nat → Prop) {res : Option (Int × Unit)} (hn : cnt ≤ 500000000000)
  (hs : ∀ (rc : Y5 → Y4 → Y4 → Int → Int → Option (Int × Unit)) (i : Nat), i < cnt → Inv i → (Inv (i + 1) → rc o0 list1 t10 t11 ((i + 1 : Nat) : Int) = res) → zz30_b2 (zz30_F6 big rc zz30_a2) zz30_a2 o0 list1 t10 t11 (i : Int) = res)
  (he : ∀ (rc : Y5 → Y4 → Y4 → Int → Int → Option (Int × Unit)), Inv cnt → zz30_b2 (zz30_F6 big rc zz30_a2) zz30_a2 o0 list1 t10 t11 (cnt : Int) = res)
  (i0 : Nat) (hi : i0 ≤ cnt) (h0 : Inv i0) : zz30_F2 big o0 list1 t10 t11 (i0 : Int) = res := by
  have key : ∀ (m i : Nat), i ≤ cnt → cnt < m + i → Inv i → zz30_l2 big zz30_a2 m o0 list1 t10 t11 (i : Int) = res := by
    intro m
    induction m with
    | zero => intro i h1 h2 h3; exact absurd h2 (by omega)
    | succ m ih =>
      intro i h1 h2 h3
      rcases Nat.lt_or_ge i cnt with hlt | hge
      · exact hs _ i hlt h3 (fun h4 => ih (i + 1) (by omega) (by omega) h4)
      · obtain rfl : i = cnt := by omega
        exact he _ h3
  exact key big i0 hi (by have := big_ge; omega) h0
theorem zz30_h6 {rec : Y5 → Y4 → Y4 → Int → Int → Option (Int × Unit)} {k : Option (Int × Unit)} {o0 : Y5} {list1 : Y4} {x6 : Int} {t10 : Y4} {t11 : Int} {t12 : Int} {t16 : Y4} {t17 : Int} (cnt : Nat) (Inv : Nat → Bool → Prop) {res : Option (Int × Unit)} (hn : cnt ≤ 500000000000)
  (hs : ∀ (rc : Y5 → Y4 → Int → Bool → Y4 → Int → Int → Y4 → Int → Int → Option (Int × Unit)) (i : Nat) (top7 : Bool), i < cnt → Inv i top7 → (∀ (top7' : Bool), Inv (i + 1) top7' → rc o0 list1 x6 top7' t10 t11 t12 t16 t17 ((i + 1 : Nat) : Int) = res) → zz30_b6 rc (zz30_a6 rec) o0 list1 x6 top7 t10 t11 t12 t16 t17 (i : Int) = res)
  (he : ∀ (rc : Y5 → Y4 → Int → Bool → Y4 → Int → Int → Y4 → Int → Int → Option (Int × Unit)) (top7 : Bool), Inv cnt top7 → zz30_b6 rc (zz30_a6 rec) o0 list1 x6 top7 t10 t11 t12 t16 t17 (cnt : Int) = res)
  (i0 : Nat) (hi : i0 ≤ cnt) (top7 : Bool) (h0 : Inv i0 top7) : zz30_F6 big rec k o0 list1 x6 top7 t10 t11 t12 t16 t17 (i0 : Int) = res := by
  have key : ∀ (m i : Nat) (top7 : Bool), i ≤ cnt → cnt < m + i → Inv i top7 → zz30_l6 big (zz30_a6 rec) m o0 list1 x6 top7 t10 t11 t12 t16 t17 (i : Int) = res := by
    intro m
    induction m with
    | zero => intro i top7 h1 h2 h3; exact absurd h2 (by omega)
    | succ m ih =>
      intro i top7 h1 h2 h3
      rcases Nat.lt_or_ge i cnt with hlt | hge
      · exact hs _ i top7 hlt h3 (fun top7' h4 => ih (i + 1) top7' (by omega) (by omega) h4)
      · obtain rfl : i = cnt := by omega
        exact he _ top7 h3
  exact key big i0 top7 hi (by have := big_ge; omega) h0
theorem zz32_h3 {so1 : (Y5 × (Int × (Int × Unit)))} {t9 : Int} (cnt : Nat) (Inv : Nat → Y4 → Prop) {res : Option (Y4 × Unit)} (hn : cnt ≤ 500000000000)
  (hs : ∀ (rc : (Y5 × (Int × (Int × Unit))) → Y4 → Int → Int → Option (Y4 × Unit)) (i : Nat) (list5 : Y4), i < cnt → Inv i list5 → (∀ (list5' : Y4), Inv (i + 1) list5' → rc so1 list5' t9 ((i + 1 : Nat) : Int) = res) → zz32_b3 rc zz32_a3 so1 list5 t9 (i : Int) = res)
  (he : ∀ (rc : (Y5 × (Int × (Int × Unit))) → Y4 → Int → Int → Option (Y4 × Unit)) (list5 : Y4), Inv cnt list5 → zz32_b3 rc zz32_a3 so1 list5 t9 (cnt : Int) = res)
  (i0 : Nat) (hi : i0 ≤ cnt) (list5 : Y4) (h0 : Inv i0 list5) : zz32_F3 big so1 list5 t9 (i0 : Int) = res := by
  have key : ∀ (m i : Nat) (list5 : Y4), i ≤ cnt → cnt < m + i → Inv i list5 → zz32_l3 big zz32_a3 m so1 list5 t9 (i : Int) = res := by
    intro m
    induction m with
    | zero => intro i list5 h1 h2 h3; exact absurd h2 (by omega)
    | succ m ih =>
      intro i list5 h1 h2 h3
      rcases Nat.lt_or_ge i cnt with hlt | hge
      · exact hs _ i list5 hlt h3 (fun list5' h4 => ih (i + 1) list5' (by omega) (by omega) h4)
      · obtain rfl : i = cnt := by omega
        exact he _ list5 h3
  exact key big i0 list5 hi (by have := big_ge; omega) h0
theorem zz33_h3 {o1 : Y5} {t11 : Int} (cnt : Nat) (Inv : Nat → Y3 → Prop) {res : Option ((Y3 × (Bool × Unit)) × Unit)} (hn : cnt ≤ 500000000000)
  (hs : ∀ (rc : Y5 → Y3 → Int → Int → Option ((Y3 × (Bool × Unit)) × Unit)) (i : Nat) (table4 : Y3), i < cnt → Inv i table4 → (∀ (table4' : Y3), Inv (i + 1) table4' → rc o1 table4' t11 ((i + 1 : Nat) : Int) = res) → zz33_b3 (zz33_F7 big rc zz33_a3) zz33_a3 o1 table4 t11 (i : Int) = res)
  (he : ∀ (rc : Y5 → Y3 → Int → Int → Option ((Y3 × (Bool × Unit)) × Unit)) (table4 : Y3), Inv cnt table4 → zz33_b3 (zz33_F7 big rc zz33_a3) zz33_a3 o1 table4 t11 (cnt : Int) = res)
  (i0 : Nat) (hi : i0 ≤ cnt) (table4 : Y3) (h0 : Inv i0 table4) : zz33_F3 big o1 table4 t11 (i0 : Int) = res := by
  have key : ∀ (m i : Nat) (table4 : Y3), i ≤ cnt → cnt < m + i → Inv i table4 → zz33_l3 big zz33_a3 m o1 table4 t11 (i : Int) = res := by
    intro m
    induction m with
    | zero => intro i table4 h1 h2 h3; exact absurd h2 (by omega)
    | succ m ih =>
      intro i table4 h1 h2 h3
      rcases Nat.lt_or_ge i cnt with hlt | hge
      · exact hs _ i table4 hlt h3 (fun table4' h4 => ih (i + 1) table4' (by omega) (by omega) h4)
      · obtain rfl : i = cnt := by omega
        exact he _ table4 h3
  exact key big i0 table4 hi (by have := big_ge; omega) h0
theorem zz33_h7 {rec : Y5 → Y3 → Int → Int → Option ((Y3 × (Bool × Unit)) × Unit)} {k : Y3 → Option ((Y3 × (Bool × Unit)) × Unit)} {o1 : Y5} {table4 : Y3} {x5 : Int} {t11 : Int} {t12 : Int} {t17 : Int} (cnt : Nat) (Inv : Nat → Y4 → Prop) {res : Option ((Y3 × (Bool × Unit)) × Unit)} (hn : cnt ≤ 500000000000)
  (hs : ∀ (rc : Y5 → Y3 → Int → Y4 → Int → Int → Int → Int → Option ((Y3 × (Bool × Unit)) × Unit)) (i : Nat) (row6 : Y4), i < cnt → Inv i row6 → (∀ (row6' : Y4), Inv (i + 1) row6' → rc o1 table4 x5 row6' t11 t12 t17 ((i + 1 : Nat) : Int) = res) → zz33_b7 rc (zz33_a7 rec) o1 table4 x5 row6 t11 t12 t17 (i : Int) = res)
  (he : ∀ (rc : Y5 → Y3 → Int → Y4 → Int → Int → Int → Int → Option ((Y3 × (Bool × Unit)) × Unit)) (row6 : Y4), Inv cnt row6 → zz33_b7 rc (zz33_a7 rec) o1 table4 x5 row6 t11 t12 t17 (cnt : Int) = res)
  (i0 : Nat) (hi : i0 ≤ cnt) (row6 : Y4) (h0 : Inv i0 row6) : zz33_F7 big rec k o1 table4 x5 row6 t11 t12 t17 (i0 : Int) = res := by
  have key : ∀ (m i : Nat) (row6 : Y4), i ≤ cnt → cnt < m + i → Inv i row6 → zz33_l7 big (zz33_a7 rec) m o1 table4 x5 row6 t11 t12 t17 (i : Int) = res := by
    intro m
    induction m with
    | zero => intro i row6 h1 h2 h3; exact absurd h2 (by omega)
    | succ m ih =>
      intro i row6 h1 h2 h3
      rcases Nat.lt_or_ge i cnt with hlt | hge
      · exact hs _ i row6 hlt h3 (fun row6' h4 => ih (i + 1) row6' (by omega) (by omega) h4)
      · obtain rfl : i = cnt := by omega
        exact he _ row6 h3
  exact key big i0 row6 hi (by have := big_ge; omega) h0
theorem zz34_h3 {o0 : Y5} {t10 : Int} (cnt : Nat) (Inv : Nat → Y5 → Prop) {res : Option (Y5 × Unit)} (hn : cnt ≤ 500000000000)
  (hs : ∀ (rc : Y5 → Y5 → Int → Int → Option (Y5 × Unit)) (i : Nat) (d3 : Y5), i < cnt → Inv i d3 → (∀ (d3' : Y5), Inv (i + 1) d3' → rc o0 d3' t10 ((i + 1 : Nat) : Int) = res) → zz34_b3 (zz34_F6 big rc zz34_a3) zz34_a3 o0 d3 t10 (i : Int) = res)
  (he : ∀ (rc : Y5 → Y5 → Int → Int → Option (Y5 × Unit)) (d3 : Y5), Inv cnt d3 → zz34_b3 (zz34_F6 big rc zz34_a3) zz34_a3 o0 d3 t10 (cnt : Int) = res)
  (i0 : Nat) (hi : i0 ≤ cnt) (d3 : Y5) (h0 : Inv i0 d3) : zz34_F3 big o0 d3 t10 (i0 : Int) = res := by
  have key : ∀ (m i : Nat) (d3 : Y5), i ≤ cnt → cnt < m + i → Inv i d3 → zz34_l3 big zz34_a3 m o0 d3 t10 (i : Int) = res := by
    intro m
    induction m with
    | zero => intro i d3 h1 h2 h3; exact absurd h2 (by omega)
    | succ m ih =>
      intro i d3 h1 h2 h3
      rcases Nat.lt_or_ge i cnt with hlt | hge
      · exact hs _ i d3 hlt h3 (fun d3' h4 => ih (i + 1) d3' (by omega) (by omega) h4)
      · obtain rfl : i = cnt := by omega
        exact he _ d3 h3
  exact key big i0 d3 hi (by have := big_ge; omega) h0
theorem zz34_h6 {rec : Y5 → Y5 → Int → Int → Option (Y5 × Unit)} {k : Y5 → Option (Y5 × Unit)} {o0 : Y5} {x4 : Int} {t10 : Int} {t11 : Int} {t15 : Int} (cnt : Nat) (Inv : Nat → Y5 → Prop) {res : Option (Y5 × Unit)} (hn : cnt ≤ 500000000000)
  (hs : ∀ (rc : Y5 → Y5 → Int → Int → Int → Int → Int → Option (Y5 × Unit)) (i : Nat) (d3 : Y5), i < cnt → Inv i d3 → (∀ (d3' : Y5), Inv (i + 1) d3' → rc o0 d3' x4 t10 t11 t15 ((i + 1 : Nat) : Int) = res) → zz34_b6 rc (zz34_a6 rec) o0 d3 x4 t10 t11 t15 (i : Int) = res)
  (he : ∀ (rc : Y5 → Y5 → Int → Int → Int → Int → Int → Option (Y5 × Unit)) (d3 : Y5), Inv cnt d3 → zz34_b6 rc (zz34_a6 rec) o0 d3 x4 t10 t11 t15 (cnt : Int) = res)
  (i0 : Nat) (hi : i0 ≤ cnt) (d3 : Y5) (h0 : Inv i0 d3) : zz34_F6 big rec k o0 d3 x4 t10 t11 t15 (i0 : Int) = res := by
  have key : ∀ (m i : Nat) (d3 : Y5), i ≤ cnt → cnt < m + i → Inv i d3 → zz34_l6 big (zz34_a6 rec) m o0 d3 x4 t10 t11 t15 (i : Int) = res := by
    intro m
    induction m with
    | zero => intro i d3 h1 h2 h3; exact absurd h2 (by omega)
    | succ m ih =>
      intro i d3 h1 h2 h3
      rcases Nat.lt_or_ge i cnt with hlt | hge
      · exact hs _ i d3 hlt h3 (fun d3' h4 => ih (i + 1) d3' (by omega) (by omega) h4)
      · obtain rfl : i = cnt := by omega
        exact he _ d3 h3
  exact key big i0 d3 hi (by have := big_ge; omega) h0
theorem zz39_h4 {o0 : Y5} {x1 : Int} {y2 : Int} {t14 : Int} (cnt : Nat) (Inv : Nat → Prop) {res : Option (Bool × Unit)} (hn : cnt ≤ 500000000000)
  (hs : ∀ (rc : Y5 → Int → Int → Int → Int → Option (Bool × Unit)) (i : Nat), i < cnt → Inv i → (Inv (i + 1) → rc o0 x1 y2 t14 ((i + 1 : Nat) : Int) = res) → zz39_b4 rc zz39_a4 o0 x1 y2 t14 (i : Int) = res)
  (he : ∀ (rc : Y5 → Int → Int → Int → Int → Option (Bool × Unit)), Inv cnt → zz39_b4 rc zz39_a4 o0 x1 y2 t14 (cnt : Int) = res)
  (i0 : Nat) (hi : i0 ≤ cnt) (h0 : Inv i0) : zz39_F4 big o0 x1 y2 t14 (i0 : Int) = res := by
  have key : ∀ (m i : Nat), i ≤ cnt → cnt < m + i → Inv i → zz39_l4 big zz39_a4 m o0 x1 y2 t14 (i : Int) = res := by
    intro m
    induction m with
    | zero => intro i h1 h2 h3; exact absurd h2 (by omega)
    | succ m ih =>
      intro i h1 h2 h3
      rcases Nat.lt_or_ge i cnt with hlt | hge
      · exact hs _ i hlt h3 (fun h4 => ih (i + 1) (by omega) (by omega) h4)
      · obtain rfl : i = cnt := by omega
        exact he _ h3
  exact key big i0 hi (by have := big_ge; omega) h0
theorem zz41_h3 {o0 : Y5} {t8 : Int} (cnt : Nat) (Inv : Nat → (List (Int × (Int × Unit))) → Prop) {res : Option ((List (Int × (Int × Unit))) × Unit)} (hn : cnt ≤ 500000000000)
  (hs : ∀ (rc : Y5 → (List (Int × (Int × Unit))) → Int → Int → Option ((List (Int × (Int × Unit))) × Unit)) (i : Nat) (list3 : (List (Int × (Int × Unit)))), i < cnt → Inv i list3 → (∀ (list3' : (List (Int × (Int × Unit)))), Inv (i + 1) list3' → rc o0 list3' t8 ((i + 1 : Nat) : Int) = res) → zz41_b3 (zz41_F6 big rc zz41_a3) zz41_a3 o0 list3 t8 (i : Int) = res)
  (he : ∀ (rc : Y5 → (List (Int × (Int × Unit))) → Int → Int → Option ((List (Int × (Int × Unit))) × Unit)) (list3 : (List (Int × (Int × Unit)))), Inv cnt list3 → zz41_b3 (zz41_F6 big rc zz41_a3) zz41_a3 o0 list3 t8 (cnt : Int) = res)
  (i0 : Nat) (hi : i0 ≤ cnt) (list3 : (List (Int × (Int × Unit)))) (h0 : Inv i0 list3) : zz41_F3 big o0 list3 t8 (i0 : Int) = res := by
  have key : ∀ (m i : Nat) (list3 : (List (Int × (Int × Unit)))), i ≤ cnt → cnt < m + i → Inv i list3 → zz41_l3 big zz41_a3 m o0 list3 t8 (i : Int) = res := by
    intro m
    induction m with
    | zero => intro i list3 h1 h2 h3; exact absurd h2 (by omega)
    | succ m ih =>
      intro i list3 h1 h2 h3
      rcases Nat.lt_or_ge i cnt with hlt | hge
      · exact hs _ i list3 hlt h3 (fun list3' h4 => ih (i + 1) list3' (by omega) (by omega) h4)
      · obtain rfl : i = cnt := by omega
        exact he _ list3 h3
  exact key big i0 list3 hi (by have := big_ge; omega) h0
theorem zz41_h6 {rec : Y5 → (List (Int × (Int × Unit))) → Int → Int → Option ((List (Int × (Int × Unit))) × Unit)} {k : (List (Int × (Int × Unit))) → Option ((List (Int × (Int × Unit))) × Unit)} {o0 : Y5} {x4 : Int} {t8 : Int} {t9 : Int} {t13 : Int} (cnt : Nat) (Inv : Nat → (List (Int × (Int × Unit))) → Prop) {res : Option ((List (Int × (Int × Unit))) × Unit)} (hn : cnt ≤ 500000000000)
  (hs : ∀ (rc : Y5 → (List (Int × (Int × Unit))) → Int → Int → Int → Int → Int → Option ((List (Int × (Int × Unit))) × Unit)) (i : Nat) (list3 : (List (Int × (Int × Unit)))), i < cnt → Inv i list3 → (∀ (list3' : (List (Int × (Int × Unit)))), Inv (i + 1) list3' → rc o0 list3' x4 t8 t9 t13 ((i + 1 : Nat) : Int) = res) → zz41_b6 rc (zz41_a6 rec) o0 list3 x4 t8 t9 t13 (i : Int) = res)
  (he : ∀ (rc : Y5 → (List (Int × (Int × Unit))) → Int → Int → Int → Int → Int → Option ((List (Int × (Int × Unit))) × Unit)) (list3 : (List (Int × (Int × Unit)))), Inv cnt list3 → zz41_b6 rc (zz41_a6 rec) o0 list3 x4 t8 t9 t13 (cnt : Int) = res)
  (i0 : Nat) (hi : i0 ≤ cnt) (list3 : (List (Int × (Int × Unit)))) (h0 : Inv i0 list3) : zz41_F6 big rec k o0 list3 x4 t8 t9 t13 (i0 : Int) = res := by
  have key : ∀ (m i : Nat) (list3 : (List (Int × (Int × Unit)))), i ≤ cnt → cnt < m + i → Inv i list3 → zz41_l6 big (zz41_a6 rec) m o0 list3 x4 t8 t9 t13 (i : Int) = res := by
    intro m
    induction m with
    | zero => intro i list3 h1 h2 h3; exact absurd h2 (by omega)
    | succ m ih =>
      intro i list3 h1 h2 h3
      rcases Nat.lt_or_ge i cnt with hlt | hge
      · exact hs _ i list3 hlt h3 (fun list3' h4 => ih (i + 1) list3' (by omega) (by omega) h4)
      · obtain rfl : i = cnt := by omega
        exact he _ list3 h3
  exact key big i0 list3 hi (by have := big_ge; omega) h0
theorem zz43_h7 {l8 : Y1} (cnt : Nat) (Inv : Nat → (List ((Int × (Int × Unit)) × Bool)) → (List (Int × (Int × Unit))) → Prop) {res : Option (((List (Int × (Int × Unit))) × (Bool × Unit)) × Unit)} (hn : cnt ≤ 500000000000)
  (hs : ∀ (rc : Y1 → (List ((Int × (Int × Unit)) × Bool)) → (List (Int × (Int × Unit))) → Int → Option (((List (Int × (Int × Unit))) × (Bool × Unit)) × Unit)) (i : Nat) (reached10 : (List ((Int × (Int × Unit)) × Bool))) (line11 : (List (Int × (Int × Unit)))), i < cnt → Inv i reached10 line11 → (∀ (reached10' : (List ((Int × (Int × Unit)) × Bool))) (line11' : (List (Int × (Int × Unit)))), Inv (i + 1) reached10' line11' → rc l8 reached10' line11' ((i + 1 : Nat) : Int) = res) → zz43_b7 (zz43_F10 big rc (zz43_a7 (zz43_F18 big))) (zz43_a7 (zz43_F18 big)) l8 reached10 line11 (i : Int) = res)
  (he : ∀ (rc : Y1 → (List ((Int × (Int × Unit)) × Bool)) → (List (Int × (Int × Unit))) → Int → Option (((List (Int × (Int × Unit))) × (Bool × Unit)) × Unit)) (reached10 : (List ((Int × (Int × Unit)) × Bool))) (line11 : (List (Int × (Int × Unit)))), Inv cnt reached10 line11 → zz43_b7 (zz43_F10 big rc (zz43_a7 (zz43_F18 big))) (zz43_a7 (zz43_F18 big)) l8 reached10 line11 (cnt : Int) = res)
  (i0 : Nat) (hi : i0 ≤ cnt) (reached10 : (List ((Int × (Int × Unit)) × Bool))) (line11 : (List (Int × (Int × Unit)))) (h0 : Inv i0 reached10 line11) : zz43_F7 big l8 reached10 line11 (i0 : Int) = res := by
  have key : ∀ (m i : Nat) (reached10 : (List ((Int × (Int × Unit)) × Bool))) (line11 : (List (Int × (Int × Unit)))), i ≤ cnt → cnt < m + i → Inv i reached10 line11 → zz43_l7 big (zz43_a7 (zz43_F18 big)) m l8 reached10 line11 (i : Int) = res := by
    intro m
    induction m with
    | zero => intro i reached10 line11 h1 h2 h3; exact absurd h2 (by omega)
    | succ m ih =>
      intro i reached10 line11 h1 h2 h3
      rcases Nat.lt_or_ge i cnt with hlt | hge
      · exact hs _ i reached10 line11 hlt h3 (fun reached10' line11' h4 => ih (i + 1) reached10' line11' (by omega) (by omega) h4)
      · obtain rfl : i = cnt := by omega
        exact he _ reached10 line11 h3
  exact key big i0 reached10 line11 hi (by have := big_ge; omega) h0
theorem zz43_h10 {rec : Y1 → (List ((Int × (Int × Unit)) × Bool)) → (List (Int × (Int × Unit))) → Int → Option (((List (Int × (Int × Unit))) × (Bool × Unit)) × Unit)} {k : Y1 → (List ((Int × (Int × Unit)) × Bool)) → Option (((List (Int × (Int × Unit))) × (Bool × Unit)) × Unit)} {l8 : Y1} {i12 : Int} {t52 : (List (Int × (Int × Unit)))} {t53 : Int} (cnt : Nat) (Inv : Nat → (List ((Int × (Int × Unit)) × Bool)) → (List (Int × (Int × Unit))) → Prop) {res : Option (((List (Int × (Int × Unit))) × (Bool × Unit)) × Unit)} (hn : cnt ≤ 500000000000)
  (hs : ∀ (rc : Y1 → (List ((Int × (Int × Unit)) × Bool)) → (List (Int × (Int × Unit))) → Int → (List (Int × (Int × Unit))) → Int → Int → Option (((List (Int × (Int × Unit))) × (Bool × Unit)) × Unit)) (i : Nat) (reached10 : (List ((Int × (Int × Unit)) × Bool))) (line11 : (List (Int × (Int × Unit)))), i < cnt → Inv i reached10 line11 → (∀ (reached10' : (List ((Int × (Int × Unit)) × Bool))) (line11' : (List (Int × (Int × Unit)))), Inv (i + 1) reached10' line11' → rc l8 reached10' line11' i12 t52 t53 ((i + 1 : Nat) : Int) = res) → zz43_b10 rc (zz43_a10 rec) l8 reached10 line11 i12 t52 t53 (i : Int) = res)
  (he : ∀ (rc : Y1 → (List ((Int × (Int × Unit)) × Bool)) → (List (Int × (Int × Unit))) → Int → (List (Int × (Int × Unit))) → Int → Int → Option (((List (Int × (Int × Unit))) × (Bool × Unit)) × Unit)) (reached10 : (List ((Int × (Int × Unit)) × Bool))) (line11 : (List (Int × (Int × Unit)))), Inv cnt reached10 line11 → zz43_b10 rc (zz43_a10 rec) l8 reached10 line11 i12 t52 t53 (cnt : Int) = res)
  (i0 : Nat) (hi : i0 ≤ cnt) (reached10 : (List ((Int × (Int × Unit)) × Bool))) (line11 : (List (Int × (Int × Unit)))) (h0 : Inv i0 reached10 line11) : zz43_F10 big rec k l8 reached10 line11 i12 t52 t53 (i0 : Int) = res := by
  have key : ∀ (m i : Nat) (reached10 : (List ((Int × (Int × Unit)) × Bool))) (line11 : (List (Int × (Int × Unit)))), i ≤ cnt → cnt < m + i → Inv i reached10 line11 → zz43_l10 big (zz43_a10 rec) m l8 reached10 line11 i12 t52 t53 (i : Int) = res := by
    intro m
    induction m with
    | zero => intro i reached10 line11 h1 h2 h3; exact absurd h2 (by omega)
    | succ m ih =>
      intro i reached10 line11 h1 h2 h3
      rcases Nat.lt_or_ge i cnt with hlt | hge
      · exact hs _ i reached10 line11 hlt h3 (fun reached10' line11' h4 => ih (i + 1) reached10' line11' (by omega) (by omega) h4)
      · obtain rfl : i = cnt := by omega
        exact he _ reached10 line11 h3
  exact key big i0 reached10 line11 hi (by have := big_ge; omega) h0
theorem zz43_h18 {reached10 : (List ((Int × (Int × Unit)) × Bool))} {t92 : (List (Int × (Int × Unit)))} {t93 : Int} (cnt : Nat) (Inv : Nat → (List (Int × (Int × Unit))) → Prop) {res : Option (((List (Int × (Int × Unit))) × (Bool × Unit)) × Unit)} (hn : cnt ≤ 500000000000)
  (hs : ∀ (rc : (List ((Int × (Int × Unit)) × Bool)) → (List (Int × (Int × Unit))) → (List (Int × (Int × Unit))) → Int → Int → Option (((List (Int × (Int × Unit))) × (Bool × Unit)) × Unit)) (i : Nat) (list15 : (List (Int × (Int × Unit)))), i < cnt → Inv i list15 → (∀ (list15' : (List (Int × (Int × Unit)))), Inv (i + 1) list15' → rc reached10 list15' t92 t93 ((i + 1 : Nat) : Int) = res) → zz43_b18 rc zz43_a18 reached10 list15 t92 t93 (i : Int) = res)
  (he : ∀ (rc : (List ((Int × (Int × Unit)) × Bool)) → (List (Int × (Int × Unit))) → (List (Int × (Int × Unit))) → Int → Int → Option (((List (Int × (Int × Unit))) × (Bool × Unit)) × Unit)) (list15 : (List (Int × (Int × Unit)))), Inv cnt list15 → zz43_b18 rc zz43_a18 reached10 list15 t92 t93 (cnt : Int) = res)
  (i0 : Nat) (hi : i0 ≤ cnt) (list15 : (List (Int × (Int × Unit)))) (h0 : Inv i0 list15) : zz43_F18 big reached10 list15 t92 t93 (i0 : Int) = res := by
  have key : ∀ (m i : Nat) (list15 : (List (Int × (Int × Unit)))), i ≤ cnt → cnt < m + i → Inv i list15 → zz43_l18 big zz43_a18 m reached10 list15 t92 t93 (i : Int) = res := by
    intro m
    induction m with
    | zero => intro i list15 h1 h2 h3; exact absurd h2 (by omega)
    | succ m ih =>
      intro i list15 h1 h2 h3
      rcases Nat.lt_or_ge i cnt with hlt | hge
      · exact hs _ i list15 hlt h3 (fun list15' h4 => ih (i + 1) list15' (by omega) (by omega) h4)
      · obtain rfl : i = cnt := by omega
        exact he _ list15 h3
  exact key big i0 list15 hi (by have := big_ge; omega) h0
theorem zz44_h2 {a2 : (Int × (Int × Unit))} {b3 : (Int × (Int × Unit))} (cnt : Nat) (Inv : Nat → Prop) {res : Option (Bool × Unit)} (hn : cnt ≤ 500000000000)
  (hs : ∀ (rc : (Int × (Int × Unit)) → (Int × (Int × Unit)) → Int → Option (Bool × Unit)) (i : Nat), i < cnt → Inv i → (Inv (i + 1) → rc a2 b3 ((i + 1 : Nat) : Int) = res) → zz44_b2 rc zz44_a2 a2 b3 (i : Int) = res)
  (he : ∀ (rc : (Int × (Int × Unit)) → (Int × (Int × Unit)) → Int → Option (Bool × Unit)), Inv cnt → zz44_b2 rc zz44_a2 a2 b3 (cnt : Int) = res)
  (i0 : Nat) (hi : i0 ≤ cnt) (h0 : Inv i0) : zz44_F2 big a2 b3 (i0 : Int) = res := by
  have key : ∀ (m i : Nat), i ≤ cnt → cnt < m + i → Inv i → zz44_l2 big zz44_a2 m a2 b3 (i : Int) = res := by
    intro m
    induction m with
    | zero => intro i h1 h2 h3; exact absurd h2 (by omega)
    | succ m ih =>
      intro i h1 h2 h3
      rcases Nat.lt_or_ge i cnt with hlt | hge
      · exact hs _ i hlt h3 (fun h4 => ih (i + 1) (by omega) (by omega) h4)
      · obtain rfl : i = cnt := by omega
        exact he _ h3
  exact key big i0 hi (by have := big_ge; omega) h0
theorem zz45_h4 {a0 : (List (Int × (Int × Unit)))} {b1 : (List (Int × (Int × Unit)))} (cnt : Nat) (Inv : Nat → Prop) {res : Option (Bool × Unit)} (hn : cnt ≤ 500000000000)
  (hs : ∀ (rc : (List (Int × (Int × Unit))) → (List (Int × (Int × Unit))) → Int → Option (Bool × Unit)) (i : Nat), i < cnt → Inv i → (Inv (i + 1) → rc a0 b1 ((i + 1 : Nat) : Int) = res) → zz45_b4 rc zz45_a4 a0 b1 (i : Int) = res)
  (he : ∀ (rc : (List (Int × (Int × Unit))) → (List (Int × (Int × Unit))) → Int → Option (Bool × Unit)), Inv cnt → zz45_b4 rc zz45_a4 a0 b1 (cnt : Int) = res)
  (i0 : Nat) (hi : i0 ≤ cnt) (h0 : Inv i0) : zz45_F4 big a0 b1 (i0 : Int) = res := by
  have key : ∀ (m i : Nat), i ≤ cnt → cnt < m + i → Inv i → zz45_l4 big zz45_a4 m a0 b1 (i : Int) = res := by
    intro m
    induction m with
    | zero => intro i h1 h2 h3; exact absurd h2 (by omega)
    | succ m ih =>
      intro i h1 h2 h3
      rcases Nat.lt_or_ge i cnt with hlt | hge
      · exact hs _ i hlt h3 (fun h4 => ih (i + 1) (by omega) (by omega) h4)
      · obtain rfl : i = cnt := by omega
        exact he _ h3
  exact key big i0 hi (by have := big_ge; omega) h0
theorem zz52_h2 (cnt : Nat) (Inv : Nat → (List (Int × (Int × Unit))) → Int → Prop) {res : Option (Int × ((List (Int × (Int × Unit))) × Unit))} (hn : cnt ≤ 500000000000)
  (hs : ∀ (rc : (List (Int × (Int × Unit))) → Int → Int → Option (Int × ((List (Int × (Int × Unit))) × Unit))) (i : Nat) (a0 : (List (Int × (Int × Unit)))) (k1 : Int), i < cnt → Inv i a0 k1 → (∀ (a0' : (List (Int × (Int × Unit)))) (k1' : Int), Inv (i + 1) a0' k1' → rc a0' k1' ((i + 1 : Nat) : Int) = res) → zz52_b2 (zz52_F5 big rc zz52_a2) zz52_a2 a0 k1 (i : Int) = res)
  (he : ∀ (rc : (List (Int × (Int × Unit))) → Int → Int → Option (Int × ((List (Int × (Int × Unit))) × Unit))) (a0 : (List (Int × (Int × Unit)))) (k1 : Int), Inv cnt a0 k1 → zz52_b2 (zz52_F5 big rc zz52_a2) zz52_a2 a0 k1 (cnt : Int) = res)
  (i0 : Nat) (hi : i0 ≤ cnt) (a0 : (List (Int × (Int × Unit)))) (k1 : Int) (h0 : Inv i0 a0 k1) : zz52_F2 big a0 k1 (i0 : Int) = res := by
  have key : ∀ (m i : Nat) (a0 : (List (Int × (Int × Unit)))) (k1 : Int), i ≤ cnt → cnt < m + i → Inv i a0 k1 → zz52_l2 big zz52_a2 m a0 k1 (i : Int) = res := by
    intro m
    induction m with
    | zero => intro i a0 k1 h1 h2 h3; exact absurd h2 (by omega)
    | succ m ih =>
      intro i a0 k1 h1 h2 h3
      rcases Nat.lt_or_ge i cnt with hlt | hge
      · exact hs _ i a0 k1 hlt h3 (fun a0' k1' h4 => ih (i + 1) a0' k1' (by omega) (by omega) h4)
      · obtain rfl : i = cnt := by omega
        exact he _ a0 k1 h3
  exact key big i0 a0 k1 hi (by have := big_ge; omega) h0
theorem zz52_h5 {rec : (List (Int × (Int × Unit))) → Int → Int → Option (Int × ((List (Int × (Int × Unit))) × Unit))} {k : (List (Int × (Int × Unit))) → Int → Option (Int × ((List (Int × (Int × Unit))) × Unit))} {i5 : Int} (cnt : Nat) (Inv : Nat → (List (Int × (Int × Unit))) → Int → Prop) {res : Option (Int × ((List (Int × (Int × Unit))) × Unit))} (hn : cnt ≤ 500000000000)
  (hs : ∀ (rc : (List (Int × (Int × Unit))) → Int → Int → Int → Option (Int × ((List (Int × (Int × Unit))) × Unit))) (i : Nat) (a0 : (List (Int × (Int × Unit)))) (k1 : Int), i < cnt → Inv i a0 k1 → (∀ (a0' : (List (Int × (Int × Unit)))) (k1' : Int), Inv (i + 1) a0' k1' → rc a0' k1' i5 ((i + 1 : Nat) : Int) = res) → zz52_b5 rc (zz52_a5 rec) a0 k1 i5 (i : Int) = res)
  (he : ∀ (rc : (List (Int × (Int × Unit))) → Int → Int → Int → Option (Int × ((List (Int × (Int × Unit))) × Unit))) (a0 : (List (Int × (Int × Unit)))) (k1 : Int), Inv cnt a0 k1 → zz52_b5 rc (zz52_a5 rec) a0 k1 i5 (cnt : Int) = res)
  (i0 : Nat) (hi : i0 ≤ cnt) (a0 : (List (Int × (Int × Unit)))) (k1 : Int) (h0 : Inv i0 a0 k1) : zz52_F5 big rec k a0 k1 i5 (i0 : Int) = res := by
  have key : ∀ (m i : Nat) (a0 : (List (Int × (Int × Unit)))) (k1 : Int), i ≤ cnt → cnt < m + i → Inv i a0 k1 → zz52_l5 big (zz52_a5 rec) m a0 k1 i5 (i : Int) = res := by
    intro m
    induction m with
    | zero => intro i a0 k1 h1 h2 h3; exact absurd h2 (by omega)
    | succ m ih =>
      intro i a0 k1 h1 h2 h3
      rcases Nat.lt_or_ge i cnt with hlt | hge
      · exact hs _ i a0 k1 hlt h3 (fun a0' k1' h4 => ih (i + 1) a0' k1' (by omega) (by omega) h4)
      · obtain rfl : i = cnt := by omega
        exact he _ a0 k1 h3
  exact key big i0 a0 k1 hi (by have := big_ge; omega) h0
theorem zz53_h2 {a0 : (List (Int × (Int × Unit)))} (cnt : Nat) (Inv : Nat → Int → Prop) {res : Option (Int × Unit)} (hn : cnt ≤ 500000000000)
  (hs : ∀ (rc : (List (Int × (Int × Unit))) → Int → Int → Option (Int × Unit)) (i : Nat) (k1 : Int), i < cnt → Inv i k1 → (∀ (k1' : Int), Inv (i + 1) k1' → rc a0 k1' ((i + 1 : Nat) : Int) = res) → zz53_b2 (zz53_F5 big rc zz53_a2) zz53_a2 a0 k1 (i : Int) = res)
  (he : ∀ (rc : (List (Int × (Int × Unit))) → Int → Int → Option (Int × Unit)) (k1 : Int), Inv cnt k1 → zz53_b2 (zz53_F5 big rc zz53_a2) zz53_a2 a0 k1 (cnt : Int) = res)
  (i0 : Nat) (hi : i0 ≤ cnt) (k1 : Int) (h0 : Inv i0 k1) : zz53_F2 big a0 k1 (i0 : Int) = res := by
  have key : ∀ (m i : Nat) (k1 : Int), i ≤ cnt → cnt < m + i → Inv i k1 → zz53_l2 big zz53_a2 m a0 k1 (i : Int) = res := by
    intro m
    induction m with
    | zero => intro i k1 h1 h2 h3; exact absurd h2 (by omega)
    | succ m ih =>
      intro i k1 h1 h2 h3
      rcases Nat.lt_or_ge i cnt with hlt | hge
      · exact hs _ i k1 hlt h3 (fun k1' h4 => ih (i + 1) k1' (by omega) (by omega) h4)
      · obtain rfl : i = cnt := by omega
        exact he _ k1 h3
  exact key big i0 k1 hi (by have := big_ge; omega) h0
theorem zz53_h5 {rec : (List (Int × (Int × Unit))) → Int → Int → Option (Int × Unit)} {k : Int → Option (Int × Unit)} {a0 : (List (Int × (Int × Unit)))} {i5 : Int} (cnt : Nat) (Inv : Nat → Int → Prop) {res : Option (Int × Unit)} (hn : cnt ≤ 500000000000)
  (hs : ∀ (rc : (List (Int × (Int × Unit))) → Int → Int → Int → Option (Int × Unit)) (i : Nat) (k1 : Int), i < cnt → Inv i k1 → (∀ (k1' : Int), Inv (i + 1) k1' → rc a0 k1' i5 ((i + 1 : Nat) : Int) = res) → zz53_b5 rc (zz53_a5 rec) a0 k1 i5 (i : Int) = res)
  (he : ∀ (rc : (List (Int × (Int × Unit))) → Int → Int → Int → Option (Int × Unit)) (k1 : Int), Inv cnt k1 → zz53_b5 rc (zz53_a5 rec) a0 k1 i5 (cnt : Int) = res)
  (i0 : Nat) (hi : i0 ≤ cnt) (k1 : Int) (h0 : Inv i0 k1) : zz53_F5 big rec k a0 k1 i5 (i0 : Int) = res := by
  have key : ∀ (m i : Nat) (k1 : Int), i ≤ cnt → cnt < m + i → Inv i k1 → zz53_l5 big (zz53_a5 rec) m a0 k1 i5 (i : Int) = res := by
    intro m
    induction m with
    | zero => intro i k1 h1 h2 h3; exact absurd h2 (by omega)
    | succ m ih =>
      intro i k1 h1 h2 h3
      rcases Nat.lt_or_ge i cnt with hlt | hge
      · exact hs _ i k1 hlt h3 (fun k1' h4 => ih (i + 1) k1' (by omega) (by omega) h4)
      · obtain rfl : i = cnt := by omega
        exact he _ k1 h3
  exact key big i0 k1 hi (by have := big_ge; omega) h0
end Go.Proofs.Ytiklgbjlggcejaa
