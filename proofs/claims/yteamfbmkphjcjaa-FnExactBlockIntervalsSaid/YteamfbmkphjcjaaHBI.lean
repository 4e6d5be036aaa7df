import Derived.Test.YteamfbmkphjcjaaPLib
import Derived.Test.YteamfbmkphjcjaaGBI
set_option linter.unusedVariables false
namespace Go.Proofs.Yteamfbmkphjcjaa
open Go Go.Gx Go.Proofs

/-! rules for the loops -/
theorem zz4_h3 {a0 : Y3} (cnt : Nat) (Inv : Nat → Y3 → Prop) {res : Option Y2} (hn : cnt ≤ 500000000000)
  (hs : ∀ (rc : Y3 → Y3 → Int → Option Y2) (i : Nat) (out3 : Y3), i < cnt → Inv i out3 → (∀ (out3' : Y3), Inv (i + 1) out3' → rc a0 out3' ((i + 1 : Nat) : Int) = res) → zz4_b3 rc zz4_a3 a0 out3 (i : Int) = res)
  (he : ∀ (rc : Y3 → Y3 → Int → Option Y2) (out3 : Y3), Inv cnt out3 → zz4_b3 rc zz4_a3 a0 out3 (cnt : Int) = res)
  (i0 : Nat) (hi : i0 ≤ cnt) (out3 : Y3) (h0 : Inv i0 out3) : zz4_F3 big a0 out3 (i0 : Int) = res := by
  have key : ∀ (m i : Nat) (out3 : Y3), i ≤ cnt → cnt < m + i → Inv i out3 → zz4_l3 big zz4_a3 m a0 out3 (i : Int) = res := by
    intro m
    induction m with
    | zero => intro i out3 h1 h2 h3; exact absurd h2 (by omega)
    | succ m ih =>
      intro i out3 h1 h2 h3
      rcases Nat.lt_or_ge i cnt with hlt | hge
      · exact hs _ i out3 hlt h3 (fun out3' h4 => ih (i + 1) out3' (by omega) (by omega) h4)
      · obtain rfl : i = cnt := by omega
        exact he _ out3 h3
  exact key big i0 out3 hi (by have := big_ge; omega) h0
theorem zz8_h2 {l0 : Y4} {n1 : Int} (cnt : Nat) (Inv : Nat → Prop) {res : Option (Bool × Unit)} (hn : cnt ≤ 500000000000)
  (hs : ∀ (rc : Y4 → Int → Int → Option (Bool × Unit)) (i : Nat), i < cnt → Inv i → (Inv (i + 1) → rc l0 n1 ((i + 1 : Nat) : Int) = res) → zz8_b2 rc zz8_a2 l0 n1 (i : Int) = res)
  (he : ∀ (rc : Y4 → Int → Int → Option (Bool × Unit)), Inv cnt → zz8_b2 rc zz8_a2 l0 n1 (cnt : Int) = res)
  (i0 : Nat) (hi : i0 ≤ cnt) (h0 : Inv i0) : zz8_F2 big l0 n1 (i0 : Int) = res := by
  have key : ∀ (m i : Nat), i ≤ cnt → cnt < m + i → Inv i → zz8_l2 big zz8_a2 m l0 n1 (i : Int) = res := by
    intro m
    induction m with
    | zero => intro i h1 h2 h3; exact absurd h2 (by omega)
    | succ m ih =>
      intro i h1 h2 h3
      rcases Nat.lt_or_ge i cnt with hlt | hge
      · exact hs _ i hlt h3 (fun h4 => ih (i + 1) (by omega) (by omega) h4)
      · obtain rfl : i = cnt := by omega
        exact he _ h3
  exact key big i0 hi (by have := big_ge; omega) h0
theorem zz9_h2 {x0 : Y4} {y1 : Y4} (cnt : Nat) (Inv : Nat → Prop) {res : Option (Bool × Unit)} (hn : cnt ≤ 500000000000)
  (hs : ∀ (rc : Y4 → Y4 → Int → Option (Bool × Unit)) (i : Nat), i < cnt → Inv i → (Inv (i + 1) → rc x0 y1 ((i + 1 : Nat) : Int) = res) → zz9_b2 rc zz9_a2 x0 y1 (i : Int) = res)
  (he : ∀ (rc : Y4 → Y4 → Int → Option (Bool × Unit)), Inv cnt → zz9_b2 rc zz9_a2 x0 y1 (cnt : Int) = res)
  (i0 : Nat) (hi : i0 ≤ cnt) (h0 : Inv i0) : zz9_F2 big x0 y1 (i0 : Int) = res := by
  have key : ∀ (m i : Nat), i ≤ cnt → cnt < m + i → Inv i → zz9_l2 big zz9_a2 m x0 y1 (i : Int) = res := by
    intro m
    induction m with
    | zero => intro i h1 h2 h3; exact absurd h2 (by omega)
    | succ m ih =>
      intro i h1 h2 h3
      rcases Nat.lt_or_ge i cnt with hlt | hge
      · exact hs _ i hlt h3 (fun h4 => ih (i + 1) (by omega) (by omega) h4)
      · obtain rfl : i = cnt := by omega
        exact he _ h3
  exact key big i0 hi (by have := big_ge; omega) h0
theorem zz10_h5 {p1 : Y2} {n3 : Int} (cnt : Nat) (Inv : Nat → Prop) {res : Option (Bool × Unit)} (hn : cnt ≤ 500000000000)
  (hs : ∀ (rc : Y2 → Int → Int → Option (Bool × Unit)) (i : Nat), i < cnt → Inv i → (Inv (i + 1) → rc p1 n3 ((i + 1 : Nat) : Int) = res) → zz10_b5 rc (zz10_a5 (zz10_F10 big)) p1 n3 (i : Int) = res)
  (he : ∀ (rc : Y2 → Int → Int → Option (Bool × Unit)), Inv cnt → zz10_b5 rc (zz10_a5 (zz10_F10 big)) p1 n3 (cnt : Int) = res)
  (i0 : Nat) (hi : i0 ≤ cnt) (h0 : Inv i0) : zz10_F5 big p1 n3 (i0 : Int) = res := by
  have key : ∀ (m i : Nat), i ≤ cnt → cnt < m + i → Inv i → zz10_l5 big (zz10_a5 (zz10_F10 big)) m p1 n3 (i : Int) = res := by
    intro m
    induction m with
    | zero => intro i h1 h2 h3; exact absurd h2 (by omega)
    | succ m ih =>
      intro i h1 h2 h3
      rcases Nat.lt_or_ge i cnt with hlt | hge
      · exact hs _ i hlt h3 (fun h4 => ih (i + 1) (by omega) (by omega) h4)
      · obtain rfl : i = cnt := by omega
        exact he _ h3
  exact key big i0 hi (by have := big_ge; omega) h0
theorem zz10_h10 {p1 : Y2} {n3 : Int} (cnt : Nat) (Inv : Nat → Prop) {res : Option (Bool × Unit)} (hn : cnt ≤ 500000000000)
  (hs : ∀ (rc : Y2 → Int → Int → Option (Bool × Unit)) (i : Nat), i < cnt → Inv i → (Inv (i + 1) → rc p1 n3 ((i + 1 : Nat) : Int) = res) → zz10_b10 (zz10_F13 big rc zz10_a10) zz10_a10 p1 n3 (i : Int) = res)
  (he : ∀ (rc : Y2 → Int → Int → Option (Bool × Unit)), Inv cnt → zz10_b10 (zz10_F13 big rc zz10_a10) zz10_a10 p1 n3 (cnt : Int) = res)
  (i0 : Nat) (hi : i0 ≤ cnt) (h0 : Inv i0) : zz10_F10 big p1 n3 (i0 : Int) = res := by
  have key : ∀ (m i : Nat), i ≤ cnt → cnt < m + i → Inv i → zz10_l10 big zz10_a10 m p1 n3 (i : Int) = res := by
    intro m
    induction m with
    | zero => intro i h1 h2 h3; exact absurd h2 (by omega)
    | succ m ih =>
      intro i h1 h2 h3
      rcases Nat.lt_or_ge i cnt with hlt | hge
      · exact hs _ i hlt h3 (fun h4 => ih (i + 1) (by omega) (by omega) h4)
      · obtain rfl : i = cnt := by omega
        exact he _ h3
  exact key big i0 hi (by have := big_ge; omega) h0
theorem zz10_h13 {rec : Y2 → Int → Int → Option (Bool × Unit)} {k : Option (Bool × Unit)} {p1 : Y2} {n3 : Int} {x5 : Int} (cnt : Nat) (Inv : Nat → Prop) {res : Option (Bool × Unit)} (hn : cnt ≤ 500000000000)
  (hs : ∀ (rc : Y2 → Int → Int → Int → Option (Bool × Unit)) (i : Nat), i < cnt → Inv i → (Inv (i + 1) → rc p1 n3 x5 ((i + 1 : Nat) : Int) = res) → zz10_b13 rc (zz10_a13 rec) p1 n3 x5 (i : Int) = res)
  (he : ∀ (rc : Y2 → Int → Int → Int → Option (Bool × Unit)), Inv cnt → zz10_b13 rc (zz10_a13 rec) p1 n3 x5 (cnt : Int) = res)
  (i0 : Nat) (hi : i0 ≤ cnt) (h0 : Inv i0) : zz10_F13 big rec k p1 n3 x5 (i0 : Int) = res := by
  have key : ∀ (m i : Nat), i ≤ cnt → cnt < m + i → Inv i → zz10_l13 big (zz10_a13 rec) m p1 n3 x5 (i : Int) = res := by
    intro m
    induction m with
    | zero => intro i h1 h2 h3; exact absurd h2 (by omega)
    | succ m ih =>
      intro i h1 h2 h3
      rcases Nat.lt_or_ge i cnt with hlt | hge
      · exact hs _ i hlt h3 (fun h4 => ih (i + 1) (by omega) (by omega) h4)
      · obtain rfl : i = cnt := by omega
        exact he _ h3
  exact key big i0 hi (by have := big_ge; omega) h0
theorem zz12_h3 {p1 : Y2} {t2 : Y2} (cnt : Nat) (Inv : Nat → Y2 → Prop) {res : Option (Y2 × Unit)} (hn : cnt ≤ 500000000000)
  (hs : ∀ (rc : Y2 → Y2 → Y2 → Int → Option (Y2 × Unit)) (i : Nat) (out3 : Y2), i < cnt → Inv i out3 → (∀ (out3' : Y2), Inv (i + 1) out3' → rc p1 t2 out3' ((i + 1 : Nat) : Int) = res) → zz12_b3 (zz12_F7 big rc zz12_a3) zz12_a3 p1 t2 out3 (i : Int) = res)
  (he : ∀ (rc : Y2 → Y2 → Y2 → Int → Option (Y2 × Unit)) (out3 : Y2), Inv cnt out3 → zz12_b3 (zz12_F7 big rc zz12_a3) zz12_a3 p1 t2 out3 (cnt : Int) = res)
  (i0 : Nat) (hi : i0 ≤ cnt) (out3 : Y2) (h0 : Inv i0 out3) : zz12_F3 big p1 t2 out3 (i0 : Int) = res := by
  have key : ∀ (m i : Nat) (out3 : Y2), i ≤ cnt → cnt < m + i → Inv i out3 → zz12_l3 big zz12_a3 m p1 t2 out3 (i : Int) = res := by
    intro m
    induction m with
    | zero => intro i out3 h1 h2 h3; exact absurd h2 (by omega)
    | succ m ih =>
      intro i out3 h1 h2 h3
      rcases Nat.lt_or_ge i cnt with hlt | hge
      · exact hs _ i out3 hlt h3 (fun out3' h4 => ih (i + 1) out3' (by omega) (by omega) h4)
      · obtain rfl : i = cnt := by omega
        exact he _ out3 h3
  exact key big i0 out3 hi (by have := big_ge; omega) h0
theorem zz12_h7 {rec : Y2 → Y2 → Y2 → Int → Option (Y2 × Unit)} {k : Y2 → Y2 → Option (Y2 × Unit)} {p1 : Y2} {t2 : Y2} {out3 : Y2} {x4 : Int} (cnt : Nat) (Inv : Nat → Y4 → Prop) {res : Option (Y2 × Unit)} (hn : cnt ≤ 500000000000)
  (hs : ∀ (rc : Y2 → Y2 → Y2 → Int → Y4 → Int → Option (Y2 × Unit)) (i : Nat) (below5 : Y4), i < cnt → Inv i below5 → (∀ (below5' : Y4), Inv (i + 1) below5' → rc p1 t2 out3 x4 below5' ((i + 1 : Nat) : Int) = res) → zz12_b7 rc (zz12_a7 rec) p1 t2 out3 x4 below5 (i : Int) = res)
  (he : ∀ (rc : Y2 → Y2 → Y2 → Int → Y4 → Int → Option (Y2 × Unit)) (below5 : Y4), Inv cnt below5 → zz12_b7 rc (zz12_a7 rec) p1 t2 out3 x4 below5 (cnt : Int) = res)
  (i0 : Nat) (hi : i0 ≤ cnt) (below5 : Y4) (h0 : Inv i0 below5) : zz12_F7 big rec k p1 t2 out3 x4 below5 (i0 : Int) = res := by
  have key : ∀ (m i : Nat) (below5 : Y4), i ≤ cnt → cnt < m + i → Inv i below5 → zz12_l7 big (zz12_a7 rec) m p1 t2 out3 x4 below5 (i : Int) = res := by
    intro m
    induction m with
    | zero => intro i below5 h1 h2 h3; exact absurd h2 (by omega)
    | succ m ih =>
      intro i below5 h1 h2 h3
      rcases Nat.lt_or_ge i cnt with hlt | hge
      · exact hs _ i below5 hlt h3 (fun below5' h4 => ih (i + 1) below5' (by omega) (by omega) h4)
      · obtain rfl : i = cnt := by omega
        exact he _ below5 h3
  exact key big i0 below5 hi (by have := big_ge; omega) h0
theorem zz13_h3 {some1 : Y4} {p2 : Y2} (cnt : Nat) (Inv : Nat → Y4 → Prop) {res : Option (Int × Unit)} (hn : cnt ≤ 500000000000)
  (hs : ∀ (rc : Y4 → Y2 → Y4 → Int → Option (Int × Unit)) (i : Nat) (low5 : Y4), i < cnt → Inv i low5 → (∀ (low5' : Y4), Inv (i + 1) low5' → rc some1 p2 low5' ((i + 1 : Nat) : Int) = res) → zz13_b3 (zz13_F7 big rc (zz13_a3 (zz13_F13 big))) (zz13_a3 (zz13_F13 big)) some1 p2 low5 (i : Int) = res)
  (he : ∀ (rc : Y4 → Y2 → Y4 → Int → Option (Int × Unit)) (low5 : Y4), Inv cnt low5 → zz13_b3 (zz13_F7 big rc (zz13_a3 (zz13_F13 big))) (zz13_a3 (zz13_F13 big)) some1 p2 low5 (cnt : Int) = res)
  (i0 : Nat) (hi : i0 ≤ cnt) (low5 : Y4) (h0 : Inv i0 low5) : zz13_F3 big some1 p2 low5 (i0 : Int) = res := by
  have key : ∀ (m i : Nat) (low5 : Y4), i ≤ cnt → cnt < m + i → Inv i low5 → zz13_l3 big (zz13_a3 (zz13_F13 big)) m some1 p2 low5 (i : Int) = res := by
    intro m
    induction m with
    | zero => intro i low5 h1 h2 h3; exact absurd h2 (by omega)
    | succ m ih =>
      intro i low5 h1 h2 h3
      rcases Nat.lt_or_ge i cnt with hlt | hge
      · exact hs _ i low5 hlt h3 (fun low5' h4 => ih (i + 1) low5' (by omega) (by omega) h4)
      · obtain rfl : i = cnt := by omega
        exact he _ low5 h3
  exact key big i0 low5 hi (by have := big_ge; omega) h0
theorem zz13_h7 {rec : Y4 → Y2 → Y4 → Int → Option (Int × Unit)} {k : Y2 → Y4 → Option (Int × Unit)} {some1 : Y4} {p2 : Y2} {low5 : Y4} {z6 : Int} (cnt : Nat) (Inv : Nat → Bool → Prop) {res : Option (Int × Unit)} (hn : cnt ≤ 500000000000)
  (hs : ∀ (rc : Y4 → Y2 → Y4 → Int → Bool → Int → Option (Int × Unit)) (i : Nat) (all7 : Bool), i < cnt → Inv i all7 → (∀ (all7' : Bool), Inv (i + 1) all7' → rc some1 p2 low5 z6 all7' ((i + 1 : Nat) : Int) = res) → zz13_b7 rc (zz13_a7 rec) some1 p2 low5 z6 all7 (i : Int) = res)
  (he : ∀ (rc : Y4 → Y2 → Y4 → Int → Bool → Int → Option (Int × Unit)) (all7 : Bool), Inv cnt all7 → zz13_b7 rc (zz13_a7 rec) some1 p2 low5 z6 all7 (cnt : Int) = res)
  (i0 : Nat) (hi : i0 ≤ cnt) (all7 : Bool) (h0 : Inv i0 all7) : zz13_F7 big rec k some1 p2 low5 z6 all7 (i0 : Int) = res := by
  have key : ∀ (m i : Nat) (all7 : Bool), i ≤ cnt → cnt < m + i → Inv i all7 → zz13_l7 big (zz13_a7 rec) m some1 p2 low5 z6 all7 (i : Int) = res := by
    intro m
    induction m with
    | zero => intro i all7 h1 h2 h3; exact absurd h2 (by omega)
    | succ m ih =>
      intro i all7 h1 h2 h3
      rcases Nat.lt_or_ge i cnt with hlt | hge
      · exact hs _ i all7 hlt h3 (fun all7' h4 => ih (i + 1) all7' (by omega) (by omega) h4)
      · obtain rfl : i = cnt := by omega
        exact he _ all7 h3
  exact key big i0 all7 hi (by have := big_ge; omega) h0
theorem zz13_h13 {p2 : Y2} {low5 : Y4} (cnt : Nat) (Inv : Nat → Prop) {res : Option (Int × Unit)} (hn : cnt ≤ 500000000000)
  (hs : ∀ (rc : Y2 → Y4 → Int → Option (Int × Unit)) (i : Nat), i < cnt → Inv i → (Inv (i + 1) → rc p2 low5 ((i + 1 : Nat) : Int) = res) → zz13_b13 rc zz13_a13 p2 low5 (i : Int) = res)
  (he : ∀ (rc : Y2 → Y4 → Int → Option (Int × Unit)), Inv cnt → zz13_b13 rc zz13_a13 p2 low5 (cnt : Int) = res)
  (i0 : Nat) (hi : i0 ≤ cnt) (h0 : Inv i0) : zz13_F13 big p2 low5 (i0 : Int) = res := by
  have key : ∀ (m i : Nat), i ≤ cnt → cnt < m + i → Inv i → zz13_l13 big zz13_a13 m p2 low5 (i : Int) = res := by
    intro m
    induction m with
    | zero => intro i h1 h2 h3; exact absurd h2 (by omega)
    | succ m ih =>
      intro i h1 h2 h3
      rcases Nat.lt_or_ge i cnt with hlt | hge
      · exact hs _ i hlt h3 (fun h4 => ih (i + 1) (by omega) (by omega) h4)
      · obtain rfl : i = cnt := by omega
        exact he _ h3
  exact key big i0 hi (by have := big_ge; omega) h0
theorem zz14_h5 {p1 : Y2} {dual3 : Y2} (cnt : Nat) (Inv : Nat → Prop) {res : Option (Bool × Unit)} (hn : cnt ≤ 500000000000)
  (hs : ∀ (rc : Y2 → Y2 → Int → Option (Bool × Unit)) (i : Nat), i < cnt → Inv i → (Inv (i + 1) → rc p1 dual3 ((i + 1 : Nat) : Int) = res) → zz14_b5 (zz14_F8 big rc zz14_a5) zz14_a5 p1 dual3 (i : Int) = res)
  (he : ∀ (rc : Y2 → Y2 → Int → Option (Bool × Unit)), Inv cnt → zz14_b5 (zz14_F8 big rc zz14_a5) zz14_a5 p1 dual3 (cnt : Int) = res)
  (i0 : Nat) (hi : i0 ≤ cnt) (h0 : Inv i0) : zz14_F5 big p1 dual3 (i0 : Int) = res := by
  have key : ∀ (m i : Nat), i ≤ cnt → cnt < m + i → Inv i → zz14_l5 big zz14_a5 m p1 dual3 (i : Int) = res := by
    intro m
    induction m with
    | zero => intro i h1 h2 h3; exact absurd h2 (by omega)
    | succ m ih =>
      intro i h1 h2 h3
      rcases Nat.lt_or_ge i cnt with hlt | hge
      · exact hs _ i hlt h3 (fun h4 => ih (i + 1) (by omega) (by omega) h4)
      · obtain rfl : i = cnt := by omega
        exact he _ h3
  exact key big i0 hi (by have := big_ge; omega) h0
theorem zz14_h8 {rec : Y2 → Y2 → Int → Option (Bool × Unit)} {k : Option (Bool × Unit)} {p1 : Y2} {dual3 : Y2} {x4 : Int} (cnt : Nat) (Inv : Nat → Prop) {res : Option (Bool × Unit)} (hn : cnt ≤ 500000000000)
  (hs : ∀ (rc : Y2 → Y2 → Int → Int → Option (Bool × Unit)) (i : Nat), i < cnt → Inv i → (Inv (i + 1) → rc p1 dual3 x4 ((i + 1 : Nat) : Int) = res) → zz14_b8 rc (zz14_a8 rec) p1 dual3 x4 (i : Int) = res)
  (he : ∀ (rc : Y2 → Y2 → Int → Int → Option (Bool × Unit)), Inv cnt → zz14_b8 rc (zz14_a8 rec) p1 dual3 x4 (cnt : Int) = res)
  (i0 : Nat) (hi : i0 ≤ cnt) (h0 : Inv i0) : zz14_F8 big rec k p1 dual3 x4 (i0 : Int) = res := by
  have key : ∀ (m i : Nat), i ≤ cnt → cnt < m + i → Inv i → zz14_l8 big (zz14_a8 rec) m p1 dual3 x4 (i : Int) = res := by
    intro m
    induction m with
    | zero => intro i h1 h2 h3; exact absurd h2 (by omega)
    | succ m ih =>
      intro i h1 h2 h3
      rcases Nat.lt_or_ge i cnt with hlt | hge
      · exact hs _ i hlt h3 (fun h4 => ih (i + 1) (by omega) (by omega) h4)
      · obtain rfl : i = cnt := by omega
        exact he _ h3
  exact key big i0 hi (by have := big_ge; omega) h0
theorem zz16_h5 {p1 : Y2} {t2 : Y7} {n3 : Int} {dual4 : Y2} (cnt : Nat) (Inv : Nat → Y6 → Y6 → Prop) {res : Option (Y7 × Unit)} (hn : cnt ≤ 500000000000)
  (hs : ∀ (rc : Y2 → Y7 → Int → Y2 → Y6 → Y6 → Int → Option (Y7 × Unit)) (i : Nat) (meet5 : Y6) (join6 : Y6), i < cnt → Inv i meet5 join6 → (∀ (meet5' : Y6) (join6' : Y6), Inv (i + 1) meet5' join6' → rc p1 t2 n3 dual4 meet5' join6' ((i + 1 : Nat) : Int) = res) → zz16_b5 (zz16_F8 big rc zz16_a5) zz16_a5 p1 t2 n3 dual4 meet5 join6 (i : Int) = res)
  (he : ∀ (rc : Y2 → Y7 → Int → Y2 → Y6 → Y6 → Int → Option (Y7 × Unit)) (meet5 : Y6) (join6 : Y6), Inv cnt meet5 join6 → zz16_b5 (zz16_F8 big rc zz16_a5) zz16_a5 p1 t2 n3 dual4 meet5 join6 (cnt : Int) = res)
  (i0 : Nat) (hi : i0 ≤ cnt) (meet5 : Y6) (join6 : Y6) (h0 : Inv i0 meet5 join6) : zz16_F5 big p1 t2 n3 dual4 meet5 join6 (i0 : Int) = res := by
  have key : ∀ (m i : Nat) (meet5 : Y6) (join6 : Y6), i ≤ cnt → cnt < m + i → Inv i meet5 join6 → zz16_l5 big zz16_a5 m p1 t2 n3 dual4 meet5 join6 (i : Int) = res := by
    intro m
    induction m with
    | zero => intro i meet5 join6 h1 h2 h3; exact absurd h2 (by omega)
    | succ m ih =>
      intro i meet5 join6 h1 h2 h3
      rcases Nat.lt_or_ge i cnt with hlt | hge
      · exact hs _ i meet5 join6 hlt h3 (fun meet5' join6' h4 => ih (i + 1) meet5' join6' (by omega) (by omega) h4)
      · obtain rfl : i = cnt := by omega
        exact he _ meet5 join6 h3
  exact key big i0 meet5 join6 hi (by have := big_ge; omega) h0
theorem zz16_h8 {rec : Y2 → Y7 → Int → Y2 → Y6 → Y6 → Int → Option (Y7 × Unit)} {k : Y7 → Int → Y6 → Y6 → Option (Y7 × Unit)} {p1 : Y2} {t2 : Y7} {n3 : Int} {dual4 : Y2} {x7 : Int} (cnt : Nat) (Inv : Nat → Y6 → Y6 → Prop) {res : Option (Y7 × Unit)} (hn : cnt ≤ 500000000000)
  (hs : ∀ (rc : Y2 → Y7 → Int → Y2 → Y6 → Y6 → Int → Int → Option (Y7 × Unit)) (i : Nat) (meet5 : Y6) (join6 : Y6), i < cnt → Inv i meet5 join6 → (∀ (meet5' : Y6) (join6' : Y6), Inv (i + 1) meet5' join6' → rc p1 t2 n3 dual4 meet5' join6' x7 ((i + 1 : Nat) : Int) = res) → zz16_b8 rc (zz16_a8 rec) p1 t2 n3 dual4 meet5 join6 x7 (i : Int) = res)
  (he : ∀ (rc : Y2 → Y7 → Int → Y2 → Y6 → Y6 → Int → Int → Option (Y7 × Unit)) (meet5 : Y6) (join6 : Y6), Inv cnt meet5 join6 → zz16_b8 rc (zz16_a8 rec) p1 t2 n3 dual4 meet5 join6 x7 (cnt : Int) = res)
  (i0 : Nat) (hi : i0 ≤ cnt) (meet5 : Y6) (join6 : Y6) (h0 : Inv i0 meet5 join6) : zz16_F8 big rec k p1 t2 n3 dual4 meet5 join6 x7 (i0 : Int) = res := by
  have key : ∀ (m i : Nat) (meet5 : Y6) (join6 : Y6), i ≤ cnt → cnt < m + i → Inv i meet5 join6 → zz16_l8 big (zz16_a8 rec) m p1 t2 n3 dual4 meet5 join6 x7 (i : Int) = res := by
    intro m
    induction m with
    | zero => intro i meet5 join6 h1 h2 h3; exact absurd h2 (by omega)
    | succ m ih =>
      intro i meet5 join6 h1 h2 h3
      rcases Nat.lt_or_ge i cnt with hlt | hge
      · exact hs _ i meet5 join6 hlt h3 (fun meet5' join6' h4 => ih (i + 1) meet5' join6' (by omega) (by omega) h4)
      · obtain rfl : i = cnt := by omega
        exact he _ meet5 join6 h3
  exact key big i0 meet5 join6 hi (by have := big_ge; omega) h0
theorem zz17_h4 {n0 : Int} {p1 : Y4} (cnt : Nat) (Inv : Nat → Prop) {res : Option (Bool × Unit)} (hn : cnt ≤ 500000000000)
  (hs : ∀ (rc : Int → Y4 → Int → Option (Bool × Unit)) (i : Nat), i < cnt → Inv i → (Inv (i + 1) → rc n0 p1 ((i + 1 : Nat) : Int) = res) → zz17_b4 rc zz17_a4 n0 p1 (i : Int) = res)
  (he : ∀ (rc : Int → Y4 → Int → Option (Bool × Unit)), Inv cnt → zz17_b4 rc zz17_a4 n0 p1 (cnt : Int) = res)
  (i0 : Nat) (hi : i0 ≤ cnt) (h0 : Inv i0) : zz17_F4 big n0 p1 (i0 : Int) = res := by
  have key : ∀ (m i : Nat), i ≤ cnt → cnt < m + i → Inv i → zz17_l4 big zz17_a4 m n0 p1 (i : Int) = res := by
    intro m
    induction m with
    | zero => intro i h1 h2 h3; exact absurd h2 (by omega)
    | succ m ih =>
      intro i h1 h2 h3
      rcases Nat.lt_or_ge i cnt with hlt | hge
      · exact hs _ i hlt h3 (fun h4 => ih (i + 1) (by omega) (by omega) h4)
      · obtain rfl : i = cnt := by omega
        exact he _ h3
  exact key big i0 hi (by have := big_ge; omega) h0
theorem zz19_w3 {n0 : Int} (mu : Int → Y4 → Int → Nat) (Inv : Int → Y4 → Int → Prop) {res : Option (Y4 × Unit)}
  (hs : ∀ (rc : Int → Int → Y4 → Int → Option (Y4 × Unit)) (at2 : Int) (out7 : Y4) (i8 : Int), Inv at2 out7 i8 → (∀ (at2' : Int) (out7' : Y4) (i8' : Int), Inv at2' out7' i8' → mu at2' out7' i8' < mu at2 out7 i8 → rc n0 at2' out7' i8' = res) → zz19_b3 rc zz19_a3 n0 at2 out7 i8 = res)
  (at2 : Int) (out7 : Y4) (i8 : Int) (hm : mu at2 out7 i8 ≤ 500000000000) (h0 : Inv at2 out7 i8) : zz19_F3 big n0 at2 out7 i8 = res := by
  have key : ∀ (m : Nat) (at2 : Int) (out7 : Y4) (i8 : Int), mu at2 out7 i8 < m → Inv at2 out7 i8 → zz19_l3 big zz19_a3 m n0 at2 out7 i8 = res := by
    intro m
    induction m with
    | zero => intro at2 out7 i8 h2 h3; exact absurd h2 (by omega)
    | succ m ih =>
      intro at2 out7 i8 h2 h3
      exact hs _ at2 out7 i8 h3 (fun at2' out7' i8' h4 h5 => ih at2' out7' i8' (by omega) h4)
  exact key big at2 out7 i8 (by have := big_ge; omega) h0
theorem zz20_h3 {op1 : Int} {args2 : Y4} {a3 : Y7} (cnt : Nat) (Inv : Nat → Int → Prop) {res : Option (Int × Unit)} (hn : cnt ≤ 500000000000)
  (hs : ∀ (rc : Int → Y4 → Y7 → Int → Int → Option (Int × Unit)) (i : Nat) (at7 : Int), i < cnt → Inv i at7 → (∀ (at7' : Int), Inv (i + 1) at7' → rc op1 args2 a3 at7' ((i + 1 : Nat) : Int) = res) → zz20_b3 rc zz20_a3 op1 args2 a3 at7 (i : Int) = res)
  (he : ∀ (rc : Int → Y4 → Y7 → Int → Int → Option (Int × Unit)) (at7 : Int), Inv cnt at7 → zz20_b3 rc zz20_a3 op1 args2 a3 at7 (cnt : Int) = res)
  (i0 : Nat) (hi : i0 ≤ cnt) (at7 : Int) (h0 : Inv i0 at7) : zz20_F3 big op1 args2 a3 at7 (i0 : Int) = res := by
  have key : ∀ (m i : Nat) (at7 : Int), i ≤ cnt → cnt < m + i → Inv i at7 → zz20_l3 big zz20_a3 m op1 args2 a3 at7 (i : Int) = res := by
    intro m
    induction m with
    | zero => intro i at7 h1 h2 h3; exact absurd h2 (by omega)
    | succ m ih =>
      intro i at7 h1 h2 h3
      rcases Nat.lt_or_ge i cnt with hlt | hge
      · exact hs _ i at7 hlt h3 (fun at7' h4 => ih (i + 1) at7' (by omega) (by omega) h4)
      · obtain rfl : i = cnt := by omega
        exact he _ at7 h3
  exact key big i0 at7 hi (by have := big_ge; omega) h0
theorem zz23_h4 {p0 : Y4} {low7 : Int} {high8 : Int} (cnt : Nat) (Inv : Nat → Y4 → Prop) {res : Option (Y4 × Unit)} (hn : cnt ≤ 500000000000)
  (hs : ∀ (rc : Y4 → Int → Int → Y4 → Int → Option (Y4 × Unit)) (i : Nat) (out9 : Y4), i < cnt → Inv i out9 → (∀ (out9' : Y4), Inv (i + 1) out9' → rc p0 low7 high8 out9' ((i + 1 : Nat) : Int) = res) → zz23_b4 rc zz23_a4 p0 low7 high8 out9 (i : Int) = res)
  (he : ∀ (rc : Y4 → Int → Int → Y4 → Int → Option (Y4 × Unit)) (out9 : Y4), Inv cnt out9 → zz23_b4 rc zz23_a4 p0 low7 high8 out9 (cnt : Int) = res)
  (i0 : Nat) (hi : i0 ≤ cnt) (out9 : Y4) (h0 : Inv i0 out9) : zz23_F4 big p0 low7 high8 out9 (i0 : Int) = res := by
  have key : ∀ (m i : Nat) (out9 : Y4), i ≤ cnt → cnt < m + i → Inv i out9 → zz23_l4 big zz23_a4 m p0 low7 high8 out9 (i : Int) = res := by
    intro m
    induction m with
    | zero => intro i out9 h1 h2 h3; exact absurd h2 (by omega)
    | succ m ih =>
      intro i out9 h1 h2 h3
      rcases Nat.lt_or_ge i cnt with hlt | hge
      · exact hs _ i out9 hlt h3 (fun out9' h4 => ih (i + 1) out9' (by omega) (by omega) h4)
      · obtain rfl : i = cnt := by omega
        exact he _ out9 h3
  exact key big i0 out9 hi (by have := big_ge; omega) h0
theorem zz24_q3 {p1 : Y4} {a2 : Y7} (cnt : Nat) (Inv : Nat → Y4 → Prop) {Q : Option (Y4 × Unit) → Prop} (hn : cnt ≤ 500000000000)
  (hs : ∀ (rc : Y4 → Y7 → Y4 → Int → Option (Y4 × Unit)) (i : Nat) (out5 : Y4), i < cnt → Inv i out5 → (∀ (out5' : Y4), Inv (i + 1) out5' → Q (rc p1 a2 out5' ((i + 1 : Nat) : Int))) → Q (zz24_b3 (zz24_F6 big rc zz24_a3) zz24_a3 p1 a2 out5 (i : Int)))
  (he : ∀ (rc : Y4 → Y7 → Y4 → Int → Option (Y4 × Unit)) (out5 : Y4), Inv cnt out5 → Q (zz24_b3 (zz24_F6 big rc zz24_a3) zz24_a3 p1 a2 out5 (cnt : Int)))
  (i0 : Nat) (hi : i0 ≤ cnt) (out5 : Y4) (h0 : Inv i0 out5) : Q (zz24_F3 big p1 a2 out5 (i0 : Int)) := by
  have key : ∀ (m i : Nat) (out5 : Y4), i ≤ cnt → cnt < m + i → Inv i out5 → Q (zz24_l3 big zz24_a3 m p1 a2 out5 (i : Int)) := by
    intro m
    induction m with
    | zero => intro i out5 h1 h2 h3; exact absurd h2 (by omega)
    | succ m ih =>
      intro i out5 h1 h2 h3
      rcases Nat.lt_or_ge i cnt with hlt | hge
      · exact hs _ i out5 hlt h3 (fun out5' h4 => ih (i + 1) out5' (by omega) (by omega) h4)
      · obtain rfl : i = cnt := by omega
        exact he _ out5 h3
  exact key big i0 out5 hi (by have := big_ge; omega) h0
theorem zz24_q6 {rec : Y4 → Y7 → Y4 → Int → Option (Y4 × Unit)} {k : Y4 → Option (Y4 × Unit)} {p1 : Y4} {a2 : Y7} {op6 : Int} (cnt : Nat) (Inv : Nat → Y4 → Prop) {Q : Option (Y4 × Unit) → Prop} (hn : cnt ≤ 500000000000)
  (hs : ∀ (rc : Y4 → Y7 → Y4 → Int → Int → Option (Y4 × Unit)) (i : Nat) (out5 : Y4), i < cnt → Inv i out5 → (∀ (out5' : Y4), Inv (i + 1) out5' → Q (rc p1 a2 out5' op6 ((i + 1 : Nat) : Int))) → Q (zz24_b6 (zz24_F10 big rc (zz24_a6 rec)) (zz24_a6 rec) p1 a2 out5 op6 (i : Int)))
  (he : ∀ (rc : Y4 → Y7 → Y4 → Int → Int → Option (Y4 × Unit)) (out5 : Y4), Inv cnt out5 → Q (zz24_b6 (zz24_F10 big rc (zz24_a6 rec)) (zz24_a6 rec) p1 a2 out5 op6 (cnt : Int)))
  (i0 : Nat) (hi : i0 ≤ cnt) (out5 : Y4) (h0 : Inv i0 out5) : Q (zz24_F6 big rec k p1 a2 out5 op6 (i0 : Int)) := by
  have key : ∀ (m i : Nat) (out5 : Y4), i ≤ cnt → cnt < m + i → Inv i out5 → Q (zz24_l6 big (zz24_a6 rec) m p1 a2 out5 op6 (i : Int)) := by
    intro m
    induction m with
    | zero => intro i out5 h1 h2 h3; exact absurd h2 (by omega)
    | succ m ih =>
      intro i out5 h1 h2 h3
      rcases Nat.lt_or_ge i cnt with hlt | hge
      · exact hs _ i out5 hlt h3 (fun out5' h4 => ih (i + 1) out5' (by omega) (by omega) h4)
      · obtain rfl : i = cnt := by omega
        exact he _ out5 h3
  exact key big i0 out5 hi (by have := big_ge; omega) h0
theorem zz24_q10 {rec : Y4 → Y7 → Y4 → Int → Int → Option (Y4 × Unit)} {k : Y4 → Y7 → Y4 → Int → Option (Y4 × Unit)} {p1 : Y4} {a2 : Y7} {op6 : Int} {at7 : Int} {args8 : Y4} (cnt : Nat) (Inv : Nat → Y4 → Prop) {Q : Option (Y4 × Unit) → Prop} (hn : cnt ≤ 500000000000)
  (hs : ∀ (rc : Y4 → Y7 → Y4 → Int → Int → Y4 → Int → Option (Y4 × Unit)) (i : Nat) (out5 : Y4), i < cnt → Inv i out5 → (∀ (out5' : Y4), Inv (i + 1) out5' → Q (rc p1 a2 out5' op6 at7 args8 ((i + 1 : Nat) : Int))) → Q (zz24_b10 rc (zz24_a10 rec) p1 a2 out5 op6 at7 args8 (i : Int)))
  (he : ∀ (rc : Y4 → Y7 → Y4 → Int → Int → Y4 → Int → Option (Y4 × Unit)) (out5 : Y4), Inv cnt out5 → Q (zz24_b10 rc (zz24_a10 rec) p1 a2 out5 op6 at7 args8 (cnt : Int)))
  (i0 : Nat) (hi : i0 ≤ cnt) (out5 : Y4) (h0 : Inv i0 out5) : Q (zz24_F10 big rec k p1 a2 out5 op6 at7 args8 (i0 : Int)) := by
  have key : ∀ (m i : Nat) (out5 : Y4), i ≤ cnt → cnt < m + i → Inv i out5 → Q (zz24_l10 big (zz24_a10 rec) m p1 a2 out5 op6 at7 args8 (i : Int)) := by
    intro m
    induction m with
    | zero => intro i out5 h1 h2 h3; exact absurd h2 (by omega)
    | succ m ih =>
      intro i out5 h1 h2 h3
      rcases Nat.lt_or_ge i cnt with hlt | hge
      · exact hs _ i out5 hlt h3 (fun out5' h4 => ih (i + 1) out5' (by omega) (by omega) h4)
      · obtain rfl : i = cnt := by omega
        exact he _ out5 h3
  exact key big i0 out5 hi (by have := big_ge; omega) h0
theorem zz25_h4 {a0 : Y4} {b1 : Y4} (cnt : Nat) (Inv : Nat → Prop) {res : Option (Bool × Unit)} (hn : cnt ≤ 500000000000)
  (hs : ∀ (rc : Y4 → Y4 → Int → Option (Bool × Unit)) (i : Nat), i < cnt → Inv i → (Inv (i + 1) → rc a0 b1 ((i + 1 : Nat) : Int) = res) → zz25_b4 rc zz25_a4 a0 b1 (i : Int) = res)
  (he : ∀ (rc : Y4 → Y4 → Int → Option (Bool × Unit)), Inv cnt → zz25_b4 rc zz25_a4 a0 b1 (cnt : Int) = res)
  (i0 : Nat) (hi : i0 ≤ cnt) (h0 : Inv i0) : zz25_F4 big a0 b1 (i0 : Int) = res := by
  have key : ∀ (m i : Nat), i ≤ cnt → cnt < m + i → Inv i → zz25_l4 big zz25_a4 m a0 b1 (i : Int) = res := by
    intro m
    induction m with
    | zero => intro i h1 h2 h3; exact absurd h2 (by omega)
    | succ m ih =>
      intro i h1 h2 h3
      rcases Nat.lt_or_ge i cnt with hlt | hge
      · exact hs _ i hlt h3 (fun h4 => ih (i + 1) (by omega) (by omega) h4)
      · obtain rfl : i = cnt := by omega
        exact he _ h3
  exact key big i0 hi (by have := big_ge; omega) h0
theorem zz27_h3 {p0 : Y4} (cnt : Nat) (Inv : Nat → Y3 → Prop) {res : Option Y2} (hn : cnt ≤ 500000000000)
  (hs : ∀ (rc : Y4 → Y3 → Int → Option Y2) (i : Nat) (out3 : Y3), i < cnt → Inv i out3 → (∀ (out3' : Y3), Inv (i + 1) out3' → rc p0 out3' ((i + 1 : Nat) : Int) = res) → zz27_b3 rc (zz27_F8 big rc zz27_a3) zz27_a3 p0 out3 (i : Int) = res)
  (he : ∀ (rc : Y4 → Y3 → Int → Option Y2) (out3 : Y3), Inv cnt out3 → zz27_b3 rc (zz27_F8 big rc zz27_a3) zz27_a3 p0 out3 (cnt : Int) = res)
  (i0 : Nat) (hi : i0 ≤ cnt) (out3 : Y3) (h0 : Inv i0 out3) : zz27_F3 big p0 out3 (i0 : Int) = res := by
  have key : ∀ (m i : Nat) (out3 : Y3), i ≤ cnt → cnt < m + i → Inv i out3 → zz27_l3 big zz27_a3 m p0 out3 (i : Int) = res := by
    intro m
    induction m with
    | zero => intro i out3 h1 h2 h3; exact absurd h2 (by omega)
    | succ m ih =>
      intro i out3 h1 h2 h3
      rcases Nat.lt_or_ge i cnt with hlt | hge
      · exact hs _ i out3 hlt h3 (fun out3' h4 => ih (i + 1) out3' (by omega) (by omega) h4)
      · obtain rfl : i = cnt := by omega
        exact he _ out3 h3
  exact key big i0 out3 hi (by have := big_ge; omega) h0
theorem zz27_h8 {rec : Y4 → Y3 → Int → Option Y2} {k : Y3 → Option Y2} {p0 : Y4} {out3 : Y3} {x4 : Int} (cnt : Nat) (Inv : Nat → Y4 → Prop) {res : Option Y2} (hn : cnt ≤ 500000000000)
  (hs : ∀ (rc : Y4 → Y3 → Int → Y4 → Int → Option Y2) (i : Nat) (block5 : Y4), i < cnt → Inv i block5 → (∀ (block5' : Y4), Inv (i + 1) block5' → rc p0 out3 x4 block5' ((i + 1 : Nat) : Int) = res) → zz27_b8 rc (zz27_a8 rec) p0 out3 x4 block5 (i : Int) = res)
  (he : ∀ (rc : Y4 → Y3 → Int → Y4 → Int → Option Y2) (block5 : Y4), Inv cnt block5 → zz27_b8 rc (zz27_a8 rec) p0 out3 x4 block5 (cnt : Int) = res)
  (i0 : Nat) (hi : i0 ≤ cnt) (block5 : Y4) (h0 : Inv i0 block5) : zz27_F8 big rec k p0 out3 x4 block5 (i0 : Int) = res := by
  have key : ∀ (m i : Nat) (block5 : Y4), i ≤ cnt → cnt < m + i → Inv i block5 → zz27_l8 big (zz27_a8 rec) m p0 out3 x4 block5 (i : Int) = res := by
    intro m
    induction m with
    | zero => intro i block5 h1 h2 h3; exact absurd h2 (by omega)
    | succ m ih =>
      intro i block5 h1 h2 h3
      rcases Nat.lt_or_ge i cnt with hlt | hge
      · exact hs _ i block5 hlt h3 (fun block5' h4 => ih (i + 1) block5' (by omega) (by omega) h4)
      · obtain rfl : i = cnt := by omega
        exact he _ block5 h3
  exact key big i0 block5 hi (by have := big_ge; omega) h0
theorem zz28_h6 {p2 : Y2} {blocks7 : Y3} (cnt : Nat) (Inv : Nat → (List (Int × (Int × Unit))) → Prop) {res : Option (((List (Int × (Int × Unit))) × (Bool × Unit)) × Unit)} (hn : cnt ≤ 500000000000)
  (hs : ∀ (rc : Y2 → (List (Int × (Int × Unit))) → Y3 → Int → Option (((List (Int × (Int × Unit))) × (Bool × Unit)) × Unit)) (i : Nat) (out6 : (List (Int × (Int × Unit)))), i < cnt → Inv i out6 → (∀ (out6' : (List (Int × (Int × Unit)))), Inv (i + 1) out6' → rc p2 out6' blocks7 ((i + 1 : Nat) : Int) = res) → zz28_b6 rc zz28_a6 p2 out6 blocks7 (i : Int) = res)
  (he : ∀ (rc : Y2 → (List (Int × (Int × Unit))) → Y3 → Int → Option (((List (Int × (Int × Unit))) × (Bool × Unit)) × Unit)) (out6 : (List (Int × (Int × Unit)))), Inv cnt out6 → zz28_b6 rc zz28_a6 p2 out6 blocks7 (cnt : Int) = res)
  (i0 : Nat) (hi : i0 ≤ cnt) (out6 : (List (Int × (Int × Unit)))) (h0 : Inv i0 out6) : zz28_F6 big p2 out6 blocks7 (i0 : Int) = res := by
  have key : ∀ (m i : Nat) (out6 : (List (Int × (Int × Unit)))), i ≤ cnt → cnt < m + i → Inv i out6 → zz28_l6 big zz28_a6 m p2 out6 blocks7 (i : Int) = res := by
    intro m
    induction m with
    | zero => intro i out6 h1 h2 h3; exact absurd h2 (by omega)
    | succ m ih =>
      intro i out6 h1 h2 h3
      rcases Nat.lt_or_ge i cnt with hlt | hge
      · exact hs _ i out6 hlt h3 (fun out6' h4 => ih (i + 1) out6' (by omega) (by omega) h4)
      · obtain rfl : i = cnt := by omega
        exact he _ out6 h3
  exact key big i0 out6 hi (by have := big_ge; omega) h0
theorem zz29_h3 {n0 : Int} {t8 : Int} (cnt : Nat) (Inv : Nat → Y5 → Prop) {res : Option (Y5 × Unit)} (hn : cnt ≤ 500000000000)
  (hs : ∀ (rc : Int → Y5 → Int → Int → Option (Y5 × Unit)) (i : Nat) (o3 : Y5), i < cnt → Inv i o3 → (∀ (o3' : Y5), Inv (i + 1) o3' → rc n0 o3' t8 ((i + 1 : Nat) : Int) = res) → zz29_b3 rc zz29_a3 n0 o3 t8 (i : Int) = res)
  (he : ∀ (rc : Int → Y5 → Int → Int → Option (Y5 × Unit)) (o3 : Y5), Inv cnt o3 → zz29_b3 rc zz29_a3 n0 o3 t8 (cnt : Int) = res)
  (i0 : Nat) (hi : i0 ≤ cnt) (o3 : Y5) (h0 : Inv i0 o3) : zz29_F3 big n0 o3 t8 (i0 : Int) = res := by
  have key : ∀ (m i : Nat) (o3 : Y5), i ≤ cnt → cnt < m + i → Inv i o3 → zz29_l3 big zz29_a3 m n0 o3 t8 (i : Int) = res := by
    intro m
    induction m with
    | zero => intro i o3 h1 h2 h3; exact absurd h2 (by omega)
    | succ m ih =>
      intro i o3 h1 h2 h3
      rcases Nat.lt_or_ge i cnt with hlt | hge
      · exact hs _ i o3 hlt h3 (fun o3' h4 => ih (i + 1) o3' (by omega) (by omega) h4)
      · obtain rfl : i = cnt := by omega
        exact he _ o3 h3
  exact key big i0 o3 hi (by have := big_ge; omega) h0
theorem zz32_h2 {o0 : Y5} {t7 : Int} (cnt : Nat) (Inv : Nat → Prop) {res : Option (Bool × Unit)} (hn : cnt ≤ 500000000000)
  (hs : ∀ (rc : Y5 → Int → Int → Option (Bool × Unit)) (i : Nat), i < cnt → Inv i → (Inv (i + 1) → rc o0 t7 ((i + 1 : Nat) : Int) = res) → zz32_b2 (zz32_F7 big rc zz32_a2) zz32_a2 o0 t7 (i : Int) = res)
  (he : ∀ (rc : Y5 → Int → Int → Option (Bool × Unit)), Inv cnt → zz32_b2 (zz32_F7 big rc zz32_a2) zz32_a2 o0 t7 (cnt : Int) = res)
  (i0 : Nat) (hi : i0 ≤ cnt) (h0 : Inv i0) : zz32_F2 big o0 t7 (i0 : Int) = res := by
  have key : ∀ (m i : Nat), i ≤ cnt → cnt < m + i → Inv i → zz32_l2 big zz32_a2 m o0 t7 (i : Int) = res := by
    intro m
    induction m with
    | zero => intro i h1 h2 h3; exact absurd h2 (by omega)
    | succ m ih =>
      intro i h1 h2 h3
      rcases Nat.lt_or_ge i cnt with hlt | hge
      · exact hs _ i hlt h3 (fun h4 => ih (i + 1) (by omega) (by omega) h4)
      · obtain rfl : i = cnt := by omega
        exact he _ h3
  exact key big i0 hi (by have := big_ge; omega) h0
theorem zz32_h7 {rec : Y5 → Int → Int → Option (Bool × Unit)} {k : Option (Bool × Unit)} {o0 : Y5} {x3 : Int} {t7 : Int} {t8 : Int} {t20 : Int} (cnt : Nat) (Inv : Nat → Prop) {res : Option (Bool × Unit)} (hn : cnt ≤ 500000000000)
  (hs : ∀ (rc : Y5 → Int → Int → Int → Int → Int → Option (Bool × Unit)) (i : Nat), i < cnt → Inv i → (Inv (i + 1) → rc o0 x3 t7 t8 t20 ((i + 1 : Nat) : Int) = res) → zz32_b7 (zz32_F12 big rc (zz32_a7 rec)) (zz32_a7 rec) o0 x3 t7 t8 t20 (i : Int) = res)
  (he : ∀ (rc : Y5 → Int → Int → Int → Int → Int → Option (Bool × Unit)), Inv cnt → zz32_b7 (zz32_F12 big rc (zz32_a7 rec)) (zz32_a7 rec) o0 x3 t7 t8 t20 (cnt : Int) = res)
  (i0 : Nat) (hi : i0 ≤ cnt) (h0 : Inv i0) : zz32_F7 big rec k o0 x3 t7 t8 t20 (i0 : Int) = res := by
  have key : ∀ (m i : Nat), i ≤ cnt → cnt < m + i → Inv i → zz32_l7 big (zz32_a7 rec) m o0 x3 t7 t8 t20 (i : Int) = res := by
    intro m
    induction m with
    | zero => intro i h1 h2 h3; exact absurd h2 (by omega)
    | succ m ih =>
      intro i h1 h2 h3
      rcases Nat.lt_or_ge i cnt with hlt | hge
      · exact hs _ i hlt h3 (fun h4 => ih (i + 1) (by omega) (by omega) h4)
      · obtain rfl : i = cnt := by omega
        exact he _ h3
  exact key big i0 hi (by have := big_ge; omega) h0
theorem zz32_h12 {rec : Y5 → Int → Int → Int → Int → Int → Option (Bool × Unit)} {k : Y5 → Int → Int → Option (Bool × Unit)} {o0 : Y5} {x3 : Int} {y4 : Int} {t7 : Int} {t8 : Int} {t20 : Int} {t21 : Int} {t46 : Int} (cnt : Nat) (Inv : Nat → Prop) {res : Option (Bool × Unit)} (hn : cnt ≤ 500000000000)
  (hs : ∀ (rc : Y5 → Int → Int → Int → Int → Int → Int → Int → Int → Option (Bool × Unit)) (i : Nat), i < cnt → Inv i → (Inv (i + 1) → rc o0 x3 y4 t7 t8 t20 t21 t46 ((i + 1 : Nat) : Int) = res) → zz32_b12 rc (zz32_a12 rec) o0 x3 y4 t7 t8 t20 t21 t46 (i : Int) = res)
  (he : ∀ (rc : Y5 → Int → Int → Int → Int → Int → Int → Int → Int → Option (Bool × Unit)), Inv cnt → zz32_b12 rc (zz32_a12 rec) o0 x3 y4 t7 t8 t20 t21 t46 (cnt : Int) = res)
  (i0 : Nat) (hi : i0 ≤ cnt) (h0 : Inv i0) : zz32_F12 big rec k o0 x3 y4 t7 t8 t20 t21 t46 (i0 : Int) = res := by
  have key : ∀ (m i : Nat), i ≤ cnt → cnt < m + i → Inv i → zz32_l12 big (zz32_a12 rec) m o0 x3 y4 t7 t8 t20 t21 t46 (i : Int) = res := by
    intro m
    induction m with
    | zero => intro i h1 h2 h3; exact absurd h2 (by omega)
    | succ m ih =>
      intro i h1 h2 h3
      rcases Nat.lt_or_ge i cnt with hlt | hge
      · exact hs _ i hlt h3 (fun h4 => ih (i + 1) (by omega) (by omega) h4)
      · obtain rfl : i = cnt := by omega
        exact he _ h3
  exact key big i0 hi (by have := big_ge; omega) h0
theorem zz33_h6 {n4 : Int} {t18 : Y3} {t19 : Int} (cnt : Nat) (Inv : Nat → Y5 → Prop) {res : Option ((Y5 × (Bool × Unit)) × Unit)} (hn : cnt ≤ 500000000000)
  (hs : ∀ (rc : Int → Y5 → Y3 → Int → Int → Option ((Y5 × (Bool × Unit)) × Unit)) (i : Nat) (o5 : Y5), i < cnt → Inv i o5 → (∀ (o5' : Y5), Inv (i + 1) o5' → rc n4 o5' t18 t19 ((i + 1 : Nat) : Int) = res) → zz33_b6 (zz33_F11 big rc zz33_a6) zz33_a6 n4 o5 t18 t19 (i : Int) = res)
  (he : ∀ (rc : Int → Y5 → Y3 → Int → Int → Option ((Y5 × (Bool × Unit)) × Unit)) (o5 : Y5), Inv cnt o5 → zz33_b6 (zz33_F11 big rc zz33_a6) zz33_a6 n4 o5 t18 t19 (cnt : Int) = res)
  (i0 : Nat) (hi : i0 ≤ cnt) (o5 : Y5) (h0 : Inv i0 o5) : zz33_F6 big n4 o5 t18 t19 (i0 : Int) = res := by
  have key : ∀ (m i : Nat) (o5 : Y5), i ≤ cnt → cnt < m + i → Inv i o5 → zz33_l6 big zz33_a6 m n4 o5 t18 t19 (i : Int) = res := by
    intro m
    induction m with
    | zero => intro i o5 h1 h2 h3; exact absurd h2 (by omega)
    | succ m ih =>
      intro i o5 h1 h2 h3
      rcases Nat.lt_or_ge i cnt with hlt | hge
      · exact hs _ i o5 hlt h3 (fun o5' h4 => ih (i + 1) o5' (by omega) (by omega) h4)
      · obtain rfl : i = cnt := by omega
        exact he _ o5 h3
  exact key big i0 o5 hi (by have := big_ge; omega) h0
theorem zz33_h11 {rec : Int → Y5 → Y3 → Int → Int → Option ((Y5 × (Bool × Unit)) × Unit)} {k : Y5 → Option ((Y5 × (Bool × Unit)) × Unit)} {n4 : Int} {x6 : Int} {t18 : Y3} {t19 : Int} {t20 : Int} {t29 : Y4} {t30 : Int} {t31 : Bool} {t32 : Bool} {t34 : Y4} {t35 : Int} (cnt : Nat) (Inv : Nat → Y5 → Prop) {res : Option ((Y5 × (Bool × Unit)) × Unit)} (hn : cnt ≤ 500000000000)
  (hs : ∀ (rc : Int → Y5 → Int → Y3 → Int → Int → Y4 → Int → Bool → Bool → Y4 → Int → Int → Option ((Y5 × (Bool × Unit)) × Unit)) (i : Nat) (o5 : Y5), i < cnt → Inv i o5 → (∀ (o5' : Y5), Inv (i + 1) o5' → rc n4 o5' x6 t18 t19 t20 t29 t30 t31 t32 t34 t35 ((i + 1 : Nat) : Int) = res) → zz33_b11 rc (zz33_a11 rec) n4 o5 x6 t18 t19 t20 t29 t30 t31 t32 t34 t35 (i : Int) = res)
  (he : ∀ (rc : Int → Y5 → Int → Y3 → Int → Int → Y4 → Int → Bool → Bool → Y4 → Int → Int → Option ((Y5 × (Bool × Unit)) × Unit)) (o5 : Y5), Inv cnt o5 → zz33_b11 rc (zz33_a11 rec) n4 o5 x6 t18 t19 t20 t29 t30 t31 t32 t34 t35 (cnt : Int) = res)
  (i0 : Nat) (hi : i0 ≤ cnt) (o5 : Y5) (h0 : Inv i0 o5) : zz33_F11 big rec k n4 o5 x6 t18 t19 t20 t29 t30 t31 t32 t34 t35 (i0 : Int) = res := by
  have key : ∀ (m i : Nat) (o5 : Y5), i ≤ cnt → cnt < m + i → Inv i o5 → zz33_l11 big (zz33_a11 rec) m n4 o5 x6 t18 t19 t20 t29 t30 t31 t32 t34 t35 (i : Int) = res := by
    intro m
    induction m with
    | zero => intro i o5 h1 h2 h3; exact absurd h2 (by omega)
    | succ m ih =>
      intro i o5 h1 h2 h3
      rcases Nat.lt_or_ge i cnt with hlt | hge
      · exact hs _ i o5 hlt h3 (fun o5' h4 => ih (i + 1) o5' (by omega) (by omega) h4)
      · obtain rfl : i = cnt := by omega
        exact he _ o5 h3
  exact key big i0 o5 hi (by have := big_ge; omega) h0
theorem zz34_h2 {o0 : Y5} {list1 : Y4} {t10 : Y4} {t11 : Int} (cnt : Nat) (Inv : Nat → Prop) {res : Option (Int × Unit)} (hn : cnt ≤ 500000000000)
  (hs : ∀ (rc : Y5 → Y4 → Y4 → Int → Int → Option (Int × Unit)) (i : Nat), i < cnt → Inv i → (Inv (i + 1) → rc o0 list1 t10 t11 ((i + 1 : Nat) : Int) = res) → zz34_b2 (zz34_F6 big rc zz34_a2) zz34_a2 o0 list1 t10 t11 (i : Int) = res)
  (he : ∀ (rc : Y5 → Y4 → Y4 → Int → Int → Option (Int × Unit)), Inv cnt → zz34_b2 (zz34_F6 big rc zz34_a2) zz34_a2 o0 list1 t10 t11 (cnt : Int) = res)
  (i0 : Nat) (hi : i0 ≤ cnt) (h0 : Inv i0) : zz34_F2 big o0 list1 t10 t11 (i0 : Int) = res := by
  have key : ∀ (m i : Nat), i ≤ cnt → cnt < m + i → Inv i → zz34_l2 big zz34_a2 m o0 list1 t10 t11 (i : Int) = res := by
    intro m
    induction m with
    | zero => intro i h1 h2 h3; exact absurd h2 (by omega)
    | succ m ih =>
      intro i h1 h2 h3
      rcases Nat.lt_or_ge i cnt with hlt | hge
      · exact hs _ i hlt h3 (fun h4 => ih (i + 1) (by omega) (by omega) h4)
      · obtain rfl : i = cnt := by omega
        exact he _ h3
  exact key big i0 hi (by have := big_ge; omega) h0
theorem zz34_h6 {rec : Y5 → Y4 → Y4 → Int → Int → Option (Int × Unit)} {k : Option (Int × Unit)} {o0 : Y5} {list1 : Y4} {x6 : Int} {t10 : Y4} {t11 : Int} {t12 : Int} {t16 : Y4} {t17 : Int} (cnt : Nat) (Inv : Nat → Bool → Prop) {res : Option (Int × Unit)} (hn : cnt ≤ 500000000000)
  (hs : ∀ (rc : Y5 → Y4 → Int → Bool → Y4 → Int → Int → Y4 → Int → Int → Option (Int × Unit)) (i : Nat) (top7 : Bool), i < cnt → Inv i top7 → (∀ (top7' : Bool), Inv (i + 1) top7' → rc o0 list1 x6 top7' t10 t11 t12 t16 t17 ((i + 1 : Nat) : Int) = res) → zz34_b6 rc (zz34_a6 rec) o0 list1 x6 top7 t10 t11 t12 t16 t17 (i : Int) = res)
  (he : ∀ (rc : Y5 → Y4 → Int → Bool → Y4 → Int → Int → Y4 → Int → Int → Option (Int × Unit)) (top7 : Bool), Inv cnt top7 → zz34_b6 rc (zz34_a6 rec) o0 list1 x6 top7 t10 t11 t12 t16 t17 (cnt : Int) = res)
  (i0 : Nat) (hi : i0 ≤ cnt) (top7 : Bool) (h0 : Inv i0 top7) : zz34_F6 big rec k o0 list1 x6 top7 t10 t11 t12 t16 t17 (i0 : Int) = res := by
  have key : ∀ (m i : Nat) (top7 : Bool), i ≤ cnt → cnt < m + i → Inv i top7 → zz34_l6 big (zz34_a6 rec) m o0 list1 x6 top7 t10 t11 t12 t16 t17 (i : Int) = res := by
    intro m
    induction m with
    | zero => intro i top7 h1 h2 h3; exact absurd h2 (by omega)
    | succ m ih =>
      intro i top7 h1 h2 h3
      rcases Nat.lt_or_ge i cnt with hlt | hge
      · exact hs _ i top7 hlt h3 (fun top7' h4 => ih (i + 1) top7' (by omega) (by omega) h4)
      · obtain rfl : i = cnt := by omega
        exact he _ top7 h3
  exact key big i0 top7 hi (by have := big_ge; omega) h0
theorem zz36_h3 {so1 : (Y5 × (Int × (Int × Unit)))} {t9 : Int} (cnt : Nat) (Inv : Nat → Y4 → Prop) {res : Option (Y4 × Unit)} (hn : cnt ≤ 500000000000)
  (hs : ∀ (rc : (Y5 × (Int × (Int × Unit))) → Y4 → Int → Int → Option (Y4 × Unit)) (i : Nat) (list5 : Y4), i < cnt → Inv i list5 → (∀ (list5' : Y4), Inv (i + 1) list5' → rc so1 list5' t9 ((i + 1 : Nat) : Int) = res) → zz36_b3 rc zz36_a3 so1 list5 t9 (i : Int) = res)
  (he : ∀ (rc : (Y5 × (Int × (Int × Unit))) → Y4 → Int → Int → Option (Y4 × Unit)) (list5 : Y4), Inv cnt list5 → zz36_b3 rc zz36_a3 so1 list5 t9 (cnt : Int) = res)
  (i0 : Nat) (hi : i0 ≤ cnt) (list5 : Y4) (h0 : Inv i0 list5) : zz36_F3 big so1 list5 t9 (i0 : Int) = res := by
  have key : ∀ (m i : Nat) (list5 : Y4), i ≤ cnt → cnt < m + i → Inv i list5 → zz36_l3 big zz36_a3 m so1 list5 t9 (i : Int) = res := by
    intro m
    induction m with
    | zero => intro i list5 h1 h2 h3; exact absurd h2 (by omega)
    | succ m ih =>
      intro i list5 h1 h2 h3
      rcases Nat.lt_or_ge i cnt with hlt | hge
      · exact hs _ i list5 hlt h3 (fun list5' h4 => ih (i + 1) list5' (by omega) (by omega) h4)
      · obtain rfl : i = cnt := by omega
        exact he _ list5 h3
  exact key big i0 list5 hi (by have := big_ge; omega) h0
theorem zz37_h3 {o1 : Y5} {t11 : Int} (cnt : Nat) (Inv : Nat → Y3 → Prop) {res : Option ((Y3 × (Bool × Unit)) × Unit)} (hn : cnt ≤ 500000000000)
  (hs : ∀ (rc : Y5 → Y3 → Int → Int → Option ((Y3 × (Bool × Unit)) × Unit)) (i : Nat) (table4 : Y3), i < cnt → Inv i table4 → (∀ (table4' : Y3), Inv (i + 1) table4' → rc o1 table4' t11 ((i + 1 : Nat) : Int) = res) → zz37_b3 (zz37_F7 big rc zz37_a3) zz37_a3 o1 table4 t11 (i : Int) = res)
  (he : ∀ (rc : Y5 → Y3 → Int → Int → Option ((Y3 × (Bool × Unit)) × Unit)) (table4 : Y3), Inv cnt table4 → zz37_b3 (zz37_F7 big rc zz37_a3) zz37_a3 o1 table4 t11 (cnt : Int) = res)
  (i0 : Nat) (hi : i0 ≤ cnt) (table4 : Y3) (h0 : Inv i0 table4) : zz37_F3 big o1 table4 t11 (i0 : Int) = res := by
  have key : ∀ (m i : Nat) (table4 : Y3), i ≤ cnt → cnt < m + i → Inv i table4 → zz37_l3 big zz37_a3 m o1 table4 t11 (i : Int) = res := by
    intro m
    induction m with
    | zero => intro i table4 h1 h2 h3; exact absurd h2 (by omega)
    | succ m ih =>
      intro i table4 h1 h2 h3
      rcases Nat.lt_or_ge i cnt with hlt | hge
      · exact hs _ i table4 hlt h3 (fun table4' h4 => ih (i + 1) table4' (by omega) (by omega) h4)
      · obtain rfl : i = cnt := by omega
        exact he _ table4 h3
  exact key big i0 table4 hi (by have := big_ge; omega) h0
theorem zz37_h7 {rec : Y5 → Y3 → Int → Int → Option ((Y3 × (Bool × Unit)) × Unit)} {k : Y3 → Option ((Y3 × (Bool × Unit)) × Unit)} {o1 : Y5} {table4 : Y3} {x5 : Int} {t11 : Int} {t12 : Int} {t17 : Int} (cnt : Nat) (Inv : Nat → Y4 → Prop) {res : Option ((Y3 × (Bool × Unit)) × Unit)} (hn : cnt ≤ 500000000000)
  (hs : ∀ (rc : Y5 → Y3 → Int → Y4 → Int → Int → Int → Int → Option ((Y3 × (Bool × Unit)) × Unit)) (i : Nat) (row6 : Y4), i < cnt → Inv i row6 → (∀ (row6' : Y4), Inv (i + 1) row6' → rc o1 table4 x5 row6' t11 t12 t17 ((i + 1 : Nat) : Int) = res) → zz37_b7 rc (zz37_a7 rec) o1 table4 x5 row6 t11 t12 t17 (i : Int) = res)
  (he : ∀ (rc : Y5 → Y3 → Int → Y4 → Int → Int → Int → Int → Option ((Y3 × (Bool × Unit)) × Unit)) (row6 : Y4), Inv cnt row6 → zz37_b7 rc (zz37_a7 rec) o1 table4 x5 row6 t11 t12 t17 (cnt : Int) = res)
  (i0 : Nat) (hi : i0 ≤ cnt) (row6 : Y4) (h0 : Inv i0 row6) : zz37_F7 big rec k o1 table4 x5 row6 t11 t12 t17 (i0 : Int) = res := by
  have key : ∀ (m i : Nat) (row6 : Y4), i ≤ cnt → cnt < m + i → Inv i row6 → zz37_l7 big (zz37_a7 rec) m o1 table4 x5 row6 t11 t12 t17 (i : Int) = res := by
    intro m
    induction m with
    | zero => intro i row6 h1 h2 h3; exact absurd h2 (by omega)
    | succ m ih =>
      intro i row6 h1 h2 h3
      rcases Nat.lt_or_ge i cnt with hlt | hge
      · exact hs _ i row6 hlt h3 (fun row6' h4 => ih (i + 1) row6' (by omega) (by omega) h4)
      · obtain rfl : i = cnt := by omega
        exact he _ row6 h3
  exact key big i0 row6 hi (by have := big_ge; omega) h0
theorem zz38_h3 {o0 : Y5} {t10 : Int} (cnt : Nat) (Inv : Nat → Y5 → Prop) {res : Option (Y5 × Unit)} (hn : cnt ≤ 500000000000)
  (hs : ∀ (rc : Y5 → Y5 → Int → Int → Option (Y5 × Unit)) (i : Nat) (d3 : Y5), i < cnt → Inv i d3 → (∀ (d3' : Y5), Inv (i + 1) d3' → rc o0 d3' t10 ((i + 1 : Nat) : Int) = res) → zz38_b3 (zz38_F6 big rc zz38_a3) zz38_a3 o0 d3 t10 (i : Int) = res)
  (he : ∀ (rc : Y5 → Y5 → Int → Int → Option (Y5 × Unit)) (d3 : Y5), Inv cnt d3 → zz38_b3 (zz38_F6 big rc zz38_a3) zz38_a3 o0 d3 t10 (cnt : Int) = res)
  (i0 : Nat) (hi : i0 ≤ cnt) (d3 : Y5) (h0 : Inv i0 d3) : zz38_F3 big o0 d3 t10 (i0 : Int) = res := by
  have key : ∀ (m i : Nat) (d3 : Y5), i ≤ cnt → cnt < m + i → Inv i d3 → zz38_l3 big zz38_a3 m o0 d3 t10 (i : Int) = res := by
    intro m
    induction m with
    | zero => intro i d3 h1 h2 h3; exact absurd h2 (by omega)
    | succ m ih =>
      intro i d3 h1 h2 h3
      rcases Nat.lt_or_ge i cnt with hlt | hge
      · exact hs _ i d3 hlt h3 (fun d3' h4 => ih (i + 1) d3' (by omega) (by omega) h4)
      · obtain rfl : i = cnt := by omega
        exact he _ d3 h3
  exact key big i0 d3 hi (by have := big_ge; omega) h0
theorem zz38_h6 {rec : Y5 → Y5 → Int → Int → Option (Y5 × Unit)} {k : Y5 → Option (Y5 × Unit)} {o0 : Y5} {x4 : Int} {t10 : Int} {t11 : Int} {t15 : Int} (cnt : Nat) (Inv : Nat → Y5 → Prop) {res : Option (Y5 × Unit)} (hn : cnt ≤ 500000000000)
  (hs : ∀ (rc : Y5 → Y5 → Int → Int → Int → Int → Int → Option (Y5 × Unit)) (i : Nat) (d3 : Y5), i < cnt → Inv i d3 → (∀ (d3' : Y5), Inv (i + 1) d3' → rc o0 d3' x4 t10 t11 t15 ((i + 1 : Nat) : Int) = res) → zz38_b6 rc (zz38_a6 rec) o0 d3 x4 t10 t11 t15 (i : Int) = res)
  (he : ∀ (rc : Y5 → Y5 → Int → Int → Int → Int → Int → Option (Y5 × Unit)) (d3 : Y5), Inv cnt d3 → zz38_b6 rc (zz38_a6 rec) o0 d3 x4 t10 t11 t15 (cnt : Int) = res)
  (i0 : Nat) (hi : i0 ≤ cnt) (d3 : Y5) (h0 : Inv i0 d3) : zz38_F6 big rec k o0 d3 x4 t10 t11 t15 (i0 : Int) = res := by
  have key : ∀ (m i : Nat) (d3 : Y5), i ≤ cnt → cnt < m + i → Inv i d3 → zz38_l6 big (zz38_a6 rec) m o0 d3 x4 t10 t11 t15 (i : Int) = res := by
    intro m
    induction m with
    | zero => intro i d3 h1 h2 h3; exact absurd h2 (by omega)
    | succ m ih =>
      intro i d3 h1 h2 h3
      rcases Nat.lt_or_ge i cnt with hlt | hge
      · exact hs _ i d3 hlt h3 (fun d3' h4 => ih (i + 1) d3' (by omega) (by omega) h4)
      · obtain rfl : i = cnt := by omega
        exact he _ d3 h3
  exact key big i0 d3 hi (by have := big_ge; omega) h0
theorem zz41_h3 {t2 : Y6} {t7 : Y3} {t8 : Int} (cnt : Nat) (Inv : Nat → Y6 → Prop) {res : Option (Y6 × Unit)} (hn : cnt ≤ 500000000000)
  (hs : ∀ (rc : Y6 → Y6 → Y3 → Int → Int → Option (Y6 × Unit)) (i : Nat) (f3 : Y6), i < cnt → Inv i f3 → (∀ (f3' : Y6), Inv (i + 1) f3' → rc t2 f3' t7 t8 ((i + 1 : Nat) : Int) = res) → zz41_b3 rc zz41_a3 t2 f3 t7 t8 (i : Int) = res)
  (he : ∀ (rc : Y6 → Y6 → Y3 → Int → Int → Option (Y6 × Unit)) (f3 : Y6), Inv cnt f3 → zz41_b3 rc zz41_a3 t2 f3 t7 t8 (cnt : Int) = res)
  (i0 : Nat) (hi : i0 ≤ cnt) (f3 : Y6) (h0 : Inv i0 f3) : zz41_F3 big t2 f3 t7 t8 (i0 : Int) = res := by
  have key : ∀ (m i : Nat) (f3 : Y6), i ≤ cnt → cnt < m + i → Inv i f3 → zz41_l3 big zz41_a3 m t2 f3 t7 t8 (i : Int) = res := by
    intro m
    induction m with
    | zero => intro i f3 h1 h2 h3; exact absurd h2 (by omega)
    | succ m ih =>
      intro i f3 h1 h2 h3
      rcases Nat.lt_or_ge i cnt with hlt | hge
      · exact hs _ i f3 hlt h3 (fun f3' h4 => ih (i + 1) f3' (by omega) (by omega) h4)
      · obtain rfl : i = cnt := by omega
        exact he _ f3 h3
  exact key big i0 f3 hi (by have := big_ge; omega) h0
theorem zz43_h4 {p1 : Y4} {t11 : Y4} {t12 : Int} (cnt : Nat) (Inv : Nat → Prop) {res : Option (Bool × Unit)} (hn : cnt ≤ 500000000000)
  (hs : ∀ (rc : Y4 → Y4 → Int → Int → Option (Bool × Unit)) (i : Nat), i < cnt → Inv i → (Inv (i + 1) → rc p1 t11 t12 ((i + 1 : Nat) : Int) = res) → zz43_b4 rc zz43_a4 p1 t11 t12 (i : Int) = res)
  (he : ∀ (rc : Y4 → Y4 → Int → Int → Option (Bool × Unit)), Inv cnt → zz43_b4 rc zz43_a4 p1 t11 t12 (cnt : Int) = res)
  (i0 : Nat) (hi : i0 ≤ cnt) (h0 : Inv i0) : zz43_F4 big p1 t11 t12 (i0 : Int) = res := by
  have key : ∀ (m i : Nat), i ≤ cnt → cnt < m + i → Inv i → zz43_l4 big zz43_a4 m p1 t11 t12 (i : Int) = res := by
    intro m
    induction m with
    | zero => intro i h1 h2 h3; exact absurd h2 (by omega)
    | succ m ih =>
      intro i h1 h2 h3
      rcases Nat.lt_or_ge i cnt with hlt | hge
      · exact hs _ i hlt h3 (fun h4 => ih (i + 1) (by omega) (by omega) h4)
      · obtain rfl : i = cnt := by omega
        exact he _ h3
  exact key big i0 hi (by have := big_ge; omega) h0
theorem zz45_h7 {x1 : Int} {y2 : Int} {t25 : Int} (cnt : Nat) (Inv : Nat → Y4 → Prop) {res : Option (Bool × (Y4 × Unit))} (hn : cnt ≤ 500000000000)
  (hs : ∀ (rc : Y4 → Int → Int → Int → Int → Option (Bool × (Y4 × Unit))) (i : Nat) (p0 : Y4), i < cnt → Inv i p0 → (∀ (p0' : Y4), Inv (i + 1) p0' → rc p0' x1 y2 t25 ((i + 1 : Nat) : Int) = res) → zz45_b7 rc zz45_a7 p0 x1 y2 t25 (i : Int) = res)
  (he : ∀ (rc : Y4 → Int → Int → Int → Int → Option (Bool × (Y4 × Unit))) (p0 : Y4), Inv cnt p0 → zz45_b7 rc zz45_a7 p0 x1 y2 t25 (cnt : Int) = res)
  (i0 : Nat) (hi : i0 ≤ cnt) (p0 : Y4) (h0 : Inv i0 p0) : zz45_F7 big p0 x1 y2 t25 (i0 : Int) = res := by
  have key : ∀ (m i : Nat) (p0 : Y4), i ≤ cnt → cnt < m + i → Inv i p0 → zz45_l7 big zz45_a7 m p0 x1 y2 t25 (i : Int) = res := by
    intro m
    induction m with
    | zero => intro i p0 h1 h2 h3; exact absurd h2 (by omega)
    | succ m ih =>
      intro i p0 h1 h2 h3
      rcases Nat.lt_or_ge i cnt with hlt | hge
      · exact hs _ i p0 hlt h3 (fun p0' h4 => ih (i + 1) p0' (by omega) (by omega) h4)
      · obtain rfl : i = cnt := by omega
        exact he _ p0 h3
  exact key big i0 p0 hi (by have := big_ge; omega) h0
theorem zz46_v3 {a2 : Y7} (mu : Y4 → Bool → Bool → Nat) (Inv : Y4 → Bool → Bool → Prop) {Q : Option (Bool × (Y4 × Unit)) → Prop}
  (hs : ∀ (rc : Y4 → Y7 → Bool → Bool → Option (Bool × (Y4 × Unit))) (p1 : Y4) (was5 : Bool) (changed6 : Bool), Inv p1 was5 changed6 → (∀ (p1' : Y4) (was5' : Bool) (changed6' : Bool), Inv p1' was5' changed6' → mu p1' was5' changed6' < mu p1 was5 changed6 → Q (rc p1' a2 was5' changed6')) → Q (zz46_b3 (zz46_F6 big rc zz46_a3) zz46_a3 p1 a2 was5 changed6))
  (p1 : Y4) (was5 : Bool) (changed6 : Bool) (hm : mu p1 was5 changed6 ≤ 500000000000) (h0 : Inv p1 was5 changed6) : Q (zz46_F3 big p1 a2 was5 changed6) := by
  have key : ∀ (m : Nat) (p1 : Y4) (was5 : Bool) (changed6 : Bool), mu p1 was5 changed6 < m → Inv p1 was5 changed6 → Q (zz46_l3 big zz46_a3 m p1 a2 was5 changed6) := by
    intro m
    induction m with
    | zero => intro p1 was5 changed6 h2 h3; exact absurd h2 (by omega)
    | succ m ih =>
      intro p1 was5 changed6 h2 h3
      exact hs _ p1 was5 changed6 h3 (fun p1' was5' changed6' h4 h5 => ih p1' was5' changed6' (by omega) h4)
  exact key big p1 was5 changed6 (by have := big_ge; omega) h0
theorem zz46_q6 {rec : Y4 → Y7 → Bool → Bool → Option (Bool × (Y4 × Unit))} {k : Y4 → Bool → Option (Bool × (Y4 × Unit))} {a2 : Y7} {t16 : (List Y6)} {t17 : Int} (cnt : Nat) (Inv : Nat → Y4 → Bool → Bool → Prop) {Q : Option (Bool × (Y4 × Unit)) → Prop} (hn : cnt ≤ 500000000000)
  (hs : ∀ (rc : Y4 → Y7 → Bool → Bool → (List Y6) → Int → Int → Option (Bool × (Y4 × Unit))) (i : Nat) (p1 : Y4) (was5 : Bool) (changed6 : Bool), i < cnt → Inv i p1 was5 changed6 → (∀ (p1' : Y4) (was5' : Bool) (changed6' : Bool), Inv (i + 1) p1' was5' changed6' → Q (rc p1' a2 was5' changed6' t16 t17 ((i + 1 : Nat) : Int))) → Q (zz46_b6 (zz46_F10 big rc (zz46_a6 rec)) (zz46_a6 rec) p1 a2 was5 changed6 t16 t17 (i : Int)))
  (he : ∀ (rc : Y4 → Y7 → Bool → Bool → (List Y6) → Int → Int → Option (Bool × (Y4 × Unit))) (p1 : Y4) (was5 : Bool) (changed6 : Bool), Inv cnt p1 was5 changed6 → Q (zz46_b6 (zz46_F10 big rc (zz46_a6 rec)) (zz46_a6 rec) p1 a2 was5 changed6 t16 t17 (cnt : Int)))
  (i0 : Nat) (hi : i0 ≤ cnt) (p1 : Y4) (was5 : Bool) (changed6 : Bool) (h0 : Inv i0 p1 was5 changed6) : Q (zz46_F6 big rec k p1 a2 was5 changed6 t16 t17 (i0 : Int)) := by
  have key : ∀ (m i : Nat) (p1 : Y4) (was5 : Bool) (changed6 : Bool), i ≤ cnt → cnt < m + i → Inv i p1 was5 changed6 → Q (zz46_l6 big (zz46_a6 rec) m p1 a2 was5 changed6 t16 t17 (i : Int)) := by
    intro m
    induction m with
    | zero => intro i p1 was5 changed6 h1 h2 h3; exact absurd h2 (by omega)
    | succ m ih =>
      intro i p1 was5 changed6 h1 h2 h3
      rcases Nat.lt_or_ge i cnt with hlt | hge
      · exact hs _ i p1 was5 changed6 hlt h3 (fun p1' was5' changed6' h4 => ih (i + 1) p1' was5' changed6' (by omega) (by omega) h4)
      · obtain rfl : i = cnt := by omega
        exact he _ p1 was5 changed6 h3
  exact key big i0 p1 was5 changed6 hi (by have := big_ge; omega) h0
theorem zz46_q10 {rec : Y4 → Y7 → Bool → Bool → (List Y6) → Int → Int → Option (Bool × (Y4 × Unit))} {k : Y4 → Y7 → Bool → Bool → Option (Bool × (Y4 × Unit))} {a2 : Y7} {f8 : Y6} {t16 : (List Y6)} {t17 : Int} {t18 : Int} (cnt : Nat) (Inv : Nat → Y4 → Bool → Bool → Int → Prop) {Q : Option (Bool × (Y4 × Unit)) → Prop} (hn : cnt ≤ 500000000000)
  (hs : ∀ (rc : Y4 → Y7 → Bool → Bool → Y6 → Int → Int → (List Y6) → Int → Int → Option (Bool × (Y4 × Unit))) (i : Nat) (p1 : Y4) (was5 : Bool) (changed6 : Bool) (step9 : Int), i < cnt → Inv i p1 was5 changed6 step9 → (∀ (p1' : Y4) (was5' : Bool) (changed6' : Bool) (step9' : Int), Inv (i + 1) p1' was5' changed6' step9' → Q (rc p1' a2 was5' changed6' f8 step9' ((i + 1 : Nat) : Int) t16 t17 t18)) → Q (zz46_b10 (zz46_F13 big rc (zz46_a10 rec)) (zz46_a10 rec) p1 a2 was5 changed6 f8 step9 (i : Int) t16 t17 t18))
  (he : ∀ (rc : Y4 → Y7 → Bool → Bool → Y6 → Int → Int → (List Y6) → Int → Int → Option (Bool × (Y4 × Unit))) (p1 : Y4) (was5 : Bool) (changed6 : Bool) (step9 : Int), Inv cnt p1 was5 changed6 step9 → Q (zz46_b10 (zz46_F13 big rc (zz46_a10 rec)) (zz46_a10 rec) p1 a2 was5 changed6 f8 step9 (cnt : Int) t16 t17 t18))
  (i0 : Nat) (hi : i0 ≤ cnt) (p1 : Y4) (was5 : Bool) (changed6 : Bool) (step9 : Int) (h0 : Inv i0 p1 was5 changed6 step9) : Q (zz46_F10 big rec k p1 a2 was5 changed6 f8 step9 (i0 : Int) t16 t17 t18) := by
  have key : ∀ (m i : Nat) (p1 : Y4) (was5 : Bool) (changed6 : Bool) (step9 : Int), i ≤ cnt → cnt < m + i → Inv i p1 was5 changed6 step9 → Q (zz46_l10 big (zz46_a10 rec) m p1 a2 was5 changed6 f8 step9 (i : Int) t16 t17 t18) := by
    intro m
    induction m with
    | zero => intro i p1 was5 changed6 step9 h1 h2 h3; exact absurd h2 (by omega)
    | succ m ih =>
      intro i p1 was5 changed6 step9 h1 h2 h3
      rcases Nat.lt_or_ge i cnt with hlt | hge
      · exact hs _ i p1 was5 changed6 step9 hlt h3 (fun p1' was5' changed6' step9' h4 => ih (i + 1) p1' was5' changed6' step9' (by omega) (by omega) h4)
      · obtain rfl : i = cnt := by omega
        exact he _ p1 was5 changed6 step9 h3
  exact key big i0 p1 was5 changed6 step9 hi (by have := big_ge; omega) h0
theorem zz46_q13 {rec : Y4 → Y7 → Bool → Bool → Y6 → Int → Int → (List Y6) → Int → Int → Option (Bool × (Y4 × Unit))} {k : Y4 → Y7 → Bool → Bool → (List Y6) → Int → Int → Option (Bool × (Y4 × Unit))} {a2 : Y7} {f8 : Y6} {step9 : Int} {k10 : Int} {t16 : (List Y6)} {t17 : Int} {t18 : Int} {t29 : Y4} {t30 : Int} (cnt : Nat) (Inv : Nat → Y4 → Bool → Bool → Prop) {Q : Option (Bool × (Y4 × Unit)) → Prop} (hn : cnt ≤ 500000000000)
  (hs : ∀ (rc : Y4 → Y7 → Bool → Bool → Y6 → Int → Int → (List Y6) → Int → Int → Y4 → Int → Int → Option (Bool × (Y4 × Unit))) (i : Nat) (p1 : Y4) (was5 : Bool) (changed6 : Bool), i < cnt → Inv i p1 was5 changed6 → (∀ (p1' : Y4) (was5' : Bool) (changed6' : Bool), Inv (i + 1) p1' was5' changed6' → Q (rc p1' a2 was5' changed6' f8 step9 k10 t16 t17 t18 t29 t30 ((i + 1 : Nat) : Int))) → Q (zz46_b13 rc (zz46_a13 rec) p1 a2 was5 changed6 f8 step9 k10 t16 t17 t18 t29 t30 (i : Int)))
  (he : ∀ (rc : Y4 → Y7 → Bool → Bool → Y6 → Int → Int → (List Y6) → Int → Int → Y4 → Int → Int → Option (Bool × (Y4 × Unit))) (p1 : Y4) (was5 : Bool) (changed6 : Bool), Inv cnt p1 was5 changed6 → Q (zz46_b13 rc (zz46_a13 rec) p1 a2 was5 changed6 f8 step9 k10 t16 t17 t18 t29 t30 (cnt : Int)))
  (i0 : Nat) (hi : i0 ≤ cnt) (p1 : Y4) (was5 : Bool) (changed6 : Bool) (h0 : Inv i0 p1 was5 changed6) : Q (zz46_F13 big rec k p1 a2 was5 changed6 f8 step9 k10 t16 t17 t18 t29 t30 (i0 : Int)) := by
  have key : ∀ (m i : Nat) (p1 : Y4) (was5 : Bool) (changed6 : Bool), i ≤ cnt → cnt < m + i → Inv i p1 was5 changed6 → Q (zz46_l13 big (zz46_a13 rec) m p1 a2 was5 changed6 f8 step9 k10 t16 t17 t18 t29 t30 (i : Int)) := by
    intro m
    induction m with
    | zero => intro i p1 was5 changed6 h1 h2 h3; exact absurd h2 (by omega)
    | succ m ih =>
      intro i p1 was5 changed6 h1 h2 h3
      rcases Nat.lt_or_ge i cnt with hlt | hge
      · exact hs _ i p1 was5 changed6 hlt h3 (fun p1' was5' changed6' h4 => ih (i + 1) p1' was5' changed6' (by omega) (by omega) h4)
      · obtain rfl : i = cnt := by omega
        exact he _ p1 was5 changed6 h3
  exact key big i0 p1 was5 changed6 hi (by have := big_ge; omega) h0
theorem zz48_h3 {l0 : Y1} {t9 : Int} (cnt : Nat) (Inv : Nat → Int → Prop) {res : Option (Int × Unit)} (hn : cnt ≤ 500000000000)
  (hs : ∀ (rc : Y1 → Int → Int → Int → Option (Int × Unit)) (i : Nat) (t3 : Int), i < cnt → Inv i t3 → (∀ (t3' : Int), Inv (i + 1) t3' → rc l0 t3' t9 ((i + 1 : Nat) : Int) = res) → zz48_b3 rc zz48_a3 l0 t3 t9 (i : Int) = res)
  (he : ∀ (rc : Y1 → Int → Int → Int → Option (Int × Unit)) (t3 : Int), Inv cnt t3 → zz48_b3 rc zz48_a3 l0 t3 t9 (cnt : Int) = res)
  (i0 : Nat) (hi : i0 ≤ cnt) (t3 : Int) (h0 : Inv i0 t3) : zz48_F3 big l0 t3 t9 (i0 : Int) = res := by
  have key : ∀ (m i : Nat) (t3 : Int), i ≤ cnt → cnt < m + i → Inv i t3 → zz48_l3 big zz48_a3 m l0 t3 t9 (i : Int) = res := by
    intro m
    induction m with
    | zero => intro i t3 h1 h2 h3; exact absurd h2 (by omega)
    | succ m ih =>
      intro i t3 h1 h2 h3
      rcases Nat.lt_or_ge i cnt with hlt | hge
      · exact hs _ i t3 hlt h3 (fun t3' h4 => ih (i + 1) t3' (by omega) (by omega) h4)
      · obtain rfl : i = cnt := by omega
        exact he _ t3 h3
  exact key big i0 t3 hi (by have := big_ge; omega) h0
theorem zz49_h3 {l0 : Y1} {t10 : Y4} {t11 : Int} (cnt : Nat) (Inv : Nat → Int → Prop) {res : Option (Int × Unit)} (hn : cnt ≤ 500000000000)
  (hs : ∀ (rc : Y1 → Int → Y4 → Int → Int → Option (Int × Unit)) (i : Nat) (m5 : Int), i < cnt → Inv i m5 → (∀ (m5' : Int), Inv (i + 1) m5' → rc l0 m5' t10 t11 ((i + 1 : Nat) : Int) = res) → zz49_b3 rc zz49_a3 l0 m5 t10 t11 (i : Int) = res)
  (he : ∀ (rc : Y1 → Int → Y4 → Int → Int → Option (Int × Unit)) (m5 : Int), Inv cnt m5 → zz49_b3 rc zz49_a3 l0 m5 t10 t11 (cnt : Int) = res)
  (i0 : Nat) (hi : i0 ≤ cnt) (m5 : Int) (h0 : Inv i0 m5) : zz49_F3 big l0 m5 t10 t11 (i0 : Int) = res := by
  have key : ∀ (m i : Nat) (m5 : Int), i ≤ cnt → cnt < m + i → Inv i m5 → zz49_l3 big zz49_a3 m l0 m5 t10 t11 (i : Int) = res := by
    intro m
    induction m with
    | zero => intro i m5 h1 h2 h3; exact absurd h2 (by omega)
    | succ m ih =>
      intro i m5 h1 h2 h3
      rcases Nat.lt_or_ge i cnt with hlt | hge
      · exact hs _ i m5 hlt h3 (fun m5' h4 => ih (i + 1) m5' (by omega) (by omega) h4)
      · obtain rfl : i = cnt := by omega
        exact he _ m5 h3
  exact key big i0 m5 hi (by have := big_ge; omega) h0
theorem zz50_h3 {l0 : Y1} {t9 : Int} (cnt : Nat) (Inv : Nat → Int → Prop) {res : Option (Int × Unit)} (hn : cnt ≤ 500000000000)
  (hs : ∀ (rc : Y1 → Int → Int → Int → Option (Int × Unit)) (i : Nat) (b3 : Int), i < cnt → Inv i b3 → (∀ (b3' : Int), Inv (i + 1) b3' → rc l0 b3' t9 ((i + 1 : Nat) : Int) = res) → zz50_b3 rc zz50_a3 l0 b3 t9 (i : Int) = res)
  (he : ∀ (rc : Y1 → Int → Int → Int → Option (Int × Unit)) (b3 : Int), Inv cnt b3 → zz50_b3 rc zz50_a3 l0 b3 t9 (cnt : Int) = res)
  (i0 : Nat) (hi : i0 ≤ cnt) (b3 : Int) (h0 : Inv i0 b3) : zz50_F3 big l0 b3 t9 (i0 : Int) = res := by
  have key : ∀ (m i : Nat) (b3 : Int), i ≤ cnt → cnt < m + i → Inv i b3 → zz50_l3 big zz50_a3 m l0 b3 t9 (i : Int) = res := by
    intro m
    induction m with
    | zero => intro i b3 h1 h2 h3; exact absurd h2 (by omega)
    | succ m ih =>
      intro i b3 h1 h2 h3
      rcases Nat.lt_or_ge i cnt with hlt | hge
      · exact hs _ i b3 hlt h3 (fun b3' h4 => ih (i + 1) b3' (by omega) (by omega) h4)
      · obtain rfl : i = cnt := by omega
        exact he _ b3 h3
  exact key big i0 b3 hi (by have := big_ge; omega) h0
theorem zz51_h3 {l0 : Y1} {t10 : Y4} {t11 : Int} (cnt : Nat) (Inv : Nat → Int → Prop) {res : Option (Int × Unit)} (hn : cnt ≤ 500000000000)
  (hs : ∀ (rc : Y1 → Int → Y4 → Int → Int → Option (Int × Unit)) (i : Nat) (j5 : Int), i < cnt → Inv i j5 → (∀ (j5' : Int), Inv (i + 1) j5' → rc l0 j5' t10 t11 ((i + 1 : Nat) : Int) = res) → zz51_b3 rc zz51_a3 l0 j5 t10 t11 (i : Int) = res)
  (he : ∀ (rc : Y1 → Int → Y4 → Int → Int → Option (Int × Unit)) (j5 : Int), Inv cnt j5 → zz51_b3 rc zz51_a3 l0 j5 t10 t11 (cnt : Int) = res)
  (i0 : Nat) (hi : i0 ≤ cnt) (j5 : Int) (h0 : Inv i0 j5) : zz51_F3 big l0 j5 t10 t11 (i0 : Int) = res := by
  have key : ∀ (m i : Nat) (j5 : Int), i ≤ cnt → cnt < m + i → Inv i j5 → zz51_l3 big zz51_a3 m l0 j5 t10 t11 (i : Int) = res := by
    intro m
    induction m with
    | zero => intro i j5 h1 h2 h3; exact absurd h2 (by omega)
    | succ m ih =>
      intro i j5 h1 h2 h3
      rcases Nat.lt_or_ge i cnt with hlt | hge
      · exact hs _ i j5 hlt h3 (fun j5' h4 => ih (i + 1) j5' (by omega) (by omega) h4)
      · obtain rfl : i = cnt := by omega
        exact he _ j5 h3
  exact key big i0 j5 hi (by have := big_ge; omega) h0
theorem zz52_h6 {l6 : Y1} {t28 : Y3} {t29 : Int} (cnt : Nat) (Inv : Nat → (List (Int × (Int × Unit))) → Prop) {res : Option (((List (Int × (Int × Unit))) × (Bool × Unit)) × Unit)} (hn : cnt ≤ 500000000000)
  (hs : ∀ (rc : Y1 → (List (Int × (Int × Unit))) → Y3 → Int → Int → Option (((List (Int × (Int × Unit))) × (Bool × Unit)) × Unit)) (i : Nat) (list8 : (List (Int × (Int × Unit)))), i < cnt → Inv i list8 → (∀ (list8' : (List (Int × (Int × Unit)))), Inv (i + 1) list8' → rc l6 list8' t28 t29 ((i + 1 : Nat) : Int) = res) → zz52_b6 rc zz52_a6 l6 list8 t28 t29 (i : Int) = res)
  (he : ∀ (rc : Y1 → (List (Int × (Int × Unit))) → Y3 → Int → Int → Option (((List (Int × (Int × Unit))) × (Bool × Unit)) × Unit)) (list8 : (List (Int × (Int × Unit)))), Inv cnt list8 → zz52_b6 rc zz52_a6 l6 list8 t28 t29 (cnt : Int) = res)
  (i0 : Nat) (hi : i0 ≤ cnt) (list8 : (List (Int × (Int × Unit)))) (h0 : Inv i0 list8) : zz52_F6 big l6 list8 t28 t29 (i0 : Int) = res := by
  have key : ∀ (m i : Nat) (list8 : (List (Int × (Int × Unit)))), i ≤ cnt → cnt < m + i → Inv i list8 → zz52_l6 big zz52_a6 m l6 list8 t28 t29 (i : Int) = res := by
    intro m
    induction m with
    | zero => intro i list8 h1 h2 h3; exact absurd h2 (by omega)
    | succ m ih =>
      intro i list8 h1 h2 h3
      rcases Nat.lt_or_ge i cnt with hlt | hge
      · exact hs _ i list8 hlt h3 (fun list8' h4 => ih (i + 1) list8' (by omega) (by omega) h4)
      · obtain rfl : i = cnt := by omega
        exact he _ list8 h3
  exact key big i0 list8 hi (by have := big_ge; omega) h0
theorem zz53_h2 {a2 : (Int × (Int × Unit))} {b3 : (Int × (Int × Unit))} (cnt : Nat) (Inv : Nat → Prop) {res : Option (Bool × Unit)} (hn : cnt ≤ 500000000000)
  (hs : ∀ (rc : (Int × (Int × Unit)) → (Int × (Int × Unit)) → Int → Option (Bool × Unit)) (i : Nat), i < cnt → Inv i → (Inv (i + 1) → rc a2 b3 ((i + 1 : Nat) : Int) = res) → zz53_b2 rc zz53_a2 a2 b3 (i : Int) = res)
  (he : ∀ (rc : (Int × (Int × Unit)) → (Int × (Int × Unit)) → Int → Option (Bool × Unit)), Inv cnt → zz53_b2 rc zz53_a2 a2 b3 (cnt : Int) = res)
  (i0 : Nat) (hi : i0 ≤ cnt) (h0 : Inv i0) : zz53_F2 big a2 b3 (i0 : Int) = res := by
  have key : ∀ (m i : Nat), i ≤ cnt → cnt < m + i → Inv i → zz53_l2 big zz53_a2 m a2 b3 (i : Int) = res := by
    intro m
    induction m with
    | zero => intro i h1 h2 h3; exact absurd h2 (by omega)
    | succ m ih =>
      intro i h1 h2 h3
      rcases Nat.lt_or_ge i cnt with hlt | hge
      · exact hs _ i hlt h3 (fun h4 => ih (i + 1) (by omega) (by omega) h4)
      · obtain rfl : i = cnt := by omega
        exact he _ h3
  exact key big i0 hi (by have := big_ge; omega) h0
theorem zz54_h4 {a0 : (List (Int × (Int × Unit)))} {b1 : (List (Int × (Int × Unit)))} (cnt : Nat) (Inv : Nat → Prop) {res : Option (Bool × Unit)} (hn : cnt ≤ 500000000000)
  (hs : ∀ (rc : (List (Int × (Int × Unit))) → (List (Int × (Int × Unit))) → Int → Option (Bool × Unit)) (i : Nat), i < cnt → Inv i → (Inv (i + 1) → rc a0 b1 ((i + 1 : Nat) : Int) = res) → zz54_b4 rc zz54_a4 a0 b1 (i : Int) = res)
  (he : ∀ (rc : (List (Int × (Int × Unit))) → (List (Int × (Int × Unit))) → Int → Option (Bool × Unit)), Inv cnt → zz54_b4 rc zz54_a4 a0 b1 (cnt : Int) = res)
  (i0 : Nat) (hi : i0 ≤ cnt) (h0 : Inv i0) : zz54_F4 big a0 b1 (i0 : Int) = res := by
  have key : ∀ (m i : Nat), i ≤ cnt → cnt < m + i → Inv i → zz54_l4 big zz54_a4 m a0 b1 (i : Int) = res := by
    intro m
    induction m with
    | zero => intro i h1 h2 h3; exact absurd h2 (by omega)
    | succ m ih =>
      intro i h1 h2 h3
      rcases Nat.lt_or_ge i cnt with hlt | hge
      · exact hs _ i hlt h3 (fun h4 => ih (i + 1) (by omega) (by omega) h4)
      · obtain rfl : i = cnt := by omega
        exact he _ h3
  exact key big i0 hi (by have := big_ge; omega) h0
theorem zz61_h2 (cnt : Nat) (Inv : Nat → (List (Int × (Int × Unit))) → Int → Prop) {res : Option (Int × ((List (Int × (Int × Unit))) × Unit))} (hn : cnt ≤ 500000000000)
  (hs : ∀ (rc : (List (Int × (Int × Unit))) → Int → Int → Option (Int × ((List (Int × (Int × Unit))) × Unit))) (i : Nat) (a0 : (List (Int × (Int × Unit)))) (k1 : Int), i < cnt → Inv i a0 k1 → (∀ (a0' : (List (Int × (Int × Unit)))) (k1' : Int), Inv (i + 1) a0' k1' → rc a0' k1' ((i + 1 : Nat) : Int) = res) → zz61_b2 (zz61_F5 big rc zz61_a2) zz61_a2 a0 k1 (i : Int) = res)
  (he : ∀ (rc : (List (Int × (Int × Unit))) → Int → Int → Option (Int × ((List (Int × (Int × Unit))) × Unit))) (a0 : (List (Int × (Int × Unit)))) (k1 : Int), Inv cnt a0 k1 → zz61_b2 (zz61_F5 big rc zz61_a2) zz61_a2 a0 k1 (cnt : Int) = res)
  (i0 : Nat) (hi : i0 ≤ cnt) (a0 : (List (Int × (Int × Unit)))) (k1 : Int) (h0 : Inv i0 a0 k1) : zz61_F2 big a0 k1 (i0 : Int) = res := by
  have key : ∀ (m i : Nat) (a0 : (List (Int × (Int × Unit)))) (k1 : Int), i ≤ cnt → cnt < m + i → Inv i a0 k1 → zz61_l2 big zz61_a2 m a0 k1 (i : Int) = res := by
    intro m
    induction m with
    | zero => intro i a0 k1 h1 h2 h3; exact absurd h2 (by omega)
    | succ m ih =>
      intro i a0 k1 h1 h2 h3
      rcases Nat.lt_or_ge i cnt with hlt | hge
      · exact hs _ i a0 k1 hlt h3 (fun a0' k1' h4 => ih (i + 1) a0' k1' (by omega) (by omega) h4)
      · obtain rfl : i = cnt := by omega
        exact he _ a0 k1 h3
  exact key big i0 a0 k1 hi (by have := big_ge; omega) h0
theorem zz61_h5 {rec : (List (Int × (Int × Unit))) → Int → Int → Option (Int × ((List (Int × (Int × Unit))) × Unit))} {k : (List (Int × (Int × Unit))) → Int → Option (Int × ((List (Int × (Int × Unit))) × Unit))} {i5 : Int} (cnt : Nat) (Inv : Nat → (List (Int × (Int × Unit))) → Int → Prop) {res : Option (Int × ((List (Int × (Int × Unit))) × Unit))} (hn : cnt ≤ 500000000000)
  (hs : ∀ (rc : (List (Int × (Int × Unit))) → Int → Int → Int → Option (Int × ((List (Int × (Int × Unit))) × Unit))) (i : Nat) (a0 : (List (Int × (Int × Unit)))) (k1 : Int), i < cnt → Inv i a0 k1 → (∀ (a0' : (List (Int × (Int × Unit)))) (k1' : Int), Inv (i + 1) a0' k1' → rc a0' k1' i5 ((i + 1 : Nat) : Int) = res) → zz61_b5 rc (zz61_a5 rec) a0 k1 i5 (i : Int) = res)
  (he : ∀ (rc : (List (Int × (Int × Unit))) → Int → Int → Int → Option (Int × ((List (Int × (Int × Unit))) × Unit))) (a0 : (List (Int × (Int × Unit)))) (k1 : Int), Inv cnt a0 k1 → zz61_b5 rc (zz61_a5 rec) a0 k1 i5 (cnt : Int) = res)
  (i0 : Nat) (hi : i0 ≤ cnt) (a0 : (List (Int × (Int × Unit)))) (k1 : Int) (h0 : Inv i0 a0 k1) : zz61_F5 big rec k a0 k1 i5 (i0 : Int) = res := by
  have key : ∀ (m i : Nat) (a0 : (List (Int × (Int × Unit)))) (k1 : Int), i ≤ cnt → cnt < m + i → Inv i a0 k1 → zz61_l5 big (zz61_a5 rec) m a0 k1 i5 (i : Int) = res := by
    intro m
    induction m with
    | zero => intro i a0 k1 h1 h2 h3; exact absurd h2 (by omega)
    | succ m ih =>
      intro i a0 k1 h1 h2 h3
      rcases Nat.lt_or_ge i cnt with hlt | hge
      · exact hs _ i a0 k1 hlt h3 (fun a0' k1' h4 => ih (i + 1) a0' k1' (by omega) (by omega) h4)
      · obtain rfl : i = cnt := by omega
        exact he _ a0 k1 h3
  exact key big i0 a0 k1 hi (by have := big_ge; omega) h0
theorem zz62_h2 {a0 : (List (Int × (Int × Unit)))} (cnt : Nat) (Inv : Nat → Int → Prop) {res : Option (Int × Unit)} (hn : cnt ≤ 500000000000)
  (hs : ∀ (rc : (List (Int × (Int × Unit))) → Int → Int → Option (Int × Unit)) (i : Nat) (k1 : Int), i < cnt → Inv i k1 → (∀ (k1' : Int), Inv (i + 1) k1' → rc a0 k1' ((i + 1 : Nat) : Int) = res) → zz62_b2 (zz62_F5 big rc zz62_a2) zz62_a2 a0 k1 (i : Int) = res)
  (he : ∀ (rc : (List (Int × (Int × Unit))) → Int → Int → Option (Int × Unit)) (k1 : Int), Inv cnt k1 → zz62_b2 (zz62_F5 big rc zz62_a2) zz62_a2 a0 k1 (cnt : Int) = res)
  (i0 : Nat) (hi : i0 ≤ cnt) (k1 : Int) (h0 : Inv i0 k1) : zz62_F2 big a0 k1 (i0 : Int) = res := by
  have key : ∀ (m i : Nat) (k1 : Int), i ≤ cnt → cnt < m + i → Inv i k1 → zz62_l2 big zz62_a2 m a0 k1 (i : Int) = res := by
    intro m
    induction m with
    | zero => intro i k1 h1 h2 h3; exact absurd h2 (by omega)
    | succ m ih =>
      intro i k1 h1 h2 h3
      rcases Nat.lt_or_ge i cnt with hlt | hge
      · exact hs _ i k1 hlt h3 (fun k1' h4 => ih (i + 1) k1' (by omega) (by omega) h4)
      · obtain rfl : i = cnt := by omega
        exact he _ k1 h3
  exact key big i0 k1 hi (by have := big_ge; omega) h0
theorem zz62_h5 {rec : (List (Int × (Int × Unit))) → Int → Int → Option (Int × Unit)} {k : Int → Option (Int × Unit)} {a0 : (List (Int × (Int × Unit)))} {i5 : Int} (cnt : Nat) (Inv : Nat → Int → Prop) {res : Option (Int × Unit)} (hn : cnt ≤ 500000000000)
  (hs : ∀ (rc : (List (Int × (Int × Unit))) → Int → Int → Int → Option (Int × Unit)) (i : Nat) (k1 : Int), i < cnt → Inv i k1 → (∀ (k1' : Int), Inv (i + 1) k1' → rc a0 k1' i5 ((i + 1 : Nat) : Int) = res) → zz62_b5 rc (zz62_a5 rec) a0 k1 i5 (i : Int) = res)
  (he : ∀ (rc : (List (Int × (Int × Unit))) → Int → Int → Int → Option (Int × Unit)) (k1 : Int), Inv cnt k1 → zz62_b5 rc (zz62_a5 rec) a0 k1 i5 (cnt : Int) = res)
  (i0 : Nat) (hi : i0 ≤ cnt) (k1 : Int) (h0 : Inv i0 k1) : zz62_F5 big rec k a0 k1 i5 (i0 : Int) = res := by
  have key : ∀ (m i : Nat) (k1 : Int), i ≤ cnt → cnt < m + i → Inv i k1 → zz62_l5 big (zz62_a5 rec) m a0 k1 i5 (i : Int) = res := by
    intro m
    induction m with
    | zero => intro i k1 h1 h2 h3; exact absurd h2 (by omega)
    | succ m ih =>
      intro i k1 h1 h2 h3
      rcases Nat.lt_or_ge i cnt with hlt | hge
      · exact hs _ i k1 hlt h3 (fun k1' h4 => ih (i + 1) k1' (by omega) (by omega) h4)
      · obtain rfl : i = cnt := by omega
        exact he _ k1 h3
  exact key big i0 k1 hi (by have := big_ge; omega) h0
end Go.Proofs.Yteamfbmkphjcjaa
