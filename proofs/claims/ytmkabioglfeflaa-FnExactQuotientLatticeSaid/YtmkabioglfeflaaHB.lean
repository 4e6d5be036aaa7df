import Derived.Test.YtmkabioglfeflaaPLib
import Derived.Test.YtmkabioglfeflaaGB
set_option linter.unusedVariables false
namespace Go.Proofs.Ytmkabioglfeflaa
open Go Go.Gx Go.Proofs

/-! rules for the loops -/
theorem zz4_h3 {a0 : Y3} (cnt : Nat) (Inv : Nat → Y3 → Prop) {res : Option Y2} (hn : cnt ≤ 500000000000)
  (hs : ∀ (rc : Y3 → Y3 → Int → Option Y2) (i : Nat) (out3 : Y3), i < cnt → Inv i out3 → (∀ (out3' : Y3), Inv (i + 1) out3' → rc a0 out3' ((i + 1 : Nat) : Int) = res) → zz4_b3 rc zz4_a3 a0 out3 (i : Int) = res)
  (he : ∀ (rc : Y3 → Y3 → Int → Option Y2) (out3 : Y3), Inv cnt out3 → zz4_b3 rc zz4_a3 a0 out3 (cnt : Int) = res)
  (i0 : Nat) (hi : i0 ≤ cnt) (out3 : Y3) (h0 : Inv i0 out3) : zz4_F3 big a0 out3 (i0 : Int) = res := by
  have key : ∀ (m i : Nat) (out3 : Y3), i ≤ cnt → cnt < m + i → Inv i out3 → zz4_l3 big zz4_a3 m a0 out3 (i : Int) = res := by
    intro m
    induction m with
    | zero => intro i out3 h1 h2 h3; exact absurd h2 (by omega)
    | succ m ih =>
      intro i out3 h1 h2 h3
      rcases Nat.lt_or_ge i cnt with hlt | hge
      · exact hs _ i out3 hlt h3 (fun out3' h4 => ih (i + 1) out3' (by omega) (by omega) h4)
      · obtain rfl : i = cnt := by omega
        exact he _ out3 h3
  exact key big i0 out3 hi (by have := big_ge; omega) h0
theorem zz8_h2 {l0 : Y4} {n1 : Int} (cnt : Nat) (Inv : Nat → Prop) {res : Option (Bool × Unit)} (hn : cnt ≤ 500000000000)
  (hs : ∀ (rc : Y4 → Int → Int → Option (Bool × Unit)) (i : Nat), i < cnt → Inv i → (Inv (i + 1) → rc l0 n1 ((i + 1 : Nat) : Int) = res) → zz8_b2 rc zz8_a2 l0 n1 (i : Int) = res)
  (he : ∀ (rc : Y4 → Int → Int → Option (Bool × Unit)), Inv cnt → zz8_b2 rc zz8_a2 l0 n1 (cnt : Int) = res)
  (i0 : Nat) (hi : i0 ≤ cnt) (h0 : Inv i0) : zz8_F2 big l0 n1 (i0 : Int) = res := by
  have key : ∀ (m i : Nat), i ≤ cnt → cnt < m + i → Inv i → zz8_l2 big zz8_a2 m l0 n1 (i : Int) = res := by
    intro m
    induction m with
    | zero => intro i h1 h2 h3; exact absurd h2 (by omega)
    | succ m ih =>
      intro i h1 h2 h3
      rcases Nat.lt_or_ge i cnt with hlt | hge
      · exact hs _ i hlt h3 (fun h4 => ih (i + 1) (by omega) (by omega) h4)
      · obtain rfl : i = cnt := by omega
        exact he _ h3
  exact key big i0 hi (by have := big_ge; omega) h0
theorem zz9_h2 {x0 : Y4} {y1 : Y4} (cnt : Nat) (Inv : Nat → Prop) {res : Option (Bool × Unit)} (hn : cnt ≤ 500000000000)
  (hs : ∀ (rc : Y4 → Y4 → Int → Option (Bool × Unit)) (i : Nat), i < cnt → Inv i → (Inv (i + 1) → rc x0 y1 ((i + 1 : Nat) : Int) = res) → zz9_b2 rc zz9_a2 x0 y1 (i : Int) = res)
  (he : ∀ (rc : Y4 → Y4 → Int → Option (Bool × Unit)), Inv cnt → zz9_b2 rc zz9_a2 x0 y1 (cnt : Int) = res)
  (i0 : Nat) (hi : i0 ≤ cnt) (h0 : Inv i0) : zz9_F2 big x0 y1 (i0 : Int) = res := by
  have key : ∀ (m i : Nat), i ≤ cnt → cnt < m + i → Inv i → zz9_l2 big zz9_a2 m x0 y1 (i : Int) = res := by
    intro m
    induction m with
    | zero => intro i h1 h2 h3; exact absurd h2 (by omega)
    | succ m ih =>
      intro i h1 h2 h3
      rcases Nat.lt_or_ge i cnt with hlt | hge
      · exact hs _ i hlt h3 (fun h4 => ih (i + 1) (by omega) (by omega) h4)
      · obtain rfl : i = cnt := by omega
        exact he _ h3
  exact key big i0 hi (by have := big_ge; omega) h0
theorem zz10_h5 {p1 : Y2} {n3 : Int} (cnt : Nat) (Inv : Nat → Prop) {res : Option (Bool × Unit)} (hn : cnt ≤ 500000000000)
  (hs : ∀ (rc : Y2 → Int → Int → Option (Bool × Unit)) (i : Nat), i < cnt → Inv i → (Inv (i + 1) → rc p1 n3 ((i + 1 : Nat) : Int) = res) → zz10_b5 rc (zz10_a5 (zz10_F10 big)) p1 n3 (i : Int) = res)
  (he : ∀ (rc : Y2 → Int → Int → Option (Bool × Unit)), Inv cnt → zz10_b5 rc (zz10_a5 (zz10_F10 big)) p1 n3 (cnt : Int) = res)
  (i0 : Nat) (hi : i0 ≤ cnt) (h0 : Inv i0) : zz10_F5 big p1 n3 (i0 : Int) = res := by
  have key : ∀ (m i : Nat), i ≤ cnt → cnt < m + i → Inv i → zz10_l5 big (zz10_a5 (zz10_F10 big)) m p1 n3 (i : Int) = res := by
    intro m
    induction m with
    | zero => intro i h1 h2 h3; exact absurd h2 (by omega)
    | succ m ih =>
      intro i h1 h2 h3
      rcases Nat.lt_or_ge i cnt with hlt | hge
      · exact hs _ i hlt h3 (fun h4 => ih (i + 1) (by omega) (by omega) h4)
      · obtain rfl : i = cnt := by omega
        exact he _ h3
  exact key big i0 hi (by have := big_ge; omega) h0
theorem zz10_h10 {p1 : Y2} {n3 : Int} (cnt : Nat) (Inv : Nat → Prop) {res : Option (Bool × Unit)} (hn : cnt ≤ 500000000000)
  (hs : ∀ (rc : Y2 → Int → Int → Option (Bool × Unit)) (i : Nat), i < cnt → Inv i → (Inv (i + 1) → rc p1 n3 ((i + 1 : Nat) : Int) = res) → zz10_b10 (zz10_F13 big rc zz10_a10) zz10_a10 p1 n3 (i : Int) = res)
  (he : ∀ (rc : Y2 → Int → Int → Option (Bool × Unit)), Inv cnt → zz10_b10 (zz10_F13 big rc zz10_a10) zz10_a10 p1 n3 (cnt : Int) = res)
  (i0 : Nat) (hi : i0 ≤ cnt) (h0 : Inv i0) : zz10_F10 big p1 n3 (i0 : Int) = res := by
  have key : ∀ (m i : Nat), i ≤ cnt → cnt < m + i → Inv i → zz10_l10 big zz10_a10 m p1 n3 (i : Int) = res := by
    intro m
    induction m with
    | zero => intro i h1 h2 h3; exact absurd h2 (by omega)
    | succ m ih =>
      intro i h1 h2 h3
      rcases Nat.lt_or_ge i cnt with hlt | hge
      · exact hs _ i hlt h3 (fun h4 => ih (i + 1) (by omega) (by omega) h4)
      · obtain rfl : i = cnt := by omega
        exact he _ h3
  exact key big i0 hi (by have := big_ge; omega) h0
theorem zz10_h13 {rec : Y2 → Int → Int → Option (Bool × Unit)} {k : Option (Bool × Unit)} {p1 : Y2} {n3 : Int} {x5 : Int} (cnt : Nat) (Inv : Nat → Prop) {res : Option (Bool × Unit)} (hn : cnt ≤ 500000000000)
  (hs : ∀ (rc : Y2 → Int → Int → Int → Option (Bool × Unit)) (i : Nat), i < cnt → Inv i → (Inv (i + 1) → rc p1 n3 x5 ((i + 1 : Nat) : Int) = res) → zz10_b13 rc (zz10_a13 rec) p1 n3 x5 (i : Int) = res)
  (he : ∀ (rc : Y2 → Int → Int → Int → Option (Bool × Unit)), Inv cnt → zz10_b13 rc (zz10_a13 rec) p1 n3 x5 (cnt : Int) = res)
  (i0 : Nat) (hi : i0 ≤ cnt) (h0 : Inv i0) : zz10_F13 big rec k p1 n3 x5 (i0 : Int) = res := by
  have key : ∀ (m i : Nat), i ≤ cnt → cnt < m + i → Inv i → zz10_l13 big (zz10_a13 rec) m p1 n3 x5 (i : Int) = res := by
    intro m
    induction m with
    | zero => intro i h1 h2 h3; exact absurd h2 (by omega)
    | succ m ih =>
      intro i h1 h2 h3
      rcases Nat.lt_or_ge i cnt with hlt | hge
      · exact hs _ i hlt h3 (fun h4 => ih (i + 1) (by omega) (by omega) h4)
      · obtain rfl : i = cnt := by omega
        exact he _ h3
  exact key big i0 hi (by have := big_ge; omega) h0
theorem zz12_h3 {p1 : Y2} {t2 : Y2} (cnt : Nat) (Inv : Nat → Y2 → Prop) {res : Option (Y2 × Unit)} (hn : cnt ≤ 500000000000)
  (hs : ∀ (rc : Y2 → Y2 → Y2 → Int → Option (Y2 × Unit)) (i : Nat) (out3 : Y2), i < cnt → Inv i out3 → (∀ (out3' : Y2), Inv (i + 1) out3' → rc p1 t2 out3' ((i + 1 : Nat) : Int) = res) → zz12_b3 (zz12_F7 big rc zz12_a3) zz12_a3 p1 t2 out3 (i : Int) = res)
  (he : ∀ (rc : Y2 → Y2 → Y2 → Int → Option (Y2 × Unit)) (out3 : Y2), Inv cnt out3 → zz12_b3 (zz12_F7 big rc zz12_a3) zz12_a3 p1 t2 out3 (cnt : Int) = res)
  (i0 : Nat) (hi : i0 ≤ cnt) (out3 : Y2) (h0 : Inv i0 out3) : zz12_F3 big p1 t2 out3 (i0 : Int) = res := by
  have key : ∀ (m i : Nat) (out3 : Y2), i ≤ cnt → cnt < m + i → Inv i out3 → zz12_l3 big zz12_a3 m p1 t2 out3 (i : Int) = res := by
    intro m
    induction m with
    | zero => intro i out3 h1 h2 h3; exact absurd h2 (by omega)
    | succ m ih =>
      intro i out3 h1 h2 h3
      rcases Nat.lt_or_ge i cnt with hlt | hge
      · exact hs _ i out3 hlt h3 (fun out3' h4 => ih (i + 1) out3' (by omega) (by omega) h4)
      · obtain rfl : i = cnt := by omega
        exact he _ out3 h3
  exact key big i0 out3 hi (by have := big_ge; omega) h0
theorem zz12_h7 {rec : Y2 → Y2 → Y2 → Int → Option (Y2 × Unit)} {k : Y2 → Y2 → Option (Y2 × Unit)} {p1 : Y2} {t2 : Y2} {out3 : Y2} {x4 : Int} (cnt : Nat) (Inv : Nat → Y4 → Prop) {res : Option (Y2 × Unit)} (hn : cnt ≤ 500000000000)
  (hs : ∀ (rc : Y2 → Y2 → Y2 → Int → Y4 → Int → Option (Y2 × Unit)) (i : Nat) (below5 : Y4), i < cnt → Inv i below5 → (∀ (below5' : Y4), Inv (i + 1) below5' → rc p1 t2 out3 x4 below5' ((i + 1 : Nat) : Int) = res) → zz12_b7 rc (zz12_a7 rec) p1 t2 out3 x4 below5 (i : Int) = res)
  (he : ∀ (rc : Y2 → Y2 → Y2 → Int → Y4 → Int → Option (Y2 × Unit)) (below5 : Y4), Inv cnt below5 → zz12_b7 rc (zz12_a7 rec) p1 t2 out3 x4 below5 (cnt : Int) = res)
  (i0 : Nat) (hi : i0 ≤ cnt) (below5 : Y4) (h0 : Inv i0 below5) : zz12_F7 big rec k p1 t2 out3 x4 below5 (i0 : Int) = res := by
  have key : ∀ (m i : Nat) (below5 : Y4), i ≤ cnt → cnt < m + i → Inv i below5 → zz12_l7 big (zz12_a7 rec) m p1 t2 out3 x4 below5 (i : Int) = res := by
    intro m
    induction m with
    | zero => intro i below5 h1 h2 h3; exact absurd h2 (by omega)
    | succ m ih =>
      intro i below5 h1 h2 h3
      rcases Nat.lt_or_ge i cnt with hlt | hge
      · exact hs _ i below5 hlt h3 (fun below5' h4 => ih (i + 1) below5' (by omega) (by omega) h4)
      · obtain rfl : i = cnt := by omega
        exact he _ below5 h3
  exact key big i0 below5 hi (by have := big_ge; omega) h0
theorem zz13_h3 {some1 : Y4} {p2 : Y2} (cnt : Nat) (Inv : Nat → Y4 → Prop) {res : Option (Int × Unit)} (hn : cnt ≤ 500000000000)
  (hs : ∀ (rc : Y4 → Y2 → Y4 → Int → Option (Int × Unit)) (i : Nat) (low5 : Y4), i < cnt → Inv i low5 → (∀ (low5' : Y4), Inv (i + 1) low5' → rc some1 p2 low5' ((i + 1 : Nat) : Int) = res) → zz13_b3 (zz13_F7 big rc (zz13_a3 (zz13_F13 big))) (zz13_a3 (zz13_F13 big)) some1 p2 low5 (i : Int) = res)
  (he : ∀ (rc : Y4 → Y2 → Y4 → Int → Option (Int × Unit)) (low5 : Y4), Inv cnt low5 → zz13_b3 (zz13_F7 big rc (zz13_a3 (zz13_F13 big))) (zz13_a3 (zz13_F13 big)) some1 p2 low5 (cnt : Int) = res)
  (i0 : Nat) (hi : i0 ≤ cnt) (low5 : Y4) (h0 : Inv i0 low5) : zz13_F3 big some1 p2 low5 (i0 : Int) = res := by
  have key : ∀ (m i : Nat) (low5 : Y4), i ≤ cnt → cnt < m + i → Inv i low5 → zz13_l3 big (zz13_a3 (zz13_F13 big)) m some1 p2 low5 (i : Int) = res := by
    intro m
    induction m with
    | zero => intro i low5 h1 h2 h3; exact absurd h2 (by omega)
    | succ m ih =>
      intro i low5 h1 h2 h3
      rcases Nat.lt_or_ge i cnt with hlt | hge
      · exact hs _ i low5 hlt h3 (fun low5' h4 => ih (i + 1) low5' (by omega) (by omega) h4)
      · obtain rfl : i = cnt := by omega
        exact he _ low5 h3
  exact key big i0 low5 hi (by have := big_ge; omega) h0
theorem zz13_h7 {rec : Y4 → Y2 → Y4 → Int → Option (Int × Unit)} {k : Y2 → Y4 → Option (Int × Unit)} {some1 : Y4} {p2 : Y2} {low5 : Y4} {z6 : Int} (cnt : Nat) (Inv : Nat → Bool → Prop) {res : Option (Int × Unit)} (hn : cnt ≤ 500000000000)
  (hs : ∀ (rc : Y4 → Y2 → Y4 → Int → Bool → Int → Option (Int × Unit)) (i : Nat) (all7 : Bool), i < cnt → Inv i all7 → (∀ (all7' : Bool), Inv (i + 1) all7' → rc some1 p2 low5 z6 all7' ((i + 1 : Nat) : Int) = res) → zz13_b7 rc (zz13_a7 rec) some1 p2 low5 z6 all7 (i : Int) = res)
  (he : ∀ (rc : Y4 → Y2 → Y4 → Int → Bool → Int → Option (Int × Unit)) (all7 : Bool), Inv cnt all7 → zz13_b7 rc (zz13_a7 rec) some1 p2 low5 z6 all7 (cnt : Int) = res)
  (i0 : Nat) (hi : i0 ≤ cnt) (all7 : Bool) (h0 : Inv i0 all7) : zz13_F7 big rec k some1 p2 low5 z6 all7 (i0 : Int) = res := by
  have key : ∀ (m i : Nat) (all7 : Bool), i ≤ cnt → cnt < m + i → Inv i all7 → zz13_l7 big (zz13_a7 rec) m some1 p2 low5 z6 all7 (i : Int) = res := by
    intro m
    induction m with
    | zero => intro i all7 h1 h2 h3; exact absurd h2 (by omega)
    | succ m ih =>
      intro i all7 h1 h2 h3
      rcases Nat.lt_or_ge i cnt with hlt | hge
      · exact hs _ i all7 hlt h3 (fun all7' h4 => ih (i + 1) all7' (by omega) (by omega) h4)
      · obtain rfl : i = cnt := by omega
        exact he _ all7 h3
  exact key big i0 all7 hi (by have := big_ge; omega) h0
theorem zz13_h13 {p2 : Y2} {low5 : Y4} (cnt : Nat) (Inv : Nat → Prop) {res : Option (Int × Unit)} (hn : cnt ≤ 500000000000)
  (hs : ∀ (rc : Y2 → Y4 → Int → Option (Int × Unit)) (i : Nat), i < cnt → Inv i → (Inv (i + 1) → rc p2 low5 ((i + 1 : Nat) : Int) = res) → zz13_b13 rc zz13_a13 p2 low5 (i : Int) = res)
  (he : ∀ (rc : Y2 → Y4 → Int → Option (Int × Unit)), Inv cnt → zz13_b13 rc zz13_a13 p2 low5 (cnt : Int) = res)
  (i0 : Nat) (hi : i0 ≤ cnt) (h0 : Inv i0) : zz13_F13 big p2 low5 (i0 : Int) = res := by
  have key : ∀ (m i : Nat), i ≤ cnt → cnt < m + i → Inv i → zz13_l13 big zz13_a13 m p2 low5 (i : Int) = res := by
    intro m
    induction m with
    | zero => intro i h1 h2 h3; exact absurd h2 (by omega)
    | succ m ih =>
      intro i h1 h2 h3
      rcases Nat.lt_or_ge i cnt with hlt | hge
      · exact hs _ i hlt h3 (fun h4 => ih (i + 1) (by omega) (by omega) h4)
      · obtain rfl : i = cnt := by omega
        exact he _ h3
  exact key big i0 hi (by have := big_ge; omega) h0
theorem zz14_h5 {p1 : Y2} {dual3 : Y2} (cnt : Nat) (Inv : Nat → Prop) {res : Option (Bool × Unit)} (hn : cnt ≤ 500000000000)
  (hs : ∀ (rc : Y2 → Y2 → Int → Option (Bool × Unit)) (i : Nat), i < cnt → Inv i → (Inv (i + 1) → rc p1 dual3 ((i + 1 : Nat) : Int) = res) → zz14_b5 (zz14_F8 big rc zz14_a5) zz14_a5 p1 dual3 (i : Int) = res)
  (he : ∀ (rc : Y2 → Y2 → Int → Option (Bool × Unit)), Inv cnt → zz14_b5 (zz14_F8 big rc zz14_a5) zz14_a5 p1 dual3 (cnt : Int) = res)
  (i0 : Nat) (hi : i0 ≤ cnt) (h0 : Inv i0) : zz14_F5 big p1 dual3 (i0 : Int) = res := by
  have key : ∀ (m i : Nat), i ≤ cnt → cnt < m + i → Inv i → zz14_l5 big zz14_a5 m p1 dual3 (i : Int) = res := by
    intro m
    induction m with
    | zero => intro i h1 h2 h3; exact absurd h2 (by omega)
    | succ m ih =>
      intro i h1 h2 h3
      rcases Nat.lt_or_ge i cnt with hlt | hge
      · exact hs _ i hlt h3 (fun h4 => ih (i + 1) (by omega) (by omega) h4)
      · obtain rfl : i = cnt := by omega
        exact he _ h3
  exact key big i0 hi (by have := big_ge; omega) h0
theorem zz14_h8 {rec : Y2 → Y2 → Int → Option (Bool × Unit)} {k : Option (Bool × Unit)} {p1 : Y2} {dual3 : Y2} {x4 : Int} (cnt : Nat) (Inv : Nat → Prop) {res : Option (Bool × Unit)} (hn : cnt ≤ 500000000000)
  (hs : ∀ (rc : Y2 → Y2 → Int → Int → Option (Bool × Unit)) (i : Nat), i < cnt → Inv i → (Inv (i + 1) → rc p1 dual3 x4 ((i + 1 : Nat) : Int) = res) → zz14_b8 rc (zz14_a8 rec) p1 dual3 x4 (i : Int) = res)
  (he : ∀ (rc : Y2 → Y2 → Int → Int → Option (Bool × Unit)), Inv cnt → zz14_b8 rc (zz14_a8 rec) p1 dual3 x4 (cnt : Int) = res)
  (i0 : Nat) (hi : i0 ≤ cnt) (h0 : Inv i0) : zz14_F8 big rec k p1 dual3 x4 (i0 : Int) = res := by
  have key : ∀ (m i : Nat), i ≤ cnt → cnt < m + i → Inv i → zz14_l8 big (zz14_a8 rec) m p1 dual3 x4 (i : Int) = res := by
    intro m
    induction m with
    | zero => intro i h1 h2 h3; exact absurd h2 (by omega)
    | succ m ih =>
      intro i h1 h2 h3
      rcases Nat.lt_or_ge i cnt with hlt | hge
      · exact hs _ i hlt h3 (fun h4 => ih (i + 1) (by omega) (by omega) h4)
      · obtain rfl : i = cnt := by omega
        exact he _ h3
  exact key big i0 hi (by have := big_ge; omega) h0
theorem zz16_h5 {p1 : Y2} {t2 : Y7} {n3 : Int} {dual4 : Y2} (cnt : Nat) (Inv : Nat → Y6 → Y6 → Prop) {res : Option (Y7 × Unit)} (hn : cnt ≤ 500000000000)
  (hs : ∀ (rc : Y2 → Y7 → Int → Y2 → Y6 → Y6 → Int → Option (Y7 × Unit)) (i : Nat) (meet5 : Y6) (join6 : Y6), i < cnt → Inv i meet5 join6 → (∀ (meet5' : Y6) (join6' : Y6), Inv (i + 1) meet5' join6' → rc p1 t2 n3 dual4 meet5' join6' ((i + 1 : Nat) : Int) = res) → zz16_b5 (zz16_F8 big rc zz16_a5) zz16_a5 p1 t2 n3 dual4 meet5 join6 (i : Int) = res)
  (he : ∀ (rc : Y2 → Y7 → Int → Y2 → Y6 → Y6 → Int → Option (Y7 × Unit)) (meet5 : Y6) (join6 : Y6), Inv cnt meet5 join6 → zz16_b5 (zz16_F8 big rc zz16_a5) zz16_a5 p1 t2 n3 dual4 meet5 join6 (cnt : Int) = res)
  (i0 : Nat) (hi : i0 ≤ cnt) (meet5 : Y6) (join6 : Y6) (h0 : Inv i0 meet5 join6) : zz16_F5 big p1 t2 n3 dual4 meet5 join6 (i0 : Int) = res := by
  have key : ∀ (m i : Nat) (meet5 : Y6) (join6 : Y6), i ≤ cnt → cnt < m + i → Inv i meet5 join6 → zz16_l5 big zz16_a5 m p1 t2 n3 dual4 meet5 join6 (i : Int) = res := by
    intro m
    induction m with
    | zero => intro i meet5 join6 h1 h2 h3; exact absurd h2 (by omega)
    | succ m ih =>
      intro i meet5 join6 h1 h2 h3
      rcases Nat.lt_or_ge i cnt with hlt | hge
      · exact hs _ i meet5 join6 hlt h3 (fun meet5' join6' h4 => ih (i + 1) meet5' join6' (by omega) (by omega) h4)
      · obtain rfl : i = cnt := by omega
        exact he _ meet5 join6 h3
  exact key big i0 meet5 join6 hi (by have := big_ge; omega) h0
theorem zz16_h8 {rec : Y2 → Y7 → Int → Y2 → Y6 → Y6 → Int → Option (Y7 × Unit)} {k : Y7 → Int → Y6 → Y6 → Option (Y7 × Unit)} {p1 : Y2} {t2 : Y7} {n3 : Int} {dual4 : Y2} {x7 : Int} (cnt : Nat) (Inv : Nat → Y6 → Y6 → Prop) {res : Option (Y7 × Unit)} (hn : cnt ≤ 500000000000)
  (hs : ∀ (rc : Y2 → Y7 → Int → Y2 → Y6 → Y6 → Int → Int → Option (Y7 × Unit)) (i : Nat) (meet5 : Y6) (join6 : Y6), i < cnt → Inv i meet5 join6 → (∀ (meet5' : Y6) (join6' : Y6), Inv (i + 1) meet5' join6' → rc p1 t2 n3 dual4 meet5' join6' x7 ((i + 1 : Nat) : Int) = res) → zz16_b8 rc (zz16_a8 rec) p1 t2 n3 dual4 meet5 join6 x7 (i : Int) = res)
  (he : ∀ (rc : Y2 → Y7 → Int → Y2 → Y6 → Y6 → Int → Int → Option (Y7 × Unit)) (meet5 : Y6) (join6 : Y6), Inv cnt meet5 join6 → zz16_b8 rc (zz16_a8 rec) p1 t2 n3 dual4 meet5 join6 x7 (cnt : Int) = res)
  (i0 : Nat) (hi : i0 ≤ cnt) (meet5 : Y6) (join6 : Y6) (h0 : Inv i0 meet5 join6) : zz16_F8 big rec k p1 t2 n3 dual4 meet5 join6 x7 (i0 : Int) = res := by
  have key : ∀ (m i : Nat) (meet5 : Y6) (join6 : Y6), i ≤ cnt → cnt < m + i → Inv i meet5 join6 → zz16_l8 big (zz16_a8 rec) m p1 t2 n3 dual4 meet5 join6 x7 (i : Int) = res := by
    intro m
    induction m with
    | zero => intro i meet5 join6 h1 h2 h3; exact absurd h2 (by omega)
    | succ m ih =>
      intro i meet5 join6 h1 h2 h3
      rcases Nat.lt_or_ge i cnt with hlt | hge
      · exact hs _ i meet5 join6 hlt h3 (fun meet5' join6' h4 => ih (i + 1) meet5' join6' (by omega) (by omega) h4)
      · obtain rfl : i = cnt := by omega
        exact he _ meet5 join6 h3
  exact key big i0 meet5 join6 hi (by have := big_ge; omega) h0
theorem zz17_h4 {n0 : Int} {p1 : Y4} (cnt : Nat) (Inv : Nat → Prop) {res : Option (Bool × Unit)} (hn : cnt ≤ 500000000000)
  (hs : ∀ (rc : Int → Y4 → Int → Option (Bool × Unit)) (i : Nat), i < cnt → Inv i → (Inv (i + 1) → rc n0 p1 ((i + 1 : Nat) : Int) = res) → zz17_b4 rc zz17_a4 n0 p1 (i : Int) = res)
  (he : ∀ (rc : Int → Y4 → Int → Option (Bool × Unit)), Inv cnt → zz17_b4 rc zz17_a4 n0 p1 (cnt : Int) = res)
  (i0 : Nat) (hi : i0 ≤ cnt) (h0 : Inv i0) : zz17_F4 big n0 p1 (i0 : Int) = res := by
  have key : ∀ (m i : Nat), i ≤ cnt → cnt < m + i → Inv i → zz17_l4 big zz17_a4 m n0 p1 (i : Int) = res := by
    intro m
    induction m with
    | zero => intro i h1 h2 h3; exact absurd h2 (by omega)
    | succ m ih =>
      intro i h1 h2 h3
      rcases Nat.lt_or_ge i cnt with hlt | hge
      · exact hs _ i hlt h3 (fun h4 => ih (i + 1) (by omega) (by omega) h4)
      · obtain rfl : i = cnt := by omega
        exact he _ h3
  exact key big i0 hi (by have := big_ge; omega) h0
theorem zz19_w3 {n0 : Int} (mu : Int → Y4 → Int → Nat) (Inv : Int → Y4 → Int → Prop) {res : Option (Y4 × Unit)}
  (hs : ∀ (rc : Int → Int → Y4 → Int → Option (Y4 × Unit)) (at2 : Int) (out7 : Y4) (i8 : Int), Inv at2 out7 i8 → (∀ (at2' : Int) (out7' : Y4) (i8' : Int), Inv at2' out7' i8' → mu at2' out7' i8' < mu at2 out7 i8 → rc n0 at2' out7' i8' = res) → zz19_b3 rc zz19_a3 n0 at2 out7 i8 = res)
  (at2 : Int) (out7 : Y4) (i8 : Int) (hm : mu at2 out7 i8 ≤ 500000000000) (h0 : Inv at2 out7 i8) : zz19_F3 big n0 at2 out7 i8 = res := by
  have key : ∀ (m : Nat) (at2 : Int) (out7 : Y4) (i8 : Int), mu at2 out7 i8 < m → Inv at2 out7 i8 → zz19_l3 big zz19_a3 m n0 at2 out7 i8 = res := by
    intro m
    induction m with
    | zero => intro at2 out7 i8 h2 h3; exact absurd h2 (by omega)
    | succ m ih =>
      intro at2 out7 i8 h2 h3
      exact hs _ at2 out7 i8 h3 (fun at2' out7' i8' h4 h5 => ih at2' out7' i8' (by omega) h4)
  exact key big at2 out7 i8 (by have := big_ge; omega) h0
theorem zz20_h3 {op1 : Int} {args2 : Y4} {a3 : Y7} (cnt : Nat) (Inv : Nat → Int → Prop) {res : Option (Int × Unit)} (hn : cnt ≤ 500000000000)
  (hs : ∀ (rc : Int → Y4 → Y7 → Int → Int → Option (Int × Unit)) (i : Nat) (at7 : Int), i < cnt → Inv i at7 → (∀ (at7' : Int), Inv (i + 1) at7' → rc op1 args2 a3 at7' ((i + 1 : Nat) : Int) = res) → zz20_b3 rc zz20_a3 op1 args2 a3 at7 (i : Int) = res)
  (he : ∀ (rc : Int → Y4 → Y7 → Int → Int → Option (Int × Unit)) (at7 : Int), Inv cnt at7 → zz20_b3 rc zz20_a3 op1 args2 a3 at7 (cnt : Int) = res)
  (i0 : Nat) (hi : i0 ≤ cnt) (at7 : Int) (h0 : Inv i0 at7) : zz20_F3 big op1 args2 a3 at7 (i0 : Int) = res := by
  have key : ∀ (m i : Nat) (at7 : Int), i ≤ cnt → cnt < m + i → Inv i at7 → zz20_l3 big zz20_a3 m op1 args2 a3 at7 (i : Int) = res := by
    intro m
    induction m with
    | zero => intro i at7 h1 h2 h3; exact absurd h2 (by omega)
    | succ m ih =>
      intro i at7 h1 h2 h3
      rcases Nat.lt_or_ge i cnt with hlt | hge
      · exact hs _ i at7 hlt h3 (fun at7' h4 => ih (i + 1) at7' (by omega) (by omega) h4)
      · obtain rfl : i = cnt := by omega
        exact he _ at7 h3
  exact key big i0 at7 hi (by have := big_ge; omega) h0
theorem zz23_h4 {p0 : Y4} {low7 : Int} {high8 : Int} (cnt : Nat) (Inv : Nat → Y4 → Prop) {res : Option (Y4 × Unit)} (hn : cnt ≤ 500000000000)
  (hs : ∀ (rc : Y4 → Int → Int → Y4 → Int → Option (Y4 × Unit)) (i : Nat) (out9 : Y4), i < cnt → Inv i out9 → (∀ (out9' : Y4), Inv (i + 1) out9' → rc p0 low7 high8 out9' ((i + 1 : Nat) : Int) = res) → zz23_b4 rc zz23_a4 p0 low7 high8 out9 (i : Int) = res)
  (he : ∀ (rc : Y4 → Int → Int → Y4 → Int → Option (Y4 × Unit)) (out9 : Y4), Inv cnt out9 → zz23_b4 rc zz23_a4 p0 low7 high8 out9 (cnt : Int) = res)
  (i0 : Nat) (hi : i0 ≤ cnt) (out9 : Y4) (h0 : Inv i0 out9) : zz23_F4 big p0 low7 high8 out9 (i0 : Int) = res := by
  have key : ∀ (m i : Nat) (out9 : Y4), i ≤ cnt → cnt < m + i → Inv i out9 → zz23_l4 big zz23_a4 m p0 low7 high8 out9 (i : Int) = res := by
    intro m
    induction m with
    | zero => intro i out9 h1 h2 h3; exact absurd h2 (by omega)
    | succ m ih =>
      intro i out9 h1 h2 h3
      rcases Nat.lt_or_ge i cnt with hlt | hge
      · exact hs _ i out9 hlt h3 (fun out9' h4 => ih (i + 1) out9' (by omega) (by omega) h4)
      · obtain rfl : i = cnt := by omega
        exact he _ out9 h3
  exact key big i0 out9 hi (by have := big_ge; omega) h0
theorem zz24_q3 {p1 : Y4} {a2 : Y7} (cnt : Nat) (Inv : Nat → Y4 → Prop) {Q : Option (Y4 × Unit) → Prop} (hn : cnt ≤ 500000000000)
  (hs : ∀ (rc : Y4 → Y7 → Y4 → Int → Option (Y4 × Unit)) (i : Nat) (out5 : Y4), i < cnt → Inv i out5 → (∀ (out5' : Y4), Inv (i + 1) out5' → Q (rc p1 a2 out5' ((i + 1 : Nat) : Int))) → Q (zz24_b3 (zz24_F6 big rc zz24_a3) zz24_a3 p1 a2 out5 (i : Int)))
  (he : ∀ (rc : Y4 → Y7 → Y4 → Int → Option (Y4 × Unit)) (out5 : Y4), Inv cnt out5 → Q (zz24_b3 (zz24_F6 big rc zz24_a3) zz24_a3 p1 a2 out5 (cnt : Int)))
  (i0 : Nat) (hi : i0 ≤ cnt) (out5 : Y4) (h0 : Inv i0 out5) : Q (zz24_F3 big p1 a2 out5 (i0 : Int)) := by
  have key : ∀ (m i : Nat) (out5 : Y4), i ≤ cnt → cnt < m + i → Inv i out5 → Q (zz24_l3 big zz24_a3 m p1 a2 out5 (i : Int)) := by
    intro m
    induction m with
    | zero => intro i out5 h1 h2 h3; exact absurd h2 (by omega)
    | succ m ih =>
      intro i out5 h1 h2 h3
      rcases Nat.lt_or_ge i cnt with hlt | hge
      · exact hs _ i out5 hlt h3 (fun out5' h4 => ih (i + 1) out5' (by omega) (by omega) h4)
      · obtain rfl : i = cnt := by omega
        exact he _ out5 h3
  exact key big i0 out5 hi (by have := big_ge; omega) h0
theorem zz24_q6 {rec : Y4 → Y7 → Y4 → Int → Option (Y4 × Unit)} {k : Y4 → Option (Y4 × Unit)} {p1 : Y4} {a2 : Y7} {op6 : Int} (cnt : Nat) (Inv : Nat → Y4 → Prop) {Q : Option (Y4 × Unit) → Prop} (hn : cnt ≤ 500000000000)
  (hs : ∀ (rc : Y4 → Y7 → Y4 → Int → Int → Option (Y4 × Unit)) (i : Nat) (out5 : Y4), i < cnt → Inv i out5 → (∀ (out5' : Y4), Inv (i + 1) out5' → Q (rc p1 a2 out5' op6 ((i + 1 : Nat) : Int))) → Q (zz24_b6 (zz24_F10 big rc (zz24_a6 rec)) (zz24_a6 rec) p1 a2 out5 op6 (i : Int)))
  (he : ∀ (rc : Y4 → Y7 → Y4 → Int → Int → Option (Y4 × Unit)) (out5 : Y4), Inv cnt out5 → Q (zz24_b6 (zz24_F10 big rc (zz24_a6 rec)) (zz24_a6 rec) p1 a2 out5 op6 (cnt : Int)))
  (i0 : Nat) (hi : i0 ≤ cnt) (out5 : Y4) (h0 : Inv i0 out5) : Q (zz24_F6 big rec k p1 a2 out5 op6 (i0 : Int)) := by
  have key : ∀ (m i : Nat) (out5 : Y4), i ≤ cnt → cnt < m + i → Inv i out5 → Q (zz24_l6 big (zz24_a6 rec) m p1 a2 out5 op6 (i : Int)) := by
    intro m
    induction m with
    | zero => intro i out5 h1 h2 h3; exact absurd h2 (by omega)
    | succ m ih =>
      intro i out5 h1 h2 h3
      rcases Nat.lt_or_ge i cnt with hlt | hge
      · exact hs _ i out5 hlt h3 (fun out5' h4 => ih (i + 1) out5' (by omega) (by omega) h4)
      · obtain rfl : i = cnt := by omega
        exact he _ out5 h3
  exact key big i0 out5 hi (by have := big_ge; omega) h0
theorem zz24_q10 {rec : Y4 → Y7 → Y4 → Int → Int → Option (Y4 × Unit)} {k : Y4 → Y7 → Y4 → Int → Option (Y4 × Unit)} {p1 : Y4} {a2 : Y7} {op6 : Int} {at7 : Int} {args8 : Y4} (cnt : Nat) (Inv : Nat → Y4 → Prop) {Q : Option (Y4 × Unit) → Prop} (hn : cnt ≤ 500000000000)
  (hs : ∀ (rc : Y4 → Y7 → Y4 → Int → Int → Y4 → Int → Option (Y4 × Unit)) (i : Nat) (out5 : Y4), i < cnt → Inv i out5 → (∀ (out5' : Y4), Inv (i + 1) out5' → Q (rc p1 a2 out5' op6 at7 args8 ((i + 1 : Nat) : Int))) → Q (zz24_b10 rc (zz24_a10 rec) p1 a2 out5 op6 at7 args8 (i : Int)))
  (he : ∀ (rc : Y4 → Y7 → Y4 → Int → Int → Y4 → Int → Option (Y4 × Unit)) (out5 : Y4), Inv cnt out5 → Q (zz24_b10 rc (zz24_a10 rec) p1 a2 out5 op6 at7 args8 (cnt : Int)))
  (i0 : Nat) (hi : i0 ≤ cnt) (out5 : Y4) (h0 : Inv i0 out5) : Q (zz24_F10 big rec k p1 a2 out5 op6 at7 args8 (i0 : Int)) := by
  have key : ∀ (m i : Nat) (out5 : Y4), i ≤ cnt → cnt < m + i → Inv i out5 → Q (zz24_l10 big (zz24_a10 rec) m p1 a2 out5 op6 at7 args8 (i : Int)) := by
    intro m
    induction m with
    | zero => intro i out5 h1 h2 h3; exact absurd h2 (by omega)
    | succ m ih =>
      intro i out5 h1 h2 h3
      rcases Nat.lt_or_ge i cnt with hlt | hge
      · exact hs _ i out5 hlt h3 (fun out5' h4 => ih (i + 1) out5' (by omega) (by omega) h4)
      · obtain rfl : i = cnt := by omega
        exact he _ out5 h3
  exact key big i0 out5 hi (by have := big_ge; omega) h0
theorem zz25_h4 {a0 : Y4} {b1 : Y4} (cnt : Nat) (Inv : Nat → Prop) {res : Option (Bool × Unit)} (hn : cnt ≤ 500000000000)
  (hs : ∀ (rc : Y4 → Y4 → Int → Option (Bool × Unit)) (i : Nat), i < cnt → Inv i → (Inv (i + 1) → rc a0 b1 ((i + 1 : Nat) : Int) = res) → zz25_b4 rc zz25_a4 a0 b1 (i : Int) = res)
  (he : ∀ (rc : Y4 → Y4 → Int → Option (Bool × Unit)), Inv cnt → zz25_b4 rc zz25_a4 a0 b1 (cnt : Int) = res)
  (i0 : Nat) (hi : i0 ≤ cnt) (h0 : Inv i0) : zz25_F4 big a0 b1 (i0 : Int) = res := by
  have key : ∀ (m i : Nat), i ≤ cnt → cnt < m + i → Inv i → zz25_l4 big zz25_a4 m a0 b1 (i : Int) = res := by
    intro m
    induction m with
    | zero => intro i h1 h2 h3; exact absurd h2 (by omega)
    | succ m ih =>
      intro i h1 h2 h3
      rcases Nat.lt_or_ge i cnt with hlt | hge
      · exact hs _ i hlt h3 (fun h4 => ih (i + 1) (by omega) (by omega) h4)
      · obtain rfl : i = cnt := by omega
        exact he _ h3
  exact key big i0 hi (by have := big_ge; omega) h0
theorem zz27_h3 {p0 : Y4} (cnt : Nat) (Inv : Nat → Y4 → Prop) {res : Option (Y4 × Unit)} (hn : cnt ≤ 500000000000)
  (hs : ∀ (rc : Y4 → Y4 → Int → Option (Y4 × Unit)) (i : Nat) (out3 : Y4), i < cnt → Inv i out3 → (∀ (out3' : Y4), Inv (i + 1) out3' → rc p0 out3' ((i + 1 : Nat) : Int) = res) → zz27_b3 rc zz27_a3 p0 out3 (i : Int) = res)
  (he : ∀ (rc : Y4 → Y4 → Int → Option (Y4 × Unit)) (out3 : Y4), Inv cnt out3 → zz27_b3 rc zz27_a3 p0 out3 (cnt : Int) = res)
  (i0 : Nat) (hi : i0 ≤ cnt) (out3 : Y4) (h0 : Inv i0 out3) : zz27_F3 big p0 out3 (i0 : Int) = res := by
  have key : ∀ (m i : Nat) (out3 : Y4), i ≤ cnt → cnt < m + i → Inv i out3 → zz27_l3 big zz27_a3 m p0 out3 (i : Int) = res := by
    intro m
    induction m with
    | zero => intro i out3 h1 h2 h3; exact absurd h2 (by omega)
    | succ m ih =>
      intro i out3 h1 h2 h3
      rcases Nat.lt_or_ge i cnt with hlt | hge
      · exact hs _ i out3 hlt h3 (fun out3' h4 => ih (i + 1) out3' (by omega) (by omega) h4)
      · obtain rfl : i = cnt := by omega
        exact he _ out3 h3
  exact key big i0 out3 hi (by have := big_ge; omega) h0
theorem zz28_h4 {p0 : Y4} (cnt : Nat) (Inv : Nat → Y4 → Int → Prop) {res : Option (Y4 × Unit)} (hn : cnt ≤ 500000000000)
  (hs : ∀ (rc : Y4 → Y4 → Int → Int → Option (Y4 × Unit)) (i : Nat) (out3 : Y4) (n4 : Int), i < cnt → Inv i out3 n4 → (∀ (out3' : Y4) (n4' : Int), Inv (i + 1) out3' n4' → rc p0 out3' n4' ((i + 1 : Nat) : Int) = res) → zz28_b4 rc zz28_a4 p0 out3 n4 (i : Int) = res)
  (he : ∀ (rc : Y4 → Y4 → Int → Int → Option (Y4 × Unit)) (out3 : Y4) (n4 : Int), Inv cnt out3 n4 → zz28_b4 rc zz28_a4 p0 out3 n4 (cnt : Int) = res)
  (i0 : Nat) (hi : i0 ≤ cnt) (out3 : Y4) (n4 : Int) (h0 : Inv i0 out3 n4) : zz28_F4 big p0 out3 n4 (i0 : Int) = res := by
  have key : ∀ (m i : Nat) (out3 : Y4) (n4 : Int), i ≤ cnt → cnt < m + i → Inv i out3 n4 → zz28_l4 big zz28_a4 m p0 out3 n4 (i : Int) = res := by
    intro m
    induction m with
    | zero => intro i out3 n4 h1 h2 h3; exact absurd h2 (by omega)
    | succ m ih =>
      intro i out3 n4 h1 h2 h3
      rcases Nat.lt_or_ge i cnt with hlt | hge
      · exact hs _ i out3 n4 hlt h3 (fun out3' n4' h4 => ih (i + 1) out3' n4' (by omega) (by omega) h4)
      · obtain rfl : i = cnt := by omega
        exact he _ out3 n4 h3
  exact key big i0 out3 n4 hi (by have := big_ge; omega) h0
theorem zz29_w2 {n0 : Int} (mu : Int → Int → Nat) (Inv : Int → Int → Prop) {res : Option (Int × Unit)}
  (hs : ∀ (rc : Int → Int → Int → Option (Int × Unit)) (k1 : Int) (out5 : Int), Inv k1 out5 → (∀ (k1' : Int) (out5' : Int), Inv k1' out5' → mu k1' out5' < mu k1 out5 → rc n0 k1' out5' = res) → zz29_b2 rc zz29_a2 n0 k1 out5 = res)
  (k1 : Int) (out5 : Int) (hm : mu k1 out5 ≤ 500000000000) (h0 : Inv k1 out5) : zz29_F2 big n0 k1 out5 = res := by
  have key : ∀ (m : Nat) (k1 : Int) (out5 : Int), mu k1 out5 < m → Inv k1 out5 → zz29_l2 big zz29_a2 m n0 k1 out5 = res := by
    intro m
    induction m with
    | zero => intro k1 out5 h2 h3; exact absurd h2 (by omega)
    | succ m ih =>
      intro k1 out5 h2 h3
      exact hs _ k1 out5 h3 (fun k1' out5' h4 h5 => ih k1' out5' (by omega) h4)
  exact key big k1 out5 (by have := big_ge; omega) h0
theorem zz30_h4 {a2 : Y7} {t4 : Y7} {least5 : Y4} {names6 : Y4} (cnt : Nat) (Inv : Nat → Y7 → Prop) {res : Option (Y7 × Unit)} (hn : cnt ≤ 500000000000)
  (hs : ∀ (rc : Y7 → Y7 → Y4 → Y4 → Y7 → Int → Option (Y7 × Unit)) (i : Nat) (out7 : Y7), i < cnt → Inv i out7 → (∀ (out7' : Y7), Inv (i + 1) out7' → rc a2 t4 least5 names6 out7' ((i + 1 : Nat) : Int) = res) → zz30_b4 (zz30_F8 big rc zz30_a4) zz30_a4 a2 t4 least5 names6 out7 (i : Int) = res)
  (he : ∀ (rc : Y7 → Y7 → Y4 → Y4 → Y7 → Int → Option (Y7 × Unit)) (out7 : Y7), Inv cnt out7 → zz30_b4 (zz30_F8 big rc zz30_a4) zz30_a4 a2 t4 least5 names6 out7 (cnt : Int) = res)
  (i0 : Nat) (hi : i0 ≤ cnt) (out7 : Y7) (h0 : Inv i0 out7) : zz30_F4 big a2 t4 least5 names6 out7 (i0 : Int) = res := by
  have key : ∀ (m i : Nat) (out7 : Y7), i ≤ cnt → cnt < m + i → Inv i out7 → zz30_l4 big zz30_a4 m a2 t4 least5 names6 out7 (i : Int) = res := by
    intro m
    induction m with
    | zero => intro i out7 h1 h2 h3; exact absurd h2 (by omega)
    | succ m ih =>
      intro i out7 h1 h2 h3
      rcases Nat.lt_or_ge i cnt with hlt | hge
      · exact hs _ i out7 hlt h3 (fun out7' h4 => ih (i + 1) out7' (by omega) (by omega) h4)
      · obtain rfl : i = cnt := by omega
        exact he _ out7 h3
  exact key big i0 out7 hi (by have := big_ge; omega) h0
theorem zz30_h8 {rec : Y7 → Y7 → Y4 → Y4 → Y7 → Int → Option (Y7 × Unit)} {k : Y7 → Y7 → Option (Y7 × Unit)} {a2 : Y7} {t4 : Y7} {least5 : Y4} {names6 : Y4} {out7 : Y7} {op8 : Int} (cnt : Nat) (Inv : Nat → Y6 → Prop) {res : Option (Y7 × Unit)} (hn : cnt ≤ 500000000000)
  (hs : ∀ (rc : Y7 → Y7 → Y4 → Y4 → Y7 → Int → Y6 → Int → Option (Y7 × Unit)) (i : Nat) (next9 : Y6), i < cnt → Inv i next9 → (∀ (next9' : Y6), Inv (i + 1) next9' → rc a2 t4 least5 names6 out7 op8 next9' ((i + 1 : Nat) : Int) = res) → zz30_b8 (zz30_F12 big rc (zz30_a8 rec)) (zz30_a8 rec) a2 t4 least5 names6 out7 op8 next9 (i : Int) = res)
  (he : ∀ (rc : Y7 → Y7 → Y4 → Y4 → Y7 → Int → Y6 → Int → Option (Y7 × Unit)) (next9 : Y6), Inv cnt next9 → zz30_b8 (zz30_F12 big rc (zz30_a8 rec)) (zz30_a8 rec) a2 t4 least5 names6 out7 op8 next9 (cnt : Int) = res)
  (i0 : Nat) (hi : i0 ≤ cnt) (next9 : Y6) (h0 : Inv i0 next9) : zz30_F8 big rec k a2 t4 least5 names6 out7 op8 next9 (i0 : Int) = res := by
  have key : ∀ (m i : Nat) (next9 : Y6), i ≤ cnt → cnt < m + i → Inv i next9 → zz30_l8 big (zz30_a8 rec) m a2 t4 least5 names6 out7 op8 next9 (i : Int) = res := by
    intro m
    induction m with
    | zero => intro i next9 h1 h2 h3; exact absurd h2 (by omega)
    | succ m ih =>
      intro i next9 h1 h2 h3
      rcases Nat.lt_or_ge i cnt with hlt | hge
      · exact hs _ i next9 hlt h3 (fun next9' h4 => ih (i + 1) next9' (by omega) (by omega) h4)
      · obtain rfl : i = cnt := by omega
        exact he _ next9 h3
  exact key big i0 next9 hi (by have := big_ge; omega) h0
theorem zz30_h12 {rec : Y7 → Y7 → Y4 → Y4 → Y7 → Int → Y6 → Int → Option (Y7 × Unit)} {k : Y7 → Y7 → Y4 → Y4 → Y7 → Int → Y6 → Option (Y7 × Unit)} {a2 : Y7} {t4 : Y7} {least5 : Y4} {names6 : Y4} {out7 : Y7} {op8 : Int} {next9 : Y6} {at10 : Int} (cnt : Nat) (Inv : Nat → Y4 → Prop) {res : Option (Y7 × Unit)} (hn : cnt ≤ 500000000000)
  (hs : ∀ (rc : Y7 → Y7 → Y4 → Y4 → Y7 → Int → Y6 → Int → Y4 → Int → Option (Y7 × Unit)) (i : Nat) (args11 : Y4), i < cnt → Inv i args11 → (∀ (args11' : Y4), Inv (i + 1) args11' → rc a2 t4 least5 names6 out7 op8 next9 at10 args11' ((i + 1 : Nat) : Int) = res) → zz30_b12 rc (zz30_a12 rec) a2 t4 least5 names6 out7 op8 next9 at10 args11 (i : Int) = res)
  (he : ∀ (rc : Y7 → Y7 → Y4 → Y4 → Y7 → Int → Y6 → Int → Y4 → Int → Option (Y7 × Unit)) (args11 : Y4), Inv cnt args11 → zz30_b12 rc (zz30_a12 rec) a2 t4 least5 names6 out7 op8 next9 at10 args11 (cnt : Int) = res)
  (i0 : Nat) (hi : i0 ≤ cnt) (args11 : Y4) (h0 : Inv i0 args11) : zz30_F12 big rec k a2 t4 least5 names6 out7 op8 next9 at10 args11 (i0 : Int) = res := by
  have key : ∀ (m i : Nat) (args11 : Y4), i ≤ cnt → cnt < m + i → Inv i args11 → zz30_l12 big (zz30_a12 rec) m a2 t4 least5 names6 out7 op8 next9 at10 args11 (i : Int) = res := by
    intro m
    induction m with
    | zero => intro i args11 h1 h2 h3; exact absurd h2 (by omega)
    | succ m ih =>
      intro i args11 h1 h2 h3
      rcases Nat.lt_or_ge i cnt with hlt | hge
      · exact hs _ i args11 hlt h3 (fun args11' h4 => ih (i + 1) args11' (by omega) (by omega) h4)
      · obtain rfl : i = cnt := by omega
        exact he _ args11 h3
  exact key big i0 args11 hi (by have := big_ge; omega) h0
theorem zz31_h4 {n0 : Int} {op3 : Y6} (cnt : Nat) (Inv : Nat → Prop) {res : Option (Bool × Unit)} (hn : cnt ≤ 500000000000)
  (hs : ∀ (rc : Int → Y6 → Int → Option (Bool × Unit)) (i : Nat), i < cnt → Inv i → (Inv (i + 1) → rc n0 op3 ((i + 1 : Nat) : Int) = res) → zz31_b4 rc zz31_a4 n0 op3 (i : Int) = res)
  (he : ∀ (rc : Int → Y6 → Int → Option (Bool × Unit)), Inv cnt → zz31_b4 rc zz31_a4 n0 op3 (cnt : Int) = res)
  (i0 : Nat) (hi : i0 ≤ cnt) (h0 : Inv i0) : zz31_F4 big n0 op3 (i0 : Int) = res := by
  have key : ∀ (m i : Nat), i ≤ cnt → cnt < m + i → Inv i → zz31_l4 big zz31_a4 m n0 op3 (i : Int) = res := by
    intro m
    induction m with
    | zero => intro i h1 h2 h3; exact absurd h2 (by omega)
    | succ m ih =>
      intro i h1 h2 h3
      rcases Nat.lt_or_ge i cnt with hlt | hge
      · exact hs _ i hlt h3 (fun h4 => ih (i + 1) (by omega) (by omega) h4)
      · obtain rfl : i = cnt := by omega
        exact he _ h3
  exact key big i0 hi (by have := big_ge; omega) h0
theorem zz32_h4 {a1 : Y7} (cnt : Nat) (Inv : Nat → Prop) {res : Option (Bool × Unit)} (hn : cnt ≤ 500000000000)
  (hs : ∀ (rc : Y7 → Int → Option (Bool × Unit)) (i : Nat), i < cnt → Inv i → (Inv (i + 1) → rc a1 ((i + 1 : Nat) : Int) = res) → zz32_b4 rc zz32_a4 a1 (i : Int) = res)
  (he : ∀ (rc : Y7 → Int → Option (Bool × Unit)), Inv cnt → zz32_b4 rc zz32_a4 a1 (cnt : Int) = res)
  (i0 : Nat) (hi : i0 ≤ cnt) (h0 : Inv i0) : zz32_F4 big a1 (i0 : Int) = res := by
  have key : ∀ (m i : Nat), i ≤ cnt → cnt < m + i → Inv i → zz32_l4 big zz32_a4 m a1 (i : Int) = res := by
    intro m
    induction m with
    | zero => intro i h1 h2 h3; exact absurd h2 (by omega)
    | succ m ih =>
      intro i h1 h2 h3
      rcases Nat.lt_or_ge i cnt with hlt | hge
      · exact hs _ i hlt h3 (fun h4 => ih (i + 1) (by omega) (by omega) h4)
      · obtain rfl : i = cnt := by omega
        exact he _ h3
  exact key big i0 hi (by have := big_ge; omega) h0
theorem zz33_h3 {a1 : Y7} (cnt : Nat) (Inv : Nat → Y4 → Prop) {res : Option (Y4 × Unit)} (hn : cnt ≤ 500000000000)
  (hs : ∀ (rc : Y7 → Y4 → Int → Option (Y4 × Unit)) (i : Nat) (out3 : Y4), i < cnt → Inv i out3 → (∀ (out3' : Y4), Inv (i + 1) out3' → rc a1 out3' ((i + 1 : Nat) : Int) = res) → zz33_b3 rc zz33_a3 a1 out3 (i : Int) = res)
  (he : ∀ (rc : Y7 → Y4 → Int → Option (Y4 × Unit)) (out3 : Y4), Inv cnt out3 → zz33_b3 rc zz33_a3 a1 out3 (cnt : Int) = res)
  (i0 : Nat) (hi : i0 ≤ cnt) (out3 : Y4) (h0 : Inv i0 out3) : zz33_F3 big a1 out3 (i0 : Int) = res := by
  have key : ∀ (m i : Nat) (out3 : Y4), i ≤ cnt → cnt < m + i → Inv i out3 → zz33_l3 big zz33_a3 m a1 out3 (i : Int) = res := by
    intro m
    induction m with
    | zero => intro i out3 h1 h2 h3; exact absurd h2 (by omega)
    | succ m ih =>
      intro i out3 h1 h2 h3
      rcases Nat.lt_or_ge i cnt with hlt | hge
      · exact hs _ i out3 hlt h3 (fun out3' h4 => ih (i + 1) out3' (by omega) (by omega) h4)
      · obtain rfl : i = cnt := by omega
        exact he _ out3 h3
  exact key big i0 out3 hi (by have := big_ge; omega) h0
theorem zz34_h5 {a1 : Y7} {t2 : Y2} (cnt : Nat) (Inv : Nat → Y2 → Prop) {res : Option ((Y2 × (Bool × Unit)) × Unit)} (hn : cnt ≤ 500000000000)
  (hs : ∀ (rc : Y7 → Y2 → Y2 → Int → Option ((Y2 × (Bool × Unit)) × Unit)) (i : Nat) (p4 : Y2), i < cnt → Inv i p4 → (∀ (p4' : Y2), Inv (i + 1) p4' → rc a1 t2 p4' ((i + 1 : Nat) : Int) = res) → zz34_b5 (zz34_F9 big rc zz34_a5) zz34_a5 a1 t2 p4 (i : Int) = res)
  (he : ∀ (rc : Y7 → Y2 → Y2 → Int → Option ((Y2 × (Bool × Unit)) × Unit)) (p4 : Y2), Inv cnt p4 → zz34_b5 (zz34_F9 big rc zz34_a5) zz34_a5 a1 t2 p4 (cnt : Int) = res)
  (i0 : Nat) (hi : i0 ≤ cnt) (p4 : Y2) (h0 : Inv i0 p4) : zz34_F5 big a1 t2 p4 (i0 : Int) = res := by
  have key : ∀ (m i : Nat) (p4 : Y2), i ≤ cnt → cnt < m + i → Inv i p4 → zz34_l5 big zz34_a5 m a1 t2 p4 (i : Int) = res := by
    intro m
    induction m with
    | zero => intro i p4 h1 h2 h3; exact absurd h2 (by omega)
    | succ m ih =>
      intro i p4 h1 h2 h3
      rcases Nat.lt_or_ge i cnt with hlt | hge
      · exact hs _ i p4 hlt h3 (fun p4' h4 => ih (i + 1) p4' (by omega) (by omega) h4)
      · obtain rfl : i = cnt := by omega
        exact he _ p4 h3
  exact key big i0 p4 hi (by have := big_ge; omega) h0
theorem zz34_h9 {rec : Y7 → Y2 → Y2 → Int → Option ((Y2 × (Bool × Unit)) × Unit)} {k : Y7 → Y2 → Y2 → Option ((Y2 × (Bool × Unit)) × Unit)} {a1 : Y7} {t2 : Y2} {p4 : Y2} {y5 : Int} (cnt : Nat) (Inv : Nat → Y4 → Prop) {res : Option ((Y2 × (Bool × Unit)) × Unit)} (hn : cnt ≤ 500000000000)
  (hs : ∀ (rc : Y7 → Y2 → Y2 → Int → Y4 → Int → Option ((Y2 × (Bool × Unit)) × Unit)) (i : Nat) (below6 : Y4), i < cnt → Inv i below6 → (∀ (below6' : Y4), Inv (i + 1) below6' → rc a1 t2 p4 y5 below6' ((i + 1 : Nat) : Int) = res) → zz34_b9 rc (zz34_a9 rec) a1 t2 p4 y5 below6 (i : Int) = res)
  (he : ∀ (rc : Y7 → Y2 → Y2 → Int → Y4 → Int → Option ((Y2 × (Bool × Unit)) × Unit)) (below6 : Y4), Inv cnt below6 → zz34_b9 rc (zz34_a9 rec) a1 t2 p4 y5 below6 (cnt : Int) = res)
  (i0 : Nat) (hi : i0 ≤ cnt) (below6 : Y4) (h0 : Inv i0 below6) : zz34_F9 big rec k a1 t2 p4 y5 below6 (i0 : Int) = res := by
  have key : ∀ (m i : Nat) (below6 : Y4), i ≤ cnt → cnt < m + i → Inv i below6 → zz34_l9 big (zz34_a9 rec) m a1 t2 p4 y5 below6 (i : Int) = res := by
    intro m
    induction m with
    | zero => intro i below6 h1 h2 h3; exact absurd h2 (by omega)
    | succ m ih =>
      intro i below6 h1 h2 h3
      rcases Nat.lt_or_ge i cnt with hlt | hge
      · exact hs _ i below6 hlt h3 (fun below6' h4 => ih (i + 1) below6' (by omega) (by omega) h4)
      · obtain rfl : i = cnt := by omega
        exact he _ below6 h3
  exact key big i0 below6 hi (by have := big_ge; omega) h0
theorem zz36_h3 {n0 : Int} {t8 : Int} (cnt : Nat) (Inv : Nat → Y5 → Prop) {res : Option (Y5 × Unit)} (hn : cnt ≤ 500000000000)
  (hs : ∀ (rc : Int → Y5 → Int → Int → Option (Y5 × Unit)) (i : Nat) (o3 : Y5), i < cnt → Inv i o3 → (∀ (o3' : Y5), Inv (i + 1) o3' → rc n0 o3' t8 ((i + 1 : Nat) : Int) = res) → zz36_b3 rc zz36_a3 n0 o3 t8 (i : Int) = res)
  (he : ∀ (rc : Int → Y5 → Int → Int → Option (Y5 × Unit)) (o3 : Y5), Inv cnt o3 → zz36_b3 rc zz36_a3 n0 o3 t8 (cnt : Int) = res)
  (i0 : Nat) (hi : i0 ≤ cnt) (o3 : Y5) (h0 : Inv i0 o3) : zz36_F3 big n0 o3 t8 (i0 : Int) = res := by
  have key : ∀ (m i : Nat) (o3 : Y5), i ≤ cnt → cnt < m + i → Inv i o3 → zz36_l3 big zz36_a3 m n0 o3 t8 (i : Int) = res := by
    intro m
    induction m with
    | zero => intro i o3 h1 h2 h3; exact absurd h2 (by omega)
    | succ m ih =>
      intro i o3 h1 h2 h3
      rcases Nat.lt_or_ge i cnt with hlt | hge
      · exact hs _ i o3 hlt h3 (fun o3' h4 => ih (i + 1) o3' (by omega) (by omega) h4)
      · obtain rfl : i = cnt := by omega
        exact he _ o3 h3
  exact key big i0 o3 hi (by have := big_ge; omega) h0
theorem zz39_h2 {o0 : Y5} {t7 : Int} (cnt : Nat) (Inv : Nat → Prop) {res : Option (Bool × Unit)} (hn : cnt ≤ 500000000000)
  (hs : ∀ (rc : Y5 → Int → Int → Option (Bool × Unit)) (i : Nat), i < cnt → Inv i → (Inv (i + 1) → rc o0 t7 ((i + 1 : Nat) : Int) = res) → zz39_b2 (zz39_F7 big rc zz39_a2) zz39_a2 o0 t7 (i : Int) = res)
  (he : ∀ (rc : Y5 → Int → Int → Option (Bool × Unit)), Inv cnt → zz39_b2 (zz39_F7 big rc zz39_a2) zz39_a2 o0 t7 (cnt : Int) = res)
  (i0 : Nat) (hi : i0 ≤ cnt) (h0 : Inv i0) : zz39_F2 big o0 t7 (i0 : Int) = res := by
  have key : ∀ (m i : Nat), i ≤ cnt → cnt < m + i → Inv i → zz39_l2 big zz39_a2 m o0 t7 (i : Int) = res := by
    intro m
    induction m with
    | zero => intro i h1 h2 h3; exact absurd h2 (by omega)
    | succ m ih =>
      intro i h1 h2 h3
      rcases Nat.lt_or_ge i cnt with hlt | hge
      · exact hs _ i hlt h3 (fun h4 => ih (i + 1) (by omega) (by omega) h4)
      · obtain rfl : i = cnt := by omega
        exact he _ h3
  exact key big i0 hi (by have := big_ge; omega) h0
theorem zz39_h7 {rec : Y5 → Int → Int → Option (Bool × Unit)} {k : Option (Bool × Unit)} {o0 : Y5} {x3 : Int} {t7 : Int} {t8 : Int} {t20 : Int} (cnt : Nat) (Inv : Nat → Prop) {res : Option (Bool × Unit)} (hn : cnt ≤ 500000000000)
  (hs : ∀ (rc : Y5 → Int → Int → Int → Int → Int → Option (Bool × Unit)) (i : Nat), i < cnt → Inv i → (Inv (i + 1) → rc o0 x3 t7 t8 t20 ((i + 1 : Nat) : Int) = res) → zz39_b7 (zz39_F12 big rc (zz39_a7 rec)) (zz39_a7 rec) o0 x3 t7 t8 t20 (i : Int) = res)
  (he : ∀ (rc : Y5 → Int → Int → Int → Int → Int → Option (Bool × Unit)), Inv cnt → zz39_b7 (zz39_F12 big rc (zz39_a7 rec)) (zz39_a7 rec) o0 x3 t7 t8 t20 (cnt : Int) = res)
  (i0 : Nat) (hi : i0 ≤ cnt) (h0 : Inv i0) : zz39_F7 big rec k o0 x3 t7 t8 t20 (i0 : Int) = res := by
  have key : ∀ (m i : Nat), i ≤ cnt → cnt < m + i → Inv i → zz39_l7 big (zz39_a7 rec) m o0 x3 t7 t8 t20 (i : Int) = res := by
    intro m
    induction m with
    | zero => intro i h1 h2 h3; exact absurd h2 (by omega)
    | succ m ih =>
      intro i h1 h2 h3
      rcases Nat.lt_or_ge i cnt with hlt | hge
      · exact hs _ i hlt h3 (fun h4 => ih (i + 1) (by omega) (by omega) h4)
      · obtain rfl : i = cnt := by omega
        exact he _ h3
  exact key big i0 hi (by have := big_ge; omega) h0
theorem zz39_h12 {rec : Y5 → Int → Int → Int → Int → Int → Option (Bool × Unit)} {k : Y5 → Int → Int → Option (Bool × Unit)} {o0 : Y5} {x3 : Int} {y4 : Int} {t7 : Int} {t8 : Int} {t20 : Int} {t21 : Int} {t46 : Int} (cnt : Nat) (Inv : Nat → Prop) {res : Option (Bool × Unit)} (hn : cnt ≤ 500000000000)
  (hs : ∀ (rc : Y5 → Int → Int → Int → Int → Int → Int → Int → Int → Option (Bool × Unit)) (i : Nat), i < cnt → Inv i → (Inv (i + 1) → rc o0 x3 y4 t7 t8 t20 t21 t46 ((i + 1 : Nat) : Int) = res) → zz39_b12 rc (zz39_a12 rec) o0 x3 y4 t7 t8 t20 t21 t46 (i : Int) = res)
  (he : ∀ (rc : Y5 → Int → Int → Int → Int → Int → Int → Int → Int → Option (Bool × Unit)), Inv cnt → zz39_b12 rc (zz39_a12 rec) o0 x3 y4 t7 t8 t20 t21 t46 (cnt : Int) = res)
  (i0 : Nat) (hi : i0 ≤ cnt) (h0 : Inv i0) : zz39_F12 big rec k o0 x3 y4 t7 t8 t20 t21 t46 (i0 : Int) = res := by
  have key : ∀ (m i : Nat), i ≤ cnt → cnt < m + i → Inv i → zz39_l12 big (zz39_a12 rec) m o0 x3 y4 t7 t8 t20 t21 t46 (i : Int) = res := by
    intro m
    induction m with
    | zero => intro i h1 h2 h3; exact absurd h2 (by omega)
    | succ m ih =>
      intro i h1 h2 h3
      rcases Nat.lt_or_ge i cnt with hlt | hge
      · exact hs _ i hlt h3 (fun h4 => ih (i + 1) (by omega) (by omega) h4)
      · obtain rfl : i = cnt := by omega
        exact he _ h3
  exact key big i0 hi (by have := big_ge; omega) h0
theorem zz40_h6 {n4 : Int} {t18 : Y3} {t19 : Int} (cnt : Nat) (Inv : Nat → Y5 → Prop) {res : Option ((Y5 × (Bool × Unit)) × Unit)} (hn : cnt ≤ 500000000000)
  (hs : ∀ (rc : Int → Y5 → Y3 → Int → Int → Option ((Y5 × (Bool × Unit)) × Unit)) (i : Nat) (o5 : Y5), i < cnt → Inv i o5 → (∀ (o5' : Y5), Inv (i + 1) o5' → rc n4 o5' t18 t19 ((i + 1 : Nat) : Int) = res) → zz40_b6 (zz40_F11 big rc zz40_a6) zz40_a6 n4 o5 t18 t19 (i : Int) = res)
  (he : ∀ (rc : Int → Y5 → Y3 → Int → Int → Option ((Y5 × (Bool × Unit)) × Unit)) (o5 : Y5), Inv cnt o5 → zz40_b6 (zz40_F11 big rc zz40_a6) zz40_a6 n4 o5 t18 t19 (cnt : Int) = res)
  (i0 : Nat) (hi : i0 ≤ cnt) (o5 : Y5) (h0 : Inv i0 o5) : zz40_F6 big n4 o5 t18 t19 (i0 : Int) = res := by
  have key : ∀ (m i : Nat) (o5 : Y5), i ≤ cnt → cnt < m + i → Inv i o5 → zz40_l6 big zz40_a6 m n4 o5 t18 t19 (i : Int) = res := by
    intro m
    induction m with
    | zero => intro i o5 h1 h2 h3; exact absurd h2 (by omega)
    | succ m ih =>
      intro i o5 h1 h2 h3
      rcases Nat.lt_or_ge i cnt with hlt | hge
      · exact hs _ i o5 hlt h3 (fun o5' h4 => ih (i + 1) o5' (by omega) (by omega) h4)
      · obtain rfl : i = cnt := by omega
        exact he _ o5 h3
  exact key big i0 o5 hi (by have := big_ge; omega) h0
theorem zz40_h11 {rec : Int → Y5 → Y3 → Int → Int → Option ((Y5 × (Bool × Unit)) × Unit)} {k : Y5 → Option ((Y5 × (Bool × Unit)) × Unit)} {n4 : Int} {x6 : Int} {t18 : Y3} {t19 : Int} {t20 : Int} {t29 : Y4} {t30 : Int} {t31 : Bool} {t32 : Bool} {t34 : Y4} {t35 : Int} (cnt : Nat) (Inv : Nat → Y5 → Prop) {res : Option ((Y5 × (Bool × Unit)) × Unit)} (hn : cnt ≤ 500000000000)
  (hs : ∀ (rc : Int → Y5 → Int → Y3 → Int → Int → Y4 → Int → Bool → Bool → Y4 → Int → Int → Option ((Y5 × (Bool × Unit)) × Unit)) (i : Nat) (o5 : Y5), i < cnt → Inv i o5 → (∀ (o5' : Y5), Inv (i + 1) o5' → rc n4 o5' x6 t18 t19 t20 t29 t30 t31 t32 t34 t35 ((i + 1 : Nat) : Int) = res) → zz40_b11 rc (zz40_a11 rec) n4 o5 x6 t18 t19 t20 t29 t30 t31 t32 t34 t35 (i : Int) = res)
  (he : ∀ (rc : Int → Y5 → Int → Y3 → Int → Int → Y4 → Int → Bool → Bool → Y4 → Int → Int → Option ((Y5 × (Bool × Unit)) × Unit)) (o5 : Y5), Inv cnt o5 → zz40_b11 rc (zz40_a11 rec) n4 o5 x6 t18 t19 t20 t29 t30 t31 t32 t34 t35 (cnt : Int) = res)
  (i0 : Nat) (hi : i0 ≤ cnt) (o5 : Y5) (h0 : Inv i0 o5) : zz40_F11 big rec k n4 o5 x6 t18 t19 t20 t29 t30 t31 t32 t34 t35 (i0 : Int) = res := by
  have key : ∀ (m i : Nat) (o5 : Y5), i ≤ cnt → cnt < m + i → Inv i o5 → zz40_l11 big (zz40_a11 rec) m n4 o5 x6 t18 t19 t20 t29 t30 t31 t32 t34 t35 (i : Int) = res := by
    intro m
    induction m with
    | zero => intro i o5 h1 h2 h3; exact absurd h2 (by omega)
    | succ m ih =>
      intro i o5 h1 h2 h3
      rcases Nat.lt_or_ge i cnt with hlt | hge
      · exact hs _ i o5 hlt h3 (fun o5' h4 => ih (i + 1) o5' (by omega) (by omega) h4)
      · obtain rfl : i = cnt := by omega
        exact he _ o5 h3
  exact key big i0 o5 hi (by have := big_ge; omega) h0
theorem zz41_h2 {o0 : Y5} {list1 : Y4} {t10 : Y4} {t11 : Int} (cnt : Nat) (Inv : Nat → Prop) {res : Option (Int × Unit)} (hn : cnt ≤ 500000000000)
  (hs : ∀ (rc : Y5 → Y4 → Y4 → Int → Int → Option (Int × Unit)) (i : Nat), i < cnt → Inv i → (Inv (i + 1) → rc o0 list1 t10 t11 ((i + 1 : Nat) : Int) = res) → zz41_b2 (zz41_F6 big rc zz41_a2) zz41_a2 o0 list1 t10 t11 (i : Int) = res)
  (he : ∀ (rc : Y5 → Y4 → Y4 → Int → Int → Option (Int × Unit)), Inv cnt → zz41_b2 (zz41_F6 big rc zz41_a2) zz41_a2 o0 list1 t10 t11 (cnt : Int) = res)
  (i0 : Nat) (hi : i0 ≤ cnt) (h0 : Inv i0) : zz41_F2 big o0 list1 t10 t11 (i0 : Int) = res := by
  have key : ∀ (m i : Nat), i ≤ cnt → cnt < m + i → Inv i → zz41_l2 big zz41_a2 m o0 list1 t10 t11 (i : Int) = res := by
    intro m
    induction m with
    | zero => intro i h1 h2 h3; exact absurd h2 (by omega)
    | succ m ih =>
      intro i h1 h2 h3
      rcases Nat.lt_or_ge i cnt with hlt | hge
      · exact hs _ i hlt h3 (fun h4 => ih (i + 1) (by omega) (by omega) h4)
      · obtain rfl : i = cnt := by omega
        exact he _ h3
  exact key big i0 hi (by have := big_ge; omega) h0
theorem zz41_h6 {rec : Y5 → Y4 → Y4 → Int → Int → Option (Int × Unit)} {k : Option (Int × Unit)} {o0 : Y5} {list1 : Y4} {x6 : Int} {t10 : Y4} {t11 : Int} {t12 : Int} {t16 : Y4} {t17 : Int} (cnt : Nat) (Inv : Nat → Bool → Prop) {res : Option (Int × Unit)} (hn : cnt ≤ 500000000000)
  (hs : ∀ (rc : Y5 → Y4 → Int → Bool → Y4 → Int → Int → Y4 → Int → Int → Option (Int × Unit)) (i : Nat) (top7 : Bool), i < cnt → Inv i top7 → (∀ (top7' : Bool), Inv (i + 1) top7' → rc o0 list1 x6 top7' t10 t11 t12 t16 t17 ((i + 1 : Nat) : Int) = res) → zz41_b6 rc (zz41_a6 rec) o0 list1 x6 top7 t10 t11 t12 t16 t17 (i : Int) = res)
  (he : ∀ (rc : Y5 → Y4 → Int → Bool → Y4 → Int → Int → Y4 → Int → Int → Option (Int × Unit)) (top7 : Bool), Inv cnt top7 → zz41_b6 rc (zz41_a6 rec) o0 list1 x6 top7 t10 t11 t12 t16 t17 (cnt : Int) = res)
  (i0 : Nat) (hi : i0 ≤ cnt) (top7 : Bool) (h0 : Inv i0 top7) : zz41_F6 big rec k o0 list1 x6 top7 t10 t11 t12 t16 t17 (i0 : Int) = res := by
  have key : ∀ (m i : Nat) (top7 : Bool), i ≤ cnt → cnt < m + i → Inv i top7 → zz41_l6 big (zz41_a6 rec) m o0 list1 x6 top7 t10 t11 t12 t16 t17 (i : Int) = res := by
    intro m
    induction m with
    | zero => intro i top7 h1 h2 h3; exact absurd h2 (by omega)
    | succ m ih =>
      intro i top7 h1 h2 h3
      rcases Nat.lt_or_ge i cnt with hlt | hge
      · exact hs _ i top7 hlt h3 (fun top7' h4 => ih (i + 1) top7' (by omega) (by omega) h4)
      · obtain rfl : i = cnt := by omega
        exact he _ top7 h3
  exact key big i0 top7 hi (by have := big_ge; omega) h0
theorem zz43_h3 {so1 : (Y5 × (Int × (Int × Unit)))} {t9 : Int} (cnt : Nat) (Inv : Nat → Y4 → Prop) {res : Option (Y4 × Unit)} (hn : cnt ≤ 500000000000)
  (hs : ∀ (rc : (Y5 × (Int × (Int × Unit))) → Y4 → Int → Int → Option (Y4 × Unit)) (i : Nat) (list5 : Y4), i < cnt → Inv i list5 → (∀ (list5' : Y4), Inv (i + 1) list5' → rc so1 list5' t9 ((i + 1 : Nat) : Int) = res) → zz43_b3 rc zz43_a3 so1 list5 t9 (i : Int) = res)
  (he : ∀ (rc : (Y5 × (Int × (Int × Unit))) → Y4 → Int → Int → Option (Y4 × Unit)) (list5 : Y4), Inv cnt list5 → zz43_b3 rc zz43_a3 so1 list5 t9 (cnt : Int) = res)
  (i0 : Nat) (hi : i0 ≤ cnt) (list5 : Y4) (h0 : Inv i0 list5) : zz43_F3 big so1 list5 t9 (i0 : Int) = res := by
  have key : ∀ (m i : Nat) (list5 : Y4), i ≤ cnt → cnt < m + i → Inv i list5 → zz43_l3 big zz43_a3 m so1 list5 t9 (i : Int) = res := by
    intro m
    induction m with
    | zero => intro i list5 h1 h2 h3; exact absurd h2 (by omega)
    | succ m ih =>
      intro i list5 h1 h2 h3
      rcases Nat.lt_or_ge i cnt with hlt | hge
      · exact hs _ i list5 hlt h3 (fun list5' h4 => ih (i + 1) list5' (by omega) (by omega) h4)
      · obtain rfl : i = cnt := by omega
        exact he _ list5 h3
  exact key big i0 list5 hi (by have := big_ge; omega) h0
theorem zz44_h3 {o1 : Y5} {t11 : Int} (cnt : Nat) (Inv : Nat → Y3 → Prop) {res : Option ((Y3 × (Bool × Unit)) × Unit)} (hn : cnt ≤ 500000000000)
  (hs : ∀ (rc : Y5 → Y3 → Int → Int → Option ((Y3 × (Bool × Unit)) × Unit)) (i : Nat) (table4 : Y3), i < cnt → Inv i table4 → (∀ (table4' : Y3), Inv (i + 1) table4' → rc o1 table4' t11 ((i + 1 : Nat) : Int) = res) → zz44_b3 (zz44_F7 big rc zz44_a3) zz44_a3 o1 table4 t11 (i : Int) = res)
  (he : ∀ (rc : Y5 → Y3 → Int → Int → Option ((Y3 × (Bool × Unit)) × Unit)) (table4 : Y3), Inv cnt table4 → zz44_b3 (zz44_F7 big rc zz44_a3) zz44_a3 o1 table4 t11 (cnt : Int) = res)
  (i0 : Nat) (hi : i0 ≤ cnt) (table4 : Y3) (h0 : Inv i0 table4) : zz44_F3 big o1 table4 t11 (i0 : Int) = res := by
  have key : ∀ (m i : Nat) (table4 : Y3), i ≤ cnt → cnt < m + i → Inv i table4 → zz44_l3 big zz44_a3 m o1 table4 t11 (i : Int) = res := by
    intro m
    induction m with
    | zero => intro i table4 h1 h2 h3; exact absurd h2 (by omega)
    | succ m ih =>
      intro i table4 h1 h2 h3
      rcases Nat.lt_or_ge i cnt with hlt | hge
      · exact hs _ i table4 hlt h3 (fun table4' h4 => ih (i + 1) table4' (by omega) (by omega) h4)
      · obtain rfl : i = cnt := by omega
        exact he _ table4 h3
  exact key big i0 table4 hi (by have := big_ge; omega) h0
theorem zz44_h7 {rec : Y5 → Y3 → Int → Int → Option ((Y3 × (Bool × Unit)) × Unit)} {k : Y3 → Option ((Y3 × (Bool × Unit)) × Unit)} {o1 : Y5} {table4 : Y3} {x5 : Int} {t11 : Int} {t12 : Int} {t17 : Int} (cnt : Nat) (Inv : Nat → Y4 → Prop) {res : Option ((Y3 × (Bool × Unit)) × Unit)} (hn : cnt ≤ 500000000000)
  (hs : ∀ (rc : Y5 → Y3 → Int → Y4 → Int → Int → Int → Int → Option ((Y3 × (Bool × Unit)) × Unit)) (i : Nat) (row6 : Y4), i < cnt → Inv i row6 → (∀ (row6' : Y4), Inv (i + 1) row6' → rc o1 table4 x5 row6' t11 t12 t17 ((i + 1 : Nat) : Int) = res) → zz44_b7 rc (zz44_a7 rec) o1 table4 x5 row6 t11 t12 t17 (i : Int) = res)
  (he : ∀ (rc : Y5 → Y3 → Int → Y4 → Int → Int → Int → Int → Option ((Y3 × (Bool × Unit)) × Unit)) (row6 : Y4), Inv cnt row6 → zz44_b7 rc (zz44_a7 rec) o1 table4 x5 row6 t11 t12 t17 (cnt : Int) = res)
  (i0 : Nat) (hi : i0 ≤ cnt) (row6 : Y4) (h0 : Inv i0 row6) : zz44_F7 big rec k o1 table4 x5 row6 t11 t12 t17 (i0 : Int) = res := by
  have key : ∀ (m i : Nat) (row6 : Y4), i ≤ cnt → cnt < m + i → Inv i row6 → zz44_l7 big (zz44_a7 rec) m o1 table4 x5 row6 t11 t12 t17 (i : Int) = res := by
    intro m
    induction m with
    | zero => intro i row6 h1 h2 h3; exact absurd h2 (by omega)
    | succ m ih =>
      intro i row6 h1 h2 h3
      rcases Nat.lt_or_ge i cnt with hlt | hge
      · exact hs _ i row6 hlt h3 (fun row6' h4 => ih (i + 1) row6' (by omega) (by omega) h4)
      · obtain rfl : i = cnt := by omega
        exact he _ row6 h3
  exact key big i0 row6 hi (by have := big_ge; omega) h0
theorem zz45_h3 {o0 : Y5} {t10 : Int} (cnt : Nat) (Inv : Nat → Y5 → Prop) {res : Option (Y5 × Unit)} (hn : cnt ≤ 500000000000)
  (hs : ∀ (rc : Y5 → Y5 → Int → Int → Option (Y5 × Unit)) (i : Nat) (d3 : Y5), i < cnt → Inv i d3 → (∀ (d3' : Y5), Inv (i + 1) d3' → rc o0 d3' t10 ((i + 1 : Nat) : Int) = res) → zz45_b3 (zz45_F6 big rc zz45_a3) zz45_a3 o0 d3 t10 (i : Int) = res)
  (he : ∀ (rc : Y5 → Y5 → Int → Int → Option (Y5 × Unit)) (d3 : Y5), Inv cnt d3 → zz45_b3 (zz45_F6 big rc zz45_a3) zz45_a3 o0 d3 t10 (cnt : Int) = res)
  (i0 : Nat) (hi : i0 ≤ cnt) (d3 : Y5) (h0 : Inv i0 d3) : zz45_F3 big o0 d3 t10 (i0 : Int) = res := by
  have key : ∀ (m i : Nat) (d3 : Y5), i ≤ cnt → cnt < m + i → Inv i d3 → zz45_l3 big zz45_a3 m o0 d3 t10 (i : Int) = res := by
    intro m
    induction m with
    | zero => intro i d3 h1 h2 h3; exact absurd h2 (by omega)
    | succ m ih =>
      intro i d3 h1 h2 h3
      rcases Nat.lt_or_ge i cnt with hlt | hge
      · exact hs _ i d3 hlt h3 (fun d3' h4 => ih (i + 1) d3' (by omega) (by omega) h4)
      · obtain rfl : i = cnt := by omega
        exact he _ d3 h3
  exact key big i0 d3 hi (by have := big_ge; omega) h0
theorem zz45_h6 {rec : Y5 → Y5 → Int → Int → Option (Y5 × Unit)} {k : Y5 → Option (Y5 × Unit)} {o0 : Y5} {x4 : Int} {t10 : Int} {t11 : Int} {t15 : Int} (cnt : Nat) (Inv : Nat → Y5 → Prop) {res : Option (Y5 × Unit)} (hn : cnt ≤ 500000000000)
  (hs : ∀ (rc : Y5 → Y5 → Int → Int → Int → Int → Int → Option (Y5 × Unit)) (i : Nat) (d3 : Y5), i < cnt → Inv i d3 → (∀ (d3' : Y5), Inv (i + 1) d3' → rc o0 d3' x4 t10 t11 t15 ((i + 1 : Nat) : Int) = res) → zz45_b6 rc (zz45_a6 rec) o0 d3 x4 t10 t11 t15 (i : Int) = res)
  (he : ∀ (rc : Y5 → Y5 → Int → Int → Int → Int → Int → Option (Y5 × Unit)) (d3 : Y5), Inv cnt d3 → zz45_b6 rc (zz45_a6 rec) o0 d3 x4 t10 t11 t15 (cnt : Int) = res)
  (i0 : Nat) (hi : i0 ≤ cnt) (d3 : Y5) (h0 : Inv i0 d3) : zz45_F6 big rec k o0 d3 x4 t10 t11 t15 (i0 : Int) = res := by
  have key : ∀ (m i : Nat) (d3 : Y5), i ≤ cnt → cnt < m + i → Inv i d3 → zz45_l6 big (zz45_a6 rec) m o0 d3 x4 t10 t11 t15 (i : Int) = res := by
    intro m
    induction m with
    | zero => intro i d3 h1 h2 h3; exact absurd h2 (by omega)
    | succ m ih =>
      intro i d3 h1 h2 h3
      rcases Nat.lt_or_ge i cnt with hlt | hge
      · exact hs _ i d3 hlt h3 (fun d3' h4 => ih (i + 1) d3' (by omega) (by omega) h4)
      · obtain rfl : i = cnt := by omega
        exact he _ d3 h3
  exact key big i0 d3 hi (by have := big_ge; omega) h0
theorem zz48_h3 {t2 : Y6} {t7 : Y3} {t8 : Int} (cnt : Nat) (Inv : Nat → Y6 → Prop) {res : Option (Y6 × Unit)} (hn : cnt ≤ 500000000000)
  (hs : ∀ (rc : Y6 → Y6 → Y3 → Int → Int → Option (Y6 × Unit)) (i : Nat) (f3 : Y6), i < cnt → Inv i f3 → (∀ (f3' : Y6), Inv (i + 1) f3' → rc t2 f3' t7 t8 ((i + 1 : Nat) : Int) = res) → zz48_b3 rc zz48_a3 t2 f3 t7 t8 (i : Int) = res)
  (he : ∀ (rc : Y6 → Y6 → Y3 → Int → Int → Option (Y6 × Unit)) (f3 : Y6), Inv cnt f3 → zz48_b3 rc zz48_a3 t2 f3 t7 t8 (cnt : Int) = res)
  (i0 : Nat) (hi : i0 ≤ cnt) (f3 : Y6) (h0 : Inv i0 f3) : zz48_F3 big t2 f3 t7 t8 (i0 : Int) = res := by
  have key : ∀ (m i : Nat) (f3 : Y6), i ≤ cnt → cnt < m + i → Inv i f3 → zz48_l3 big zz48_a3 m t2 f3 t7 t8 (i : Int) = res := by
    intro m
    induction m with
    | zero => intro i f3 h1 h2 h3; exact absurd h2 (by omega)
    | succ m ih =>
      intro i f3 h1 h2 h3
      rcases Nat.lt_or_ge i cnt with hlt | hge
      · exact hs _ i f3 hlt h3 (fun f3' h4 => ih (i + 1) f3' (by omega) (by omega) h4)
      · obtain rfl : i = cnt := by omega
        exact he _ f3 h3
  exact key big i0 f3 hi (by have := big_ge; omega) h0
theorem zz50_h4 {p1 : Y4} {t11 : Y4} {t12 : Int} (cnt : Nat) (Inv : Nat → Prop) {res : Option (Bool × Unit)} (hn : cnt ≤ 500000000000)
  (hs : ∀ (rc : Y4 → Y4 → Int → Int → Option (Bool × Unit)) (i : Nat), i < cnt → Inv i → (Inv (i + 1) → rc p1 t11 t12 ((i + 1 : Nat) : Int) = res) → zz50_b4 rc zz50_a4 p1 t11 t12 (i : Int) = res)
  (he : ∀ (rc : Y4 → Y4 → Int → Int → Option (Bool × Unit)), Inv cnt → zz50_b4 rc zz50_a4 p1 t11 t12 (cnt : Int) = res)
  (i0 : Nat) (hi : i0 ≤ cnt) (h0 : Inv i0) : zz50_F4 big p1 t11 t12 (i0 : Int) = res := by
  have key : ∀ (m i : Nat), i ≤ cnt → cnt < m + i → Inv i → zz50_l4 big zz50_a4 m p1 t11 t12 (i : Int) = res := by
    intro m
    induction m with
    | zero => intro i h1 h2 h3; exact absurd h2 (by omega)
    | succ m ih =>
      intro i h1 h2 h3
      rcases Nat.lt_or_ge i cnt with hlt | hge
      · exact hs _ i hlt h3 (fun h4 => ih (i + 1) (by omega) (by omega) h4)
      · obtain rfl : i = cnt := by omega
        exact he _ h3
  exact key big i0 hi (by have := big_ge; omega) h0
theorem zz52_h7 {x1 : Int} {y2 : Int} {t25 : Int} (cnt : Nat) (Inv : Nat → Y4 → Prop) {res : Option (Bool × (Y4 × Unit))} (hn : cnt ≤ 500000000000)
  (hs : ∀ (rc : Y4 → Int → Int → Int → Int → Option (Bool × (Y4 × Unit))) (i : Nat) (p0 : Y4), i < cnt → Inv i p0 → (∀ (p0' : Y4), Inv (i + 1) p0' → rc p0' x1 y2 t25 ((i + 1 : Nat) : Int) = res) → zz52_b7 rc zz52_a7 p0 x1 y2 t25 (i : Int) = res)
  (he : ∀ (rc : Y4 → Int → Int → Int → Int → Option (Bool × (Y4 × Unit))) (p0 : Y4), Inv cnt p0 → zz52_b7 rc zz52_a7 p0 x1 y2 t25 (cnt : Int) = res)
  (i0 : Nat) (hi : i0 ≤ cnt) (p0 : Y4) (h0 : Inv i0 p0) : zz52_F7 big p0 x1 y2 t25 (i0 : Int) = res := by
  have key : ∀ (m i : Nat) (p0 : Y4), i ≤ cnt → cnt < m + i → Inv i p0 → zz52_l7 big zz52_a7 m p0 x1 y2 t25 (i : Int) = res := by
    intro m
    induction m with
    | zero => intro i p0 h1 h2 h3; exact absurd h2 (by omega)
    | succ m ih =>
      intro i p0 h1 h2 h3
      rcases Nat.lt_or_ge i cnt with hlt | hge
      · exact hs _ i p0 hlt h3 (fun p0' h4 => ih (i + 1) p0' (by omega) (by omega) h4)
      · obtain rfl : i = cnt := by omega
        exact he _ p0 h3
  exact key big i0 p0 hi (by have := big_ge; omega) h0
theorem zz53_v3 {a2 : Y7} (mu : Y4 → Bool → Bool → Nat) (Inv : Y4 → Bool → Bool → Prop) {Q : Option (Bool × (Y4 × Unit)) → Prop}
  (hs : ∀ (rc : Y4 → Y7 → Bool → Bool → Option (Bool × (Y4 × Unit))) (p1 : Y4) (was5 : Bool) (changed6 : Bool), Inv p1 was5 changed6 → (∀ (p1' : Y4) (was5' : Bool) (changed6' : Bool), Inv p1' was5' changed6' → mu p1' was5' changed6' < mu p1 was5 changed6 → Q (rc p1' a2 was5' changed6')) → Q (zz53_b3 (zz53_F6 big rc zz53_a3) zz53_a3 p1 a2 was5 changed6))
  (p1 : Y4) (was5 : Bool) (changed6 : Bool) (hm : mu p1 was5 changed6 ≤ 500000000000) (h0 : Inv p1 was5 changed6) : Q (zz53_F3 big p1 a2 was5 changed6) := by
  have key : ∀ (m : Nat) (p1 : Y4) (was5 : Bool) (changed6 : Bool), mu p1 was5 changed6 < m → Inv p1 was5 changed6 → Q (zz53_l3 big zz53_a3 m p1 a2 was5 changed6) := by
    intro m
    induction m with
    | zero => intro p1 was5 changed6 h2 h3; exact absurd h2 (by omega)
    | succ m ih =>
      intro p1 was5 changed6 h2 h3
      exact hs _ p1 was5 changed6 h3 (fun p1' was5' changed6' h4 h5 => ih p1' was5' changed6' (by omega) h4)
  exact key big p1 was5 changed6 (by have := big_ge; omega) h0
theorem zz53_q6 {rec : Y4 → Y7 → Bool → Bool → Option (Bool × (Y4 × Unit))} {k : Y4 → Bool → Option (Bool × (Y4 × Unit))} {a2 : Y7} {t16 : (List Y6)} {t17 : Int} (cnt : Nat) (Inv : Nat → Y4 → Bool → Bool → Prop) {Q : Option (Bool × (Y4 × Unit)) → Prop} (hn : cnt ≤ 500000000000)
  (hs : ∀ (rc : Y4 → Y7 → Bool → Bool → (List Y6) → Int → Int → Option (Bool × (Y4 × Unit))) (i : Nat) (p1 : Y4) (was5 : Bool) (changed6 : Bool), i < cnt → Inv i p1 was5 changed6 → (∀ (p1' : Y4) (was5' : Bool) (changed6' : Bool), Inv (i + 1) p1' was5' changed6' → Q (rc p1' a2 was5' changed6' t16 t17 ((i + 1 : Nat) : Int))) → Q (zz53_b6 (zz53_F10 big rc (zz53_a6 rec)) (zz53_a6 rec) p1 a2 was5 changed6 t16 t17 (i : Int)))
  (he : ∀ (rc : Y4 → Y7 → Bool → Bool → (List Y6) → Int → Int → Option (Bool × (Y4 × Unit))) (p1 : Y4) (was5 : Bool) (changed6 : Bool), Inv cnt p1 was5 changed6 → Q (zz53_b6 (zz53_F10 big rc (zz53_a6 rec)) (zz53_a6 rec) p1 a2 was5 changed6 t16 t17 (cnt : Int)))
  (i0 : Nat) (hi : i0 ≤ cnt) (p1 : Y4) (was5 : Bool) (changed6 : Bool) (h0 : Inv i0 p1 was5 changed6) : Q (zz53_F6 big rec k p1 a2 was5 changed6 t16 t17 (i0 : Int)) := by
  have key : ∀ (m i : Nat) (p1 : Y4) (was5 : Bool) (changed6 : Bool), i ≤ cnt → cnt < m + i → Inv i p1 was5 changed6 → Q (zz53_l6 big (zz53_a6 rec) m p1 a2 was5 changed6 t16 t17 (i : Int)) := by
    intro m
    induction m with
    | zero => intro i p1 was5 changed6 h1 h2 h3; exact absurd h2 (by omega)
    | succ m ih =>
      intro i p1 was5 changed6 h1 h2 h3
      rcases Nat.lt_or_ge i cnt with hlt | hge
      · exact hs _ i p1 was5 changed6 hlt h3 (fun p1' was5' changed6' h4 => ih (i + 1) p1' was5' changed6' (by omega) (by omega) h4)
      · obtain rfl : i = cnt := by omega
        exact he _ p1 was5 changed6 h3
  exact key big i0 p1 was5 changed6 hi (by have := big_ge; omega) h0
theorem zz53_q10 {rec : Y4 → Y7 → Bool → Bool → (List Y6) → Int → Int → Option (Bool × (Y4 × Unit))} {k : Y4 → Y7 → Bool → Bool → Option (Bool × (Y4 × Unit))} {a2 : Y7} {f8 : Y6} {t16 : (List Y6)} {t17 : Int} {t18 : Int} (cnt : Nat) (Inv : Nat → Y4 → Bool → Bool → Int → Prop) {Q : Option (Bool × (Y4 × Unit)) → Prop} (hn : cnt ≤ 500000000000)
  (hs : ∀ (rc : Y4 → Y7 → Bool → Bool → Y6 → Int → Int → (List Y6) → Int → Int → Option (Bool × (Y4 × Unit))) (i : Nat) (p1 : Y4) (was5 : Bool) (changed6 : Bool) (step9 : Int), i < cnt → Inv i p1 was5 changed6 step9 → (∀ (p1' : Y4) (was5' : Bool) (changed6' : Bool) (step9' : Int), Inv (i + 1) p1' was5' changed6' step9' → Q (rc p1' a2 was5' changed6' f8 step9' ((i + 1 : Nat) : Int) t16 t17 t18)) → Q (zz53_b10 (zz53_F13 big rc (zz53_a10 rec)) (zz53_a10 rec) p1 a2 was5 changed6 f8 step9 (i : Int) t16 t17 t18))
  (he : ∀ (rc : Y4 → Y7 → Bool → Bool → Y6 → Int → Int → (List Y6) → Int → Int → Option (Bool × (Y4 × Unit))) (p1 : Y4) (was5 : Bool) (changed6 : Bool) (step9 : Int), Inv cnt p1 was5 changed6 step9 → Q (zz53_b10 (zz53_F13 big rc (zz53_a10 rec)) (zz53_a10 rec) p1 a2 was5 changed6 f8 step9 (cnt : Int) t16 t17 t18))
  (i0 : Nat) (hi : i0 ≤ cnt) (p1 : Y4) (was5 : Bool) (changed6 : Bool) (step9 : Int) (h0 : Inv i0 p1 was5 changed6 step9) : Q (zz53_F10 big rec k p1 a2 was5 changed6 f8 step9 (i0 : Int) t16 t17 t18) := by
  have key : ∀ (m i : Nat) (p1 : Y4) (was5 : Bool) (changed6 : Bool) (step9 : Int), i ≤ cnt → cnt < m + i → Inv i p1 was5 changed6 step9 → Q (zz53_l10 big (zz53_a10 rec) m p1 a2 was5 changed6 f8 step9 (i : Int) t16 t17 t18) := by
    intro m
    induction m with
    | zero => intro i p1 was5 changed6 step9 h1 h2 h3; exact absurd h2 (by omega)
    | succ m ih =>
      intro i p1 was5 changed6 step9 h1 h2 h3
      rcases Nat.lt_or_ge i cnt with hlt | hge
      · exact hs _ i p1 was5 changed6 step9 hlt h3 (fun p1' was5' changed6' step9' h4 => ih (i + 1) p1' was5' changed6' step9' (by omega) (by omega) h4)
      · obtain rfl : i = cnt := by omega
        exact he _ p1 was5 changed6 step9 h3
  exact key big i0 p1 was5 changed6 step9 hi (by have := big_ge; omega) h0
theorem zz53_q13 {rec : Y4 → Y7 → Bool → Bool → Y6 → Int → Int → (List Y6) → Int → Int → Option (Bool × (Y4 × Unit))} {k : Y4 → Y7 → Bool → Bool → (List Y6) → Int → Int → Option (Bool × (Y4 × Unit))} {a2 : Y7} {f8 : Y6} {step9 : Int} {k10 : Int} {t16 : (List Y6)} {t17 : Int} {t18 : Int} {t29 : Y4} {t30 : Int} (cnt : Nat) (Inv : Nat → Y4 → Bool → Bool → Prop) {Q : Option (Bool × (Y4 × Unit)) → Prop} (hn : cnt ≤ 500000000000)
  (hs : ∀ (rc : Y4 → Y7 → Bool → Bool → Y6 → Int → Int → (List Y6) → Int → Int → Y4 → Int → Int → Option (Bool × (Y4 × Unit))) (i : Nat) (p1 : Y4) (was5 : Bool) (changed6 : Bool), i < cnt → Inv i p1 was5 changed6 → (∀ (p1' : Y4) (was5' : Bool) (changed6' : Bool), Inv (i + 1) p1' was5' changed6' → Q (rc p1' a2 was5' changed6' f8 step9 k10 t16 t17 t18 t29 t30 ((i + 1 : Nat) : Int))) → Q (zz53_b13 rc (zz53_a13 rec) p1 a2 was5 changed6 f8 step9 k10 t16 t17 t18 t29 t30 (i : Int)))
  (he : ∀ (rc : Y4 → Y7 → Bool → Bool → Y6 → Int → Int → (List Y6) → Int → Int → Y4 → Int → Int → Option (Bool × (Y4 × Unit))) (p1 : Y4) (was5 : Bool) (changed6 : Bool), Inv cnt p1 was5 changed6 → Q (zz53_b13 rc (zz53_a13 rec) p1 a2 was5 changed6 f8 step9 k10 t16 t17 t18 t29 t30 (cnt : Int)))
  (i0 : Nat) (hi : i0 ≤ cnt) (p1 : Y4) (was5 : Bool) (changed6 : Bool) (h0 : Inv i0 p1 was5 changed6) : Q (zz53_F13 big rec k p1 a2 was5 changed6 f8 step9 k10 t16 t17 t18 t29 t30 (i0 : Int)) := by
  have key : ∀ (m i : Nat) (p1 : Y4) (was5 : Bool) (changed6 : Bool), i ≤ cnt → cnt < m + i → Inv i p1 was5 changed6 → Q (zz53_l13 big (zz53_a13 rec) m p1 a2 was5 changed6 f8 step9 k10 t16 t17 t18 t29 t30 (i : Int)) := by
    intro m
    induction m with
    | zero => intro i p1 was5 changed6 h1 h2 h3; exact absurd h2 (by omega)
    | succ m ih =>
      intro i p1 was5 changed6 h1 h2 h3
      rcases Nat.lt_or_ge i cnt with hlt | hge
      · exact hs _ i p1 was5 changed6 hlt h3 (fun p1' was5' changed6' h4 => ih (i + 1) p1' was5' changed6' (by omega) (by omega) h4)
      · obtain rfl : i = cnt := by omega
        exact he _ p1 was5 changed6 h3
  exact key big i0 p1 was5 changed6 hi (by have := big_ge; omega) h0
theorem zz55_h3 {t7 : Y4} {t8 : Int} (cnt : Nat) (Inv : Nat → Y4 → Prop) {res : Option (Y4 × Unit)} (hn : cnt ≤ 500000000000)
  (hs : ∀ (rc : Y4 → Y4 → Int → Int → Option (Y4 × Unit)) (i : Nat) (list3 : Y4), i < cnt → Inv i list3 → (∀ (list3' : Y4), Inv (i + 1) list3' → rc list3' t7 t8 ((i + 1 : Nat) : Int) = res) → zz55_b3 rc zz55_a3 list3 t7 t8 (i : Int) = res)
  (he : ∀ (rc : Y4 → Y4 → Int → Int → Option (Y4 × Unit)) (list3 : Y4), Inv cnt list3 → zz55_b3 rc zz55_a3 list3 t7 t8 (cnt : Int) = res)
  (i0 : Nat) (hi : i0 ≤ cnt) (list3 : Y4) (h0 : Inv i0 list3) : zz55_F3 big list3 t7 t8 (i0 : Int) = res := by
  have key : ∀ (m i : Nat) (list3 : Y4), i ≤ cnt → cnt < m + i → Inv i list3 → zz55_l3 big zz55_a3 m list3 t7 t8 (i : Int) = res := by
    intro m
    induction m with
    | zero => intro i list3 h1 h2 h3; exact absurd h2 (by omega)
    | succ m ih =>
      intro i list3 h1 h2 h3
      rcases Nat.lt_or_ge i cnt with hlt | hge
      · exact hs _ i list3 hlt h3 (fun list3' h4 => ih (i + 1) list3' (by omega) (by omega) h4)
      · obtain rfl : i = cnt := by omega
        exact he _ list3 h3
  exact key big i0 list3 hi (by have := big_ge; omega) h0
theorem zz56_h3 {o0 : Y5} {t2 : Y2} {t10 : Int} (cnt : Nat) (Inv : Nat → Y2 → Prop) {res : Option (Y2 × Unit)} (hn : cnt ≤ 500000000000)
  (hs : ∀ (rc : Y5 → Y2 → Y2 → Int → Int → Option (Y2 × Unit)) (i : Nat) (p3 : Y2), i < cnt → Inv i p3 → (∀ (p3' : Y2), Inv (i + 1) p3' → rc o0 t2 p3' t10 ((i + 1 : Nat) : Int) = res) → zz56_b3 (zz56_F7 big rc zz56_a3) zz56_a3 o0 t2 p3 t10 (i : Int) = res)
  (he : ∀ (rc : Y5 → Y2 → Y2 → Int → Int → Option (Y2 × Unit)) (p3 : Y2), Inv cnt p3 → zz56_b3 (zz56_F7 big rc zz56_a3) zz56_a3 o0 t2 p3 t10 (cnt : Int) = res)
  (i0 : Nat) (hi : i0 ≤ cnt) (p3 : Y2) (h0 : Inv i0 p3) : zz56_F3 big o0 t2 p3 t10 (i0 : Int) = res := by
  have key : ∀ (m i : Nat) (p3 : Y2), i ≤ cnt → cnt < m + i → Inv i p3 → zz56_l3 big zz56_a3 m o0 t2 p3 t10 (i : Int) = res := by
    intro m
    induction m with
    | zero => intro i p3 h1 h2 h3; exact absurd h2 (by omega)
    | succ m ih =>
      intro i p3 h1 h2 h3
      rcases Nat.lt_or_ge i cnt with hlt | hge
      · exact hs _ i p3 hlt h3 (fun p3' h4 => ih (i + 1) p3' (by omega) (by omega) h4)
      · obtain rfl : i = cnt := by omega
        exact he _ p3 h3
  exact key big i0 p3 hi (by have := big_ge; omega) h0
theorem zz56_h7 {rec : Y5 → Y2 → Y2 → Int → Int → Option (Y2 × Unit)} {k : Y2 → Y2 → Option (Y2 × Unit)} {o0 : Y5} {t2 : Y2} {p3 : Y2} {x4 : Int} {t10 : Int} {t11 : Int} {t16 : Int} (cnt : Nat) (Inv : Nat → Y4 → Prop) {res : Option (Y2 × Unit)} (hn : cnt ≤ 500000000000)
  (hs : ∀ (rc : Y5 → Y2 → Y2 → Int → Y4 → Int → Int → Int → Int → Option (Y2 × Unit)) (i : Nat) (list5 : Y4), i < cnt → Inv i list5 → (∀ (list5' : Y4), Inv (i + 1) list5' → rc o0 t2 p3 x4 list5' t10 t11 t16 ((i + 1 : Nat) : Int) = res) → zz56_b7 rc (zz56_a7 rec) o0 t2 p3 x4 list5 t10 t11 t16 (i : Int) = res)
  (he : ∀ (rc : Y5 → Y2 → Y2 → Int → Y4 → Int → Int → Int → Int → Option (Y2 × Unit)) (list5 : Y4), Inv cnt list5 → zz56_b7 rc (zz56_a7 rec) o0 t2 p3 x4 list5 t10 t11 t16 (cnt : Int) = res)
  (i0 : Nat) (hi : i0 ≤ cnt) (list5 : Y4) (h0 : Inv i0 list5) : zz56_F7 big rec k o0 t2 p3 x4 list5 t10 t11 t16 (i0 : Int) = res := by
  have key : ∀ (m i : Nat) (list5 : Y4), i ≤ cnt → cnt < m + i → Inv i list5 → zz56_l7 big (zz56_a7 rec) m o0 t2 p3 x4 list5 t10 t11 t16 (i : Int) = res := by
    intro m
    induction m with
    | zero => intro i list5 h1 h2 h3; exact absurd h2 (by omega)
    | succ m ih =>
      intro i list5 h1 h2 h3
      rcases Nat.lt_or_ge i cnt with hlt | hge
      · exact hs _ i list5 hlt h3 (fun list5' h4 => ih (i + 1) list5' (by omega) (by omega) h4)
      · obtain rfl : i = cnt := by omega
        exact he _ list5 h3
  exact key big i0 list5 hi (by have := big_ge; omega) h0
theorem zz57_h7 {c1 : Y4} {t4 : Y2} {l6 : Y1} {least8 : Y4} {t35 : Int} (cnt : Nat) (Inv : Nat → Y5 → Prop) {res : Option ((Y2 × (Bool × Unit)) × Unit)} (hn : cnt ≤ 500000000000)
  (hs : ∀ (rc : Y4 → Y2 → Y1 → Y4 → Y5 → Int → Int → Option ((Y2 × (Bool × Unit)) × Unit)) (i : Nat) (o9 : Y5), i < cnt → Inv i o9 → (∀ (o9' : Y5), Inv (i + 1) o9' → rc c1 t4 l6 least8 o9' t35 ((i + 1 : Nat) : Int) = res) → zz57_b7 (zz57_F10 big rc zz57_a7) zz57_a7 c1 t4 l6 least8 o9 t35 (i : Int) = res)
  (he : ∀ (rc : Y4 → Y2 → Y1 → Y4 → Y5 → Int → Int → Option ((Y2 × (Bool × Unit)) × Unit)) (o9 : Y5), Inv cnt o9 → zz57_b7 (zz57_F10 big rc zz57_a7) zz57_a7 c1 t4 l6 least8 o9 t35 (cnt : Int) = res)
  (i0 : Nat) (hi : i0 ≤ cnt) (o9 : Y5) (h0 : Inv i0 o9) : zz57_F7 big c1 t4 l6 least8 o9 t35 (i0 : Int) = res := by
  have key : ∀ (m i : Nat) (o9 : Y5), i ≤ cnt → cnt < m + i → Inv i o9 → zz57_l7 big zz57_a7 m c1 t4 l6 least8 o9 t35 (i : Int) = res := by
    intro m
    induction m with
    | zero => intro i o9 h1 h2 h3; exact absurd h2 (by omega)
    | succ m ih =>
      intro i o9 h1 h2 h3
      rcases Nat.lt_or_ge i cnt with hlt | hge
      · exact hs _ i o9 hlt h3 (fun o9' h4 => ih (i + 1) o9' (by omega) (by omega) h4)
      · obtain rfl : i = cnt := by omega
        exact he _ o9 h3
  exact key big i0 o9 hi (by have := big_ge; omega) h0
theorem zz57_h10 {rec : Y4 → Y2 → Y1 → Y4 → Y5 → Int → Int → Option ((Y2 × (Bool × Unit)) × Unit)} {k : Y2 → Y5 → Option ((Y2 × (Bool × Unit)) × Unit)} {c1 : Y4} {t4 : Y2} {l6 : Y1} {least8 : Y4} {i10 : Int} {x11 : Int} {t35 : Int} {t36 : Int} {t42 : Int} (cnt : Nat) (Inv : Nat → Y5 → Prop) {res : Option ((Y2 × (Bool × Unit)) × Unit)} (hn : cnt ≤ 500000000000)
  (hs : ∀ (rc : Y4 → Y2 → Y1 → Y4 → Y5 → Int → Int → Int → Int → Int → Int → Option ((Y2 × (Bool × Unit)) × Unit)) (i : Nat) (o9 : Y5), i < cnt → Inv i o9 → (∀ (o9' : Y5), Inv (i + 1) o9' → rc c1 t4 l6 least8 o9' i10 x11 t35 t36 t42 ((i + 1 : Nat) : Int) = res) → zz57_b10 rc (zz57_a10 rec) c1 t4 l6 least8 o9 i10 x11 t35 t36 t42 (i : Int) = res)
  (he : ∀ (rc : Y4 → Y2 → Y1 → Y4 → Y5 → Int → Int → Int → Int → Int → Int → Option ((Y2 × (Bool × Unit)) × Unit)) (o9 : Y5), Inv cnt o9 → zz57_b10 rc (zz57_a10 rec) c1 t4 l6 least8 o9 i10 x11 t35 t36 t42 (cnt : Int) = res)
  (i0 : Nat) (hi : i0 ≤ cnt) (o9 : Y5) (h0 : Inv i0 o9) : zz57_F10 big rec k c1 t4 l6 least8 o9 i10 x11 t35 t36 t42 (i0 : Int) = res := by
  have key : ∀ (m i : Nat) (o9 : Y5), i ≤ cnt → cnt < m + i → Inv i o9 → zz57_l10 big (zz57_a10 rec) m c1 t4 l6 least8 o9 i10 x11 t35 t36 t42 (i : Int) = res := by
    intro m
    induction m with
    | zero => intro i o9 h1 h2 h3; exact absurd h2 (by omega)
    | succ m ih =>
      intro i o9 h1 h2 h3
      rcases Nat.lt_or_ge i cnt with hlt | hge
      · exact hs _ i o9 hlt h3 (fun o9' h4 => ih (i + 1) o9' (by omega) (by omega) h4)
      · obtain rfl : i = cnt := by omega
        exact he _ o9 h3
  exact key big i0 o9 hi (by have := big_ge; omega) h0
end Go.Proofs.Ytmkabioglfeflaa
