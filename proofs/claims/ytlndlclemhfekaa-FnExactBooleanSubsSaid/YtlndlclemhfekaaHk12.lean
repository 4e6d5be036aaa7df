import Derived.Test.YtlndlclemhfekaaPLib
import Derived.Test.YtlndlclemhfekaaGk12
set_option linter.unusedVariables false
namespace Go.Proofs.Ytlndlclemhfekaa
open Go Go.Gx Go.Proofs

/-! rules for the loops -/
theorem zz4_h3 {a0 : Y3} (cnt : Nat) (Inv : Nat → Y3 → Prop) {res : Option Y2} (hn : cnt ≤ 500000000000)
  (hs : ∀ (rc : Y3 → Y3 → Int → Option Y2) (i : Nat) (out3 : Y3), i < cnt → Inv i out3 → (∀ (out3' : Y3), Inv (i + 1) out3' → rc a0 out3' ((i + 1 : Nat) : Int) = res) → zz4_b3 rc zz4_a3 a0 out3 (i : Int) = res)
  (he : ∀ (rc : Y3 → Y3 → Int → Option Y2) (out3 : Y3), Inv cnt out3 → zz4_b3 rc zz4_a3 a0 out3 (cnt : Int) = res)
  (i0 : Nat) (hi : i0 ≤ cnt) (out3 : Y3) (h0 : Inv i0 out3) : zz4_F3 big a0 out3 (i0 : Int) = res := by
  have key : ∀ (m i : Nat) (out3 : Y3), i ≤ cnt → cnt < m + i → Inv i out3 → zz4_l3 big zz4_a3 m a0 out3 (i : Int) = res := by
    intro m
    induction m with
    | zero => intro i out3 h1 h2 h3; exact absurd h2 (by omega)
    | succ m ih =>
      intro i out3 h1 h2 h3
      rcases Nat.lt_or_ge i cnt with hlt | hge
      · exact hs _ i out3 hlt h3 (fun out3' h4 => ih (i + 1) out3' (by omega) (by omega) h4)
      · obtain rfl : i = cnt := by omega
        exact he _ out3 h3
  exact key big i0 out3 hi (by have := big_ge; omega) h0
theorem zz8_h2 {l0 : Y4} {n1 : Int} (cnt : Nat) (Inv : Nat → Prop) {res : Option (Bool × Unit)} (hn : cnt ≤ 500000000000)
  (hs : ∀ (rc : Y4 → Int → Int → Option (Bool × Unit)) (i : Nat), i < cnt → Inv i → (Inv (i + 1) → rc l0 n1 ((i + 1 : Nat) : Int) = res) → zz8_b2 rc zz8_a2 l0 n1 (i : Int) = res)
  (he : ∀ (rc : Y4 → Int → Int → Option (Bool × Unit)), Inv cnt → zz8_b2 rc zz8_a2 l0 n1 (cnt : Int) = res)
  (i0 : Nat) (hi : i0 ≤ cnt) (h0 : Inv i0) : zz8_F2 big l0 n1 (i0 : Int) = res := by
  have key : ∀ (m i : Nat), i ≤ cnt → cnt < m + i → Inv i → zz8_l2 big zz8_a2 m l0 n1 (i : Int) = res := by
    intro m
    induction m with
    | zero => intro i h1 h2 h3; exact absurd h2 (by omega)
    | succ m ih =>
      intro i h1 h2 h3
      rcases Nat.lt_or_ge i cnt with hlt | hge
      · exact hs _ i hlt h3 (fun h4 => ih (i + 1) (by omega) (by omega) h4)
      · obtain rfl : i = cnt := by omega
        exact he _ h3
  exact key big i0 hi (by have := big_ge; omega) h0
theorem zz9_h2 {x0 : Y4} {y1 : Y4} (cnt : Nat) (Inv : Nat → Prop) {res : Option (Bool × Unit)} (hn : cnt ≤ 500000000000)
  (hs : ∀ (rc : Y4 → Y4 → Int → Option (Bool × Unit)) (i : Nat), i < cnt → Inv i → (Inv (i + 1) → rc x0 y1 ((i + 1 : Nat) : Int) = res) → zz9_b2 rc zz9_a2 x0 y1 (i : Int) = res)
  (he : ∀ (rc : Y4 → Y4 → Int → Option (Bool × Unit)), Inv cnt → zz9_b2 rc zz9_a2 x0 y1 (cnt : Int) = res)
  (i0 : Nat) (hi : i0 ≤ cnt) (h0 : Inv i0) : zz9_F2 big x0 y1 (i0 : Int) = res := by
  have key : ∀ (m i : Nat), i ≤ cnt → cnt < m + i → Inv i → zz9_l2 big zz9_a2 m x0 y1 (i : Int) = res := by
    intro m
    induction m with
    | zero => intro i h1 h2 h3; exact absurd h2 (by omega)
    | succ m ih =>
      intro i h1 h2 h3
      rcases Nat.lt_or_ge i cnt with hlt | hge
      · exact hs _ i hlt h3 (fun h4 => ih (i + 1) (by omega) (by omega) h4)
      · obtain rfl : i = cnt := by omega
        exact he _ h3
  exact key big i0 hi (by have := big_ge; omega) h0
theorem zz10_h5 {p1 : Y2} {n3 : Int} (cnt : Nat) (Inv : Nat → Prop) {res : Option (Bool × Unit)} (hn : cnt ≤ 500000000000)
  (hs : ∀ (rc : Y2 → Int → Int → Option (Bool × Unit)) (i : Nat), i < cnt → Inv i → (Inv (i + 1) → rc p1 n3 ((i + 1 : Nat) : Int) = res) → zz10_b5 rc (zz10_a5 (zz10_F10 big)) p1 n3 (i : Int) = res)
  (he : ∀ (rc : Y2 → Int → Int → Option (Bool × Unit)), Inv cnt → zz10_b5 rc (zz10_a5 (zz10_F10 big)) p1 n3 (cnt : Int) = res)
  (i0 : Nat) (hi : i0 ≤ cnt) (h0 : Inv i0) : zz10_F5 big p1 n3 (i0 : Int) = res := by
  have key : ∀ (m i : Nat), i ≤ cnt → cnt < m + i → Inv i → zz10_l5 big (zz10_a5 (zz10_F10 big)) m p1 n3 (i : Int) = res := by
    intro m
    induction m with
    | zero => intro i h1 h2 h3; exact absurd h2 (by omega)
    | succ m ih =>
      intro i h1 h2 h3
      rcases Nat.lt_or_ge i cnt with hlt | hge
      · exact hs _ i hlt h3 (fun h4 => ih (i + 1) (by omega) (by omega) h4)
      · obtain rfl : i = cnt := by omega
        exact he _ h3
  exact key big i0 hi (by have := big_ge; omega) h0
theorem zz10_h10 {p1 : Y2} {n3 : Int} (cnt : Nat) (Inv : Nat → Prop) {res : Option (Bool × Unit)} (hn : cnt ≤ 500000000000)
  (hs : ∀ (rc : Y2 → Int → Int → Option (Bool × Unit)) (i : Nat), i < cnt → Inv i → (Inv (i + 1) → rc p1 n3 ((i + 1 : Nat) : Int) = res) → zz10_b10 (zz10_F13 big rc zz10_a10) zz10_a10 p1 n3 (i : Int) = res)
  (he : ∀ (rc : Y2 → Int → Int → Option (Bool × Unit)), Inv cnt → zz10_b10 (zz10_F13 big rc zz10_a10) zz10_a10 p1 n3 (cnt : Int) = res)
  (i0 : Nat) (hi : i0 ≤ cnt) (h0 : Inv i0) : zz10_F10 big p1 n3 (i0 : Int) = res := by
  have key : ∀ (m i : Nat), i ≤ cnt → cnt < m + i → Inv i → zz10_l10 big zz10_a10 m p1 n3 (i : Int) = res := by
    intro m
    induction m with
    | zero => intro i h1 h2 h3; exact absurd h2 (by omega)
    | succ m ih =>
      intro i h1 h2 h3
      rcases Nat.lt_or_ge i cnt with hlt | hge
      · exact hs _ i hlt h3 (fun h4 => ih (i + 1) (by omega) (by omega) h4)
      · obtain rfl : i = cnt := by omega
        exact he _ h3
  exact key big i0 hi (by have := big_ge; omega) h0
theorem zz10_h13 {rec : Y2 → Int → Int → Option (Bool × Unit)} {k : Option (Bool × Unit)} {p1 : Y2} {n3 : Int} {x5 : Int} (cnt : Nat) (Inv : Nat → Prop) {res : Option (Bool × Unit)} (hn : cnt ≤ 500000000000)
  (hs : ∀ (rc : Y2 → Int → Int → Int → Option (Bool × Unit)) (i : Nat), i < cnt → Inv i → (Inv (i + 1) → rc p1 n3 x5 ((i + 1 : Nat) : Int) = res) → zz10_b13 rc (zz10_a13 rec) p1 n3 x5 (i : Int) = res)
  (he : ∀ (rc : Y2 → Int → Int → Int → Option (Bool × Unit)), Inv cnt → zz10_b13 rc (zz10_a13 rec) p1 n3 x5 (cnt : Int) = res)
  (i0 : Nat) (hi : i0 ≤ cnt) (h0 : Inv i0) : zz10_F13 big rec k p1 n3 x5 (i0 : Int) = res := by
  have key : ∀ (m i : Nat), i ≤ cnt → cnt < m + i → Inv i → zz10_l13 big (zz10_a13 rec) m p1 n3 x5 (i : Int) = res := by
    intro m
    induction m with
    | zero => intro i h1 h2 h3; exact absurd h2 (by omega)
    | succ m ih =>
      intro i h1 h2 h3
      rcases Nat.lt_or_ge i cnt with hlt | hge
      · exact hs _ i hlt h3 (fun h4 => ih (i + 1) (by omega) (by omega) h4)
      · obtain rfl : i = cnt := by omega
        exact he _ h3
  exact key big i0 hi (by have := big_ge; omega) h0
theorem zz12_h3 {p1 : Y2} {t2 : Y2} (cnt : Nat) (Inv : Nat → Y2 → Prop) {res : Option (Y2 × Unit)} (hn : cnt ≤ 500000000000)
  (hs : ∀ (rc : Y2 → Y2 → Y2 → Int → Option (Y2 × Unit)) (i : Nat) (out3 : Y2), i < cnt → Inv i out3 → (∀ (out3' : Y2), Inv (i + 1) out3' → rc p1 t2 out3' ((i + 1 : Nat) : Int) = res) → zz12_b3 (zz12_F7 big rc zz12_a3) zz12_a3 p1 t2 out3 (i : Int) = res)
  (he : ∀ (rc : Y2 → Y2 → Y2 → Int → Option (Y2 × Unit)) (out3 : Y2), Inv cnt out3 → zz12_b3 (zz12_F7 big rc zz12_a3) zz12_a3 p1 t2 out3 (cnt : Int) = res)
  (i0 : Nat) (hi : i0 ≤ cnt) (out3 : Y2) (h0 : Inv i0 out3) : zz12_F3 big p1 t2 out3 (i0 : Int) = res := by
  have key : ∀ (m i : Nat) (out3 : Y2), i ≤ cnt → cnt < m + i → Inv i out3 → zz12_l3 big zz12_a3 m p1 t2 out3 (i : Int) = res := by
    intro m
    induction m with
    | zero => intro i out3 h1 h2 h3; exact absurd h2 (by omega)
    | succ m ih =>
      intro i out3 h1 h2 h3
      rcases Nat.lt_or_ge i cnt with hlt | hge
      · exact hs _ i out3 hlt h3 (fun out3' h4 => ih (i + 1) out3' (by omega) (by omega) h4)
      · obtain rfl : i = cnt := by omega
        exact he _ out3 h3
  exact key big i0 out3 hi (by have := big_ge; omega) h0
theorem zz12_h7 {rec : Y2 → Y2 → Y2 → Int → Option (Y2 × Unit)} {k : Y2 → Y2 → Option (Y2 × Unit)} {p1 : Y2} {t2 : Y2} {out3 : Y2} {x4 : Int} (cnt : Nat) (Inv : Nat → Y4 → Prop) {res : Option (Y2 × Unit)} (hn : cnt ≤ 500000000000)
  (hs : ∀ (rc : Y2 → Y2 → Y2 → Int → Y4 → Int → Option (Y2 × Unit)) (i : Nat) (below5 : Y4), i < cnt → Inv i below5 → (∀ (below5' : Y4), Inv (i + 1) below5' → rc p1 t2 out3 x4 below5' ((i + 1 : Nat) : Int) = res) → zz12_b7 rc (zz12_a7 rec) p1 t2 out3 x4 below5 (i : Int) = res)
  (he : ∀ (rc : Y2 → Y2 → Y2 → Int → Y4 → Int → Option (Y2 × Unit)) (below5 : Y4), Inv cnt below5 → zz12_b7 rc (zz12_a7 rec) p1 t2 out3 x4 below5 (cnt : Int) = res)
  (i0 : Nat) (hi : i0 ≤ cnt) (below5 : Y4) (h0 : Inv i0 below5) : zz12_F7 big rec k p1 t2 out3 x4 below5 (i0 : Int) = res := by
  have key : ∀ (m i : Nat) (below5 : Y4), i ≤ cnt → cnt < m + i → Inv i below5 → zz12_l7 big (zz12_a7 rec) m p1 t2 out3 x4 below5 (i : Int) = res := by
    intro m
    induction m with
    | zero => intro i below5 h1 h2 h3; exact absurd h2 (by omega)
    | succ m ih =>
      intro i below5 h1 h2 h3
      rcases Nat.lt_or_ge i cnt with hlt | hge
      · exact hs _ i below5 hlt h3 (fun below5' h4 => ih (i + 1) below5' (by omega) (by omega) h4)
      · obtain rfl : i = cnt := by omega
        exact he _ below5 h3
  exact key big i0 below5 hi (by have := big_ge; omega) h0
theorem zz13_h3 {some1 : Y4} {p2 : Y2} (cnt : Nat) (Inv : Nat → Y4 → Prop) {res : Option (Int × Unit)} (hn : cnt ≤ 500000000000)
  (hs : ∀ (rc : Y4 → Y2 → Y4 → Int → Option (Int × Unit)) (i : Nat) (low5 : Y4), i < cnt → Inv i low5 → (∀ (low5' : Y4), Inv (i + 1) low5' → rc some1 p2 low5' ((i + 1 : Nat) : Int) = res) → zz13_b3 (zz13_F7 big rc (zz13_a3 (zz13_F13 big))) (zz13_a3 (zz13_F13 big)) some1 p2 low5 (i : Int) = res)
  (he : ∀ (rc : Y4 → Y2 → Y4 → Int → Option (Int × Unit)) (low5 : Y4), Inv cnt low5 → zz13_b3 (zz13_F7 big rc (zz13_a3 (zz13_F13 big))) (zz13_a3 (zz13_F13 big)) some1 p2 low5 (cnt : Int) = res)
  (i0 : Nat) (hi : i0 ≤ cnt) (low5 : Y4) (h0 : Inv i0 low5) : zz13_F3 big some1 p2 low5 (i0 : Int) = res := by
  have key : ∀ (m i : Nat) (low5 : Y4), i ≤ cnt → cnt < m + i → Inv i low5 → zz13_l3 big (zz13_a3 (zz13_F13 big)) m some1 p2 low5 (i : Int) = res := by
    intro m
    induction m with
    | zero => intro i low5 h1 h2 h3; exact absurd h2 (by omega)
    | succ m ih =>
      intro i low5 h1 h2 h3
      rcases Nat.lt_or_ge i cnt with hlt | hge
      · exact hs _ i low5 hlt h3 (fun low5' h4 => ih (i + 1) low5' (by omega) (by omega) h4)
      · obtain rfl : i = cnt := by omega
        exact he _ low5 h3
  exact key big i0 low5 hi (by have := big_ge; omega) h0
theorem zz13_h7 {rec : Y4 → Y2 → Y4 → Int → Option (Int × Unit)} {k : Y2 → Y4 → Option (Int × Unit)} {some1 : Y4} {p2 : Y2} {low5 : Y4} {z6 : Int} (cnt : Nat) (Inv : Nat → Bool → Prop) {res : Option (Int × Unit)} (hn : cnt ≤ 500000000000)
  (hs : ∀ (rc : Y4 → Y2 → Y4 → Int → Bool → Int → Option (Int × Unit)) (i : Nat) (all7 : Bool), i < cnt → Inv i all7 → (∀ (all7' : Bool), Inv (i + 1) all7' → rc some1 p2 low5 z6 all7' ((i + 1 : Nat) : Int) = res) → zz13_b7 rc (zz13_a7 rec) some1 p2 low5 z6 all7 (i : Int) = res)
  (he : ∀ (rc : Y4 → Y2 → Y4 → Int → Bool → Int → Option (Int × Unit)) (all7 : Bool), Inv cnt all7 → zz13_b7 rc (zz13_a7 rec) some1 p2 low5 z6 all7 (cnt : Int) = res)
  (i0 : Nat) (hi : i0 ≤ cnt) (all7 : Bool) (h0 : Inv i0 all7) : zz13_F7 big rec k some1 p2 low5 z6 all7 (i0 : Int) = res := by
  have key : ∀ (m i : Nat) (all7 : Bool), i ≤ cnt → cnt < m + i → Inv i all7 → zz13_l7 big (zz13_a7 rec) m some1 p2 low5 z6 all7 (i : Int) = res := by
    intro m
    induction m with
    | zero => intro i all7 h1 h2 h3; exact absurd h2 (by omega)
    | succ m ih =>
      intro i all7 h1 h2 h3
      rcases Nat.lt_or_ge i cnt with hlt | hge
      · exact hs _ i all7 hlt h3 (fun all7' h4 => ih (i + 1) all7' (by omega) (by omega) h4)
      · obtain rfl : i = cnt := by omega
        exact he _ all7 h3
  exact key big i0 all7 hi (by have := big_ge; omega) h0
theorem zz13_h13 {p2 : Y2} {low5 : Y4} (cnt : Nat) (Inv : Nat → Prop) {res : Option (Int × Unit)} (hn : cnt ≤ 500000000000)
  (hs : ∀ (rc : Y2 → Y4 → Int → Option (Int × Unit)) (i : Nat), i < cnt → Inv i → (Inv (i + 1) → rc p2 low5 ((i + 1 : Nat) : Int) = res) → zz13_b13 rc zz13_a13 p2 low5 (i : Int) = res)
  (he : ∀ (rc : Y2 → Y4 → Int → Option (Int × Unit)), Inv cnt → zz13_b13 rc zz13_a13 p2 low5 (cnt : Int) = res)
  (i0 : Nat) (hi : i0 ≤ cnt) (h0 : Inv i0) : zz13_F13 big p2 low5 (i0 : Int) = res := by
  have key : ∀ (m i : Nat), i ≤ cnt → cnt < m + i → Inv i → zz13_l13 big zz13_a13 m p2 low5 (i : Int) = res := by
    intro m
    induction m with
    | zero => intro i h1 h2 h3; exact absurd h2 (by omega)
    | succ m ih =>
      intro i h1 h2 h3
      rcases Nat.lt_or_ge i cnt with hlt | hge
      · exact hs _ i hlt h3 (fun h4 => ih (i + 1) (by omega) (by omega) h4)
      · obtain rfl : i = cnt := by omega
        exact he _ h3
  exact key big i0 hi (by have := big_ge; omega) h0
theorem zz14_h5 {p1 : Y2} {dual3 : Y2} (cnt : Nat) (Inv : Nat → Prop) {res : Option (Bool × Unit)} (hn : cnt ≤ 500000000000)
  (hs : ∀ (rc : Y2 → Y2 → Int → Option (Bool × Unit)) (i : Nat), i < cnt → Inv i → (Inv (i + 1) → rc p1 dual3 ((i + 1 : Nat) : Int) = res) → zz14_b5 (zz14_F8 big rc zz14_a5) zz14_a5 p1 dual3 (i : Int) = res)
  (he : ∀ (rc : Y2 → Y2 → Int → Option (Bool × Unit)), Inv cnt → zz14_b5 (zz14_F8 big rc zz14_a5) zz14_a5 p1 dual3 (cnt : Int) = res)
  (i0 : Nat) (hi : i0 ≤ cnt) (h0 : Inv i0) : zz14_F5 big p1 dual3 (i0 : Int) = res := by
  have key : ∀ (m i : Nat), i ≤ cnt → cnt < m + i → Inv i → zz14_l5 big zz14_a5 m p1 dual3 (i : Int) = res := by
    intro m
    induction m with
    | zero => intro i h1 h2 h3; exact absurd h2 (by omega)
    | succ m ih =>
      intro i h1 h2 h3
      rcases Nat.lt_or_ge i cnt with hlt | hge
      · exact hs _ i hlt h3 (fun h4 => ih (i + 1) (by omega) (by omega) h4)
      · obtain rfl : i = cnt := by omega
        exact he _ h3
  exact key big i0 hi (by have := big_ge; omega) h0
theorem zz14_h8 {rec : Y2 → Y2 → Int → Option (Bool × Unit)} {k : Option (Bool × Unit)} {p1 : Y2} {dual3 : Y2} {x4 : Int} (cnt : Nat) (Inv : Nat → Prop) {res : Option (Bool × Unit)} (hn : cnt ≤ 500000000000)
  (hs : ∀ (rc : Y2 → Y2 → Int → Int → Option (Bool × Unit)) (i : Nat), i < cnt → Inv i → (Inv (i + 1) → rc p1 dual3 x4 ((i + 1 : Nat) : Int) = res) → zz14_b8 rc (zz14_a8 rec) p1 dual3 x4 (i : Int) = res)
  (he : ∀ (rc : Y2 → Y2 → Int → Int → Option (Bool × Unit)), Inv cnt → zz14_b8 rc (zz14_a8 rec) p1 dual3 x4 (cnt : Int) = res)
  (i0 : Nat) (hi : i0 ≤ cnt) (h0 : Inv i0) : zz14_F8 big rec k p1 dual3 x4 (i0 : Int) = res := by
  have key : ∀ (m i : Nat), i ≤ cnt → cnt < m + i → Inv i → zz14_l8 big (zz14_a8 rec) m p1 dual3 x4 (i : Int) = res := by
    intro m
    induction m with
    | zero => intro i h1 h2 h3; exact absurd h2 (by omega)
    | succ m ih =>
      intro i h1 h2 h3
      rcases Nat.lt_or_ge i cnt with hlt | hge
      · exact hs _ i hlt h3 (fun h4 => ih (i + 1) (by omega) (by omega) h4)
      · obtain rfl : i = cnt := by omega
        exact he _ h3
  exact key big i0 hi (by have := big_ge; omega) h0
theorem zz17_q3 {p1 : Y2} {n4 : Int} (cnt : Nat) (Inv : Nat → Prop) {Q : Option ((Y4 × (Bool × Unit)) × Unit) → Prop} (hn : cnt ≤ 500000000000)
  (hs : ∀ (rc : Y2 → Int → Int → Option ((Y4 × (Bool × Unit)) × Unit)) (i : Nat), i < cnt → Inv i → (Inv (i + 1) → Q (rc p1 n4 ((i + 1 : Nat) : Int))) → Q (zz17_b3 (zz17_F6 big rc zz17_a3) zz17_a3 p1 n4 (i : Int)))
  (he : ∀ (rc : Y2 → Int → Int → Option ((Y4 × (Bool × Unit)) × Unit)), Inv cnt → Q (zz17_b3 (zz17_F6 big rc zz17_a3) zz17_a3 p1 n4 (cnt : Int)))
  (i0 : Nat) (hi : i0 ≤ cnt) (h0 : Inv i0) : Q (zz17_F3 big p1 n4 (i0 : Int)) := by
  have key : ∀ (m i : Nat), i ≤ cnt → cnt < m + i → Inv i → Q (zz17_l3 big zz17_a3 m p1 n4 (i : Int)) := by
    intro m
    induction m with
    | zero => intro i h1 h2 h3; exact absurd h2 (by omega)
    | succ m ih =>
      intro i h1 h2 h3
      rcases Nat.lt_or_ge i cnt with hlt | hge
      · exact hs _ i hlt h3 (fun h4 => ih (i + 1) (by omega) (by omega) h4)
      · obtain rfl : i = cnt := by omega
        exact he _ h3
  exact key big i0 hi (by have := big_ge; omega) h0
theorem zz17_q6 {rec : Y2 → Int → Int → Option ((Y4 × (Bool × Unit)) × Unit)} {k : Option ((Y4 × (Bool × Unit)) × Unit)} {p1 : Y2} {n4 : Int} {x5 : Int} (cnt : Nat) (Inv : Nat → Prop) {Q : Option ((Y4 × (Bool × Unit)) × Unit) → Prop} (hn : cnt ≤ 500000000000)
  (hs : ∀ (rc : Y2 → Int → Int → Int → Option ((Y4 × (Bool × Unit)) × Unit)) (i : Nat), i < cnt → Inv i → (Inv (i + 1) → Q (rc p1 n4 x5 ((i + 1 : Nat) : Int))) → Q (zz17_b6 (zz17_F9 big rc (zz17_a6 rec)) (zz17_a6 rec) p1 n4 x5 (i : Int)))
  (he : ∀ (rc : Y2 → Int → Int → Int → Option ((Y4 × (Bool × Unit)) × Unit)), Inv cnt → Q (zz17_b6 (zz17_F9 big rc (zz17_a6 rec)) (zz17_a6 rec) p1 n4 x5 (cnt : Int)))
  (i0 : Nat) (hi : i0 ≤ cnt) (h0 : Inv i0) : Q (zz17_F6 big rec k p1 n4 x5 (i0 : Int)) := by
  have key : ∀ (m i : Nat), i ≤ cnt → cnt < m + i → Inv i → Q (zz17_l6 big (zz17_a6 rec) m p1 n4 x5 (i : Int)) := by
    intro m
    induction m with
    | zero => intro i h1 h2 h3; exact absurd h2 (by omega)
    | succ m ih =>
      intro i h1 h2 h3
      rcases Nat.lt_or_ge i cnt with hlt | hge
      · exact hs _ i hlt h3 (fun h4 => ih (i + 1) (by omega) (by omega) h4)
      · obtain rfl : i = cnt := by omega
        exact he _ h3
  exact key big i0 hi (by have := big_ge; omega) h0
theorem zz17_q9 {rec : Y2 → Int → Int → Int → Option ((Y4 × (Bool × Unit)) × Unit)} {k : Y2 → Int → Int → Option ((Y4 × (Bool × Unit)) × Unit)} {p1 : Y2} {n4 : Int} {x5 : Int} {y6 : Int} (cnt : Nat) (Inv : Nat → Prop) {Q : Option ((Y4 × (Bool × Unit)) × Unit) → Prop} (hn : cnt ≤ 500000000000)
  (hs : ∀ (rc : Y2 → Int → Int → Int → Int → Option ((Y4 × (Bool × Unit)) × Unit)) (i : Nat), i < cnt → Inv i → (Inv (i + 1) → Q (rc p1 n4 x5 y6 ((i + 1 : Nat) : Int))) → Q (zz17_b9 rc (zz17_a9 rec) p1 n4 x5 y6 (i : Int)))
  (he : ∀ (rc : Y2 → Int → Int → Int → Int → Option ((Y4 × (Bool × Unit)) × Unit)), Inv cnt → Q (zz17_b9 rc (zz17_a9 rec) p1 n4 x5 y6 (cnt : Int)))
  (i0 : Nat) (hi : i0 ≤ cnt) (h0 : Inv i0) : Q (zz17_F9 big rec k p1 n4 x5 y6 (i0 : Int)) := by
  have key : ∀ (m i : Nat), i ≤ cnt → cnt < m + i → Inv i → Q (zz17_l9 big (zz17_a9 rec) m p1 n4 x5 y6 (i : Int)) := by
    intro m
    induction m with
    | zero => intro i h1 h2 h3; exact absurd h2 (by omega)
    | succ m ih =>
      intro i h1 h2 h3
      rcases Nat.lt_or_ge i cnt with hlt | hge
      · exact hs _ i hlt h3 (fun h4 => ih (i + 1) (by omega) (by omega) h4)
      · obtain rfl : i = cnt := by omega
        exact he _ h3
  exact key big i0 hi (by have := big_ge; omega) h0
theorem zz21_h3 {x1 : Int} {y2 : Int} {z3 : Int} {p4 : Y2} (cnt : Nat) (Inv : Nat → Y4 → Prop) {res : Option (Y4 × Unit)} (hn : cnt ≤ 500000000000)
  (hs : ∀ (rc : Int → Int → Int → Y2 → Y4 → Int → Option (Y4 × Unit)) (i : Nat) (out9 : Y4), i < cnt → Inv i out9 → (∀ (out9' : Y4), Inv (i + 1) out9' → rc x1 y2 z3 p4 out9' ((i + 1 : Nat) : Int) = res) → zz21_b3 rc zz21_a3 x1 y2 z3 p4 out9 (i : Int) = res)
  (he : ∀ (rc : Int → Int → Int → Y2 → Y4 → Int → Option (Y4 × Unit)) (out9 : Y4), Inv cnt out9 → zz21_b3 rc zz21_a3 x1 y2 z3 p4 out9 (cnt : Int) = res)
  (i0 : Nat) (hi : i0 ≤ cnt) (out9 : Y4) (h0 : Inv i0 out9) : zz21_F3 big x1 y2 z3 p4 out9 (i0 : Int) = res := by
  have key : ∀ (m i : Nat) (out9 : Y4), i ≤ cnt → cnt < m + i → Inv i out9 → zz21_l3 big zz21_a3 m x1 y2 z3 p4 out9 (i : Int) = res := by
    intro m
    induction m with
    | zero => intro i out9 h1 h2 h3; exact absurd h2 (by omega)
    | succ m ih =>
      intro i out9 h1 h2 h3
      rcases Nat.lt_or_ge i cnt with hlt | hge
      · exact hs _ i out9 hlt h3 (fun out9' h4 => ih (i + 1) out9' (by omega) (by omega) h4)
      · obtain rfl : i = cnt := by omega
        exact he _ out9 h3
  exact key big i0 out9 hi (by have := big_ge; omega) h0
theorem zz22_h3 {p1 : Y2} (cnt : Nat) (Inv : Nat → Y4 → Prop) {res : Option (Y4 × Unit)} (hn : cnt ≤ 500000000000)
  (hs : ∀ (rc : Y2 → Y4 → Int → Option (Y4 × Unit)) (i : Nat) (out3 : Y4), i < cnt → Inv i out3 → (∀ (out3' : Y4), Inv (i + 1) out3' → rc p1 out3' ((i + 1 : Nat) : Int) = res) → zz22_b3 rc zz22_a3 p1 out3 (i : Int) = res)
  (he : ∀ (rc : Y2 → Y4 → Int → Option (Y4 × Unit)) (out3 : Y4), Inv cnt out3 → zz22_b3 rc zz22_a3 p1 out3 (cnt : Int) = res)
  (i0 : Nat) (hi : i0 ≤ cnt) (out3 : Y4) (h0 : Inv i0 out3) : zz22_F3 big p1 out3 (i0 : Int) = res := by
  have key : ∀ (m i : Nat) (out3 : Y4), i ≤ cnt → cnt < m + i → Inv i out3 → zz22_l3 big zz22_a3 m p1 out3 (i : Int) = res := by
    intro m
    induction m with
    | zero => intro i out3 h1 h2 h3; exact absurd h2 (by omega)
    | succ m ih =>
      intro i out3 h1 h2 h3
      rcases Nat.lt_or_ge i cnt with hlt | hge
      · exact hs _ i out3 hlt h3 (fun out3' h4 => ih (i + 1) out3' (by omega) (by omega) h4)
      · obtain rfl : i = cnt := by omega
        exact he _ out3 h3
  exact key big i0 out3 hi (by have := big_ge; omega) h0
theorem zz24_h3 {p1 : Y2} (cnt : Nat) (Inv : Nat → Y4 → Prop) {res : Option (Y4 × Unit)} (hn : cnt ≤ 500000000000)
  (hs : ∀ (rc : Y2 → Y4 → Int → Option (Y4 × Unit)) (i : Nat) (out3 : Y4), i < cnt → Inv i out3 → (∀ (out3' : Y4), Inv (i + 1) out3' → rc p1 out3' ((i + 1 : Nat) : Int) = res) → zz24_b3 rc zz24_a3 p1 out3 (i : Int) = res)
  (he : ∀ (rc : Y2 → Y4 → Int → Option (Y4 × Unit)) (out3 : Y4), Inv cnt out3 → zz24_b3 rc zz24_a3 p1 out3 (cnt : Int) = res)
  (i0 : Nat) (hi : i0 ≤ cnt) (out3 : Y4) (h0 : Inv i0 out3) : zz24_F3 big p1 out3 (i0 : Int) = res := by
  have key : ∀ (m i : Nat) (out3 : Y4), i ≤ cnt → cnt < m + i → Inv i out3 → zz24_l3 big zz24_a3 m p1 out3 (i : Int) = res := by
    intro m
    induction m with
    | zero => intro i out3 h1 h2 h3; exact absurd h2 (by omega)
    | succ m ih =>
      intro i out3 h1 h2 h3
      rcases Nat.lt_or_ge i cnt with hlt | hge
      · exact hs _ i out3 hlt h3 (fun out3' h4 => ih (i + 1) out3' (by omega) (by omega) h4)
      · obtain rfl : i = cnt := by omega
        exact he _ out3 h3
  exact key big i0 out3 hi (by have := big_ge; omega) h0
theorem zz25_h3 {bits0 : Int} (cnt : Nat) (Inv : Nat → Y4 → Prop) {res : Option (Y4 × Unit)} (hn : cnt ≤ 500000000000)
  (hs : ∀ (rc : Int → Y4 → Int → Option (Y4 × Unit)) (i : Nat) (out3 : Y4), i < cnt → Inv i out3 → (∀ (out3' : Y4), Inv (i + 1) out3' → rc bits0 out3' ((i + 1 : Nat) : Int) = res) → zz25_b3 rc zz25_a3 bits0 out3 (i : Int) = res)
  (he : ∀ (rc : Int → Y4 → Int → Option (Y4 × Unit)) (out3 : Y4), Inv cnt out3 → zz25_b3 rc zz25_a3 bits0 out3 (cnt : Int) = res)
  (i0 : Nat) (hi : i0 ≤ cnt) (out3 : Y4) (h0 : Inv i0 out3) : zz25_F3 big bits0 out3 (i0 : Int) = res := by
  have key : ∀ (m i : Nat) (out3 : Y4), i ≤ cnt → cnt < m + i → Inv i out3 → zz25_l3 big zz25_a3 m bits0 out3 (i : Int) = res := by
    intro m
    induction m with
    | zero => intro i out3 h1 h2 h3; exact absurd h2 (by omega)
    | succ m ih =>
      intro i out3 h1 h2 h3
      rcases Nat.lt_or_ge i cnt with hlt | hge
      · exact hs _ i out3 hlt h3 (fun out3' h4 => ih (i + 1) out3' (by omega) (by omega) h4)
      · obtain rfl : i = cnt := by omega
        exact he _ out3 h3
  exact key big i0 out3 hi (by have := big_ge; omega) h0
theorem zz26_h4 {not1 : Y4} {list2 : Y4} {p3 : Y2} (cnt : Nat) (Inv : Nat → Prop) {res : Option (Bool × Unit)} (hn : cnt ≤ 500000000000)
  (hs : ∀ (rc : Y4 → Y4 → Y2 → Int → Option (Bool × Unit)) (i : Nat), i < cnt → Inv i → (Inv (i + 1) → rc not1 list2 p3 ((i + 1 : Nat) : Int) = res) → zz26_b4 (zz26_F9 big rc zz26_a4) zz26_a4 not1 list2 p3 (i : Int) = res)
  (he : ∀ (rc : Y4 → Y4 → Y2 → Int → Option (Bool × Unit)), Inv cnt → zz26_b4 (zz26_F9 big rc zz26_a4) zz26_a4 not1 list2 p3 (cnt : Int) = res)
  (i0 : Nat) (hi : i0 ≤ cnt) (h0 : Inv i0) : zz26_F4 big not1 list2 p3 (i0 : Int) = res := by
  have key : ∀ (m i : Nat), i ≤ cnt → cnt < m + i → Inv i → zz26_l4 big zz26_a4 m not1 list2 p3 (i : Int) = res := by
    intro m
    induction m with
    | zero => intro i h1 h2 h3; exact absurd h2 (by omega)
    | succ m ih =>
      intro i h1 h2 h3
      rcases Nat.lt_or_ge i cnt with hlt | hge
      · exact hs _ i hlt h3 (fun h4 => ih (i + 1) (by omega) (by omega) h4)
      · obtain rfl : i = cnt := by omega
        exact he _ h3
  exact key big i0 hi (by have := big_ge; omega) h0
theorem zz26_h9 {rec : Y4 → Y4 → Y2 → Int → Option (Bool × Unit)} {k : Option (Bool × Unit)} {not1 : Y4} {list2 : Y4} {p3 : Y2} {i7 : Int} (cnt : Nat) (Inv : Nat → Prop) {res : Option (Bool × Unit)} (hn : cnt ≤ 500000000000)
  (hs : ∀ (rc : Y4 → Y4 → Y2 → Int → Int → Option (Bool × Unit)) (i : Nat), i < cnt → Inv i → (Inv (i + 1) → rc not1 list2 p3 i7 ((i + 1 : Nat) : Int) = res) → zz26_b9 rc (zz26_a9 rec) not1 list2 p3 i7 (i : Int) = res)
  (he : ∀ (rc : Y4 → Y4 → Y2 → Int → Int → Option (Bool × Unit)), Inv cnt → zz26_b9 rc (zz26_a9 rec) not1 list2 p3 i7 (cnt : Int) = res)
  (i0 : Nat) (hi : i0 ≤ cnt) (h0 : Inv i0) : zz26_F9 big rec k not1 list2 p3 i7 (i0 : Int) = res := by
  have key : ∀ (m i : Nat), i ≤ cnt → cnt < m + i → Inv i → zz26_l9 big (zz26_a9 rec) m not1 list2 p3 i7 (i : Int) = res := by
    intro m
    induction m with
    | zero => intro i h1 h2 h3; exact absurd h2 (by omega)
    | succ m ih =>
      intro i h1 h2 h3
      rcases Nat.lt_or_ge i cnt with hlt | hge
      · exact hs _ i hlt h3 (fun h4 => ih (i + 1) (by omega) (by omega) h4)
      · obtain rfl : i = cnt := by omega
        exact he _ h3
  exact key big i0 hi (by have := big_ge; omega) h0
theorem zz27_h2 {a0 : Y4} {b1 : Y4} (cnt : Nat) (Inv : Nat → Prop) {res : Option (Bool × Unit)} (hn : cnt ≤ 500000000000)
  (hs : ∀ (rc : Y4 → Y4 → Int → Option (Bool × Unit)) (i : Nat), i < cnt → Inv i → (Inv (i + 1) → rc a0 b1 ((i + 1 : Nat) : Int) = res) → zz27_b2 rc zz27_a2 a0 b1 (i : Int) = res)
  (he : ∀ (rc : Y4 → Y4 → Int → Option (Bool × Unit)), Inv cnt → zz27_b2 rc zz27_a2 a0 b1 (cnt : Int) = res)
  (i0 : Nat) (hi : i0 ≤ cnt) (h0 : Inv i0) : zz27_F2 big a0 b1 (i0 : Int) = res := by
  have key : ∀ (m i : Nat), i ≤ cnt → cnt < m + i → Inv i → zz27_l2 big zz27_a2 m a0 b1 (i : Int) = res := by
    intro m
    induction m with
    | zero => intro i h1 h2 h3; exact absurd h2 (by omega)
    | succ m ih =>
      intro i h1 h2 h3
      rcases Nat.lt_or_ge i cnt with hlt | hge
      · exact hs _ i hlt h3 (fun h4 => ih (i + 1) (by omega) (by omega) h4)
      · obtain rfl : i = cnt := by omega
        exact he _ h3
  exact key big i0 hi (by have := big_ge; omega) h0
theorem zz28_v2 {lists0 : Y3} {l1 : Y4} (mu : Int → Nat) (Inv : Int → Prop) {Q : Option Y2 → Prop}
  (hs : ∀ (rc : Y3 → Y4 → Int → Option Y2) (k5 : Int), Inv k5 → (∀ (k5' : Int), Inv k5' → mu k5' < mu k5 → Q (rc lists0 l1 k5')) → Q (zz28_b2 rc zz28_a2 lists0 l1 k5))
  (k5 : Int) (hm : mu k5 ≤ 500000000000) (h0 : Inv k5) : Q (zz28_F2 big lists0 l1 k5) := by
  have key : ∀ (m : Nat) (k5 : Int), mu k5 < m → Inv k5 → Q (zz28_l2 big zz28_a2 m lists0 l1 k5) := by
    intro m
    induction m with
    | zero => intro k5 h2 h3; exact absurd h2 (by omega)
    | succ m ih =>
      intro k5 h2 h3
      exact hs _ k5 h3 (fun k5' h4 h5 => ih k5' (by omega) h4)
  exact key big k5 (by have := big_ge; omega) h0
theorem zz29_h6 {p1 : Y2} {not5 : Y4} (cnt : Nat) (Inv : Nat → Y3 → Prop) {res : Option ((Y3 × (Bool × Unit)) × Unit)} (hn : cnt ≤ 500000000000)
  (hs : ∀ (rc : Y2 → Y3 → Y4 → Int → Option ((Y3 × (Bool × Unit)) × Unit)) (i : Nat) (out4 : Y3), i < cnt → Inv i out4 → (∀ (out4' : Y3), Inv (i + 1) out4' → rc p1 out4' not5 ((i + 1 : Nat) : Int) = res) → zz29_b6 rc zz29_a6 p1 out4 not5 (i : Int) = res)
  (he : ∀ (rc : Y2 → Y3 → Y4 → Int → Option ((Y3 × (Bool × Unit)) × Unit)) (out4 : Y3), Inv cnt out4 → zz29_b6 rc zz29_a6 p1 out4 not5 (cnt : Int) = res)
  (i0 : Nat) (hi : i0 ≤ cnt) (out4 : Y3) (h0 : Inv i0 out4) : zz29_F6 big p1 out4 not5 (i0 : Int) = res := by
  have key : ∀ (m i : Nat) (out4 : Y3), i ≤ cnt → cnt < m + i → Inv i out4 → zz29_l6 big zz29_a6 m p1 out4 not5 (i : Int) = res := by
    intro m
    induction m with
    | zero => intro i out4 h1 h2 h3; exact absurd h2 (by omega)
    | succ m ih =>
      intro i out4 h1 h2 h3
      rcases Nat.lt_or_ge i cnt with hlt | hge
      · exact hs _ i out4 hlt h3 (fun out4' h4 => ih (i + 1) out4' (by omega) (by omega) h4)
      · obtain rfl : i = cnt := by omega
        exact he _ out4 h3
  exact key big i0 out4 hi (by have := big_ge; omega) h0
theorem zz30_h3 {n0 : Int} {t8 : Int} (cnt : Nat) (Inv : Nat → Y5 → Prop) {res : Option (Y5 × Unit)} (hn : cnt ≤ 500000000000)
  (hs : ∀ (rc : Int → Y5 → Int → Int → Option (Y5 × Unit)) (i : Nat) (o3 : Y5), i < cnt → Inv i o3 → (∀ (o3' : Y5), Inv (i + 1) o3' → rc n0 o3' t8 ((i + 1 : Nat) : Int) = res) → zz30_b3 rc zz30_a3 n0 o3 t8 (i : Int) = res)
  (he : ∀ (rc : Int → Y5 → Int → Int → Option (Y5 × Unit)) (o3 : Y5), Inv cnt o3 → zz30_b3 rc zz30_a3 n0 o3 t8 (cnt : Int) = res)
  (i0 : Nat) (hi : i0 ≤ cnt) (o3 : Y5) (h0 : Inv i0 o3) : zz30_F3 big n0 o3 t8 (i0 : Int) = res := by
  have key : ∀ (m i : Nat) (o3 : Y5), i ≤ cnt → cnt < m + i → Inv i o3 → zz30_l3 big zz30_a3 m n0 o3 t8 (i : Int) = res := by
    intro m
    induction m with
    | zero => intro i o3 h1 h2 h3; exact absurd h2 (by omega)
    | succ m ih =>
      intro i o3 h1 h2 h3
      rcases Nat.lt_or_ge i cnt with hlt | hge
      · exact hs _ i o3 hlt h3 (fun o3' h4 => ih (i + 1) o3' (by omega) (by omega) h4)
      · obtain rfl : i = cnt := by omega
        exact he _ o3 h3
  exact key big i0 o3 hi (by have := big_ge; omega) h0
theorem zz33_h2 {o0 : Y5} {t7 : Int} (cnt : Nat) (Inv : Nat → Prop) {res : Option (Bool × Unit)} (hn : cnt ≤ 500000000000)
  (hs : ∀ (rc : Y5 → Int → Int → Option (Bool × Unit)) (i : Nat), i < cnt → Inv i → (Inv (i + 1) → rc o0 t7 ((i + 1 : Nat) : Int) = res) → zz33_b2 (zz33_F7 big rc zz33_a2) zz33_a2 o0 t7 (i : Int) = res)
  (he : ∀ (rc : Y5 → Int → Int → Option (Bool × Unit)), Inv cnt → zz33_b2 (zz33_F7 big rc zz33_a2) zz33_a2 o0 t7 (cnt : Int) = res)
  (i0 : Nat) (hi : i0 ≤ cnt) (h0 : Inv i0) : zz33_F2 big o0 t7 (i0 : Int) = res := by
  have key : ∀ (m i : Nat), i ≤ cnt → cnt < m + i → Inv i → zz33_l2 big zz33_a2 m o0 t7 (i : Int) = res := by
    intro m
    induction m with
    | zero => intro i h1 h2 h3; exact absurd h2 (by omega)
    | succ m ih =>
      intro i h1 h2 h3
      rcases Nat.lt_or_ge i cnt with hlt | hge
      · exact hs _ i hlt h3 (fun h4 => ih (i + 1) (by omega) (by omega) h4)
      · obtain rfl : i = cnt := by omega
        exact he _ h3
  exact key big i0 hi (by have := big_ge; omega) h0
theorem zz33_h7 {rec : Y5 → Int → Int → Option (Bool × Unit)} {k : Option (Bool × Unit)} {o0 : Y5} {x3 : Int} {t7 : Int} {t8 : Int} {t20 : Int} (cnt : Nat) (Inv : Nat → Prop) {res : Option (Bool × Unit)} (hn : cnt ≤ 500000000000)
  (hs : ∀ (rc : Y5 → Int → Int → Int → Int → Int → Option (Bool × Unit)) (i : Nat), i < cnt → Inv i → (Inv (i + 1) → rc o0 x3 t7 t8 t20 ((i + 1 : Nat) : Int) = res) → zz33_b7 (zz33_F12 big rc (zz33_a7 rec)) (zz33_a7 rec) o0 x3 t7 t8 t20 (i : Int) = res)
  (he : ∀ (rc : Y5 → Int → Int → Int → Int → Int → Option (Bool × Unit)), Inv cnt → zz33_b7 (zz33_F12 big rc (zz33_a7 rec)) (zz33_a7 rec) o0 x3 t7 t8 t20 (cnt : Int) = res)
  (i0 : Nat) (hi : i0 ≤ cnt) (h0 : Inv i0) : zz33_F7 big rec k o0 x3 t7 t8 t20 (i0 : Int) = res := by
  have key : ∀ (m i : Nat), i ≤ cnt → cnt < m + i → Inv i → zz33_l7 big (zz33_a7 rec) m o0 x3 t7 t8 t20 (i : Int) = res := by
    intro m
    induction m with
    | zero => intro i h1 h2 h3; exact absurd h2 (by omega)
    | succ m ih =>
      intro i h1 h2 h3
      rcases Nat.lt_or_ge i cnt with hlt | hge
      · exact hs _ i hlt h3 (fun h4 => ih (i + 1) (by omega) (by omega) h4)
      · obtain rfl : i = cnt := by omega
        exact he _ h3
  exact key big i0 hi (by have := big_ge; omega) h0
theorem zz33_h12 {rec : Y5 → Int → Int → Int → Int → Int → Option (Bool × Unit)} {k : Y5 → Int → Int → Option (Bool × Unit)} {o0 : Y5} {x3 : Int} {y4 : Int} {t7 : Int} {t8 : Int} {t20 : Int} {t21 : Int} {t46 : Int} (cnt : Nat) (Inv : Nat → Prop) {res : Option (Bool × Unit)} (hn : cnt ≤ 500000000000)
  (hs : ∀ (rc : Y5 → Int → Int → Int → Int → Int → Int → Int → Int → Option (Bool × Unit)) (i : Nat), i < cnt → Inv i → (Inv (i + 1) → rc o0 x3 y4 t7 t8 t20 t21 t46 ((i + 1 : Nat) : Int) = res) → zz33_b12 rc (zz33_a12 rec) o0 x3 y4 t7 t8 t20 t21 t46 (i : Int) = res)
  (he : ∀ (rc : Y5 → Int → Int → Int → Int → Int → Int → Int → Int → Option (Bool × Unit)), Inv cnt → zz33_b12 rc (zz33_a12 rec) o0 x3 y4 t7 t8 t20 t21 t46 (cnt : Int) = res)
  (i0 : Nat) (hi : i0 ≤ cnt) (h0 : Inv i0) : zz33_F12 big rec k o0 x3 y4 t7 t8 t20 t21 t46 (i0 : Int) = res := by
  have key : ∀ (m i : Nat), i ≤ cnt → cnt < m + i → Inv i → zz33_l12 big (zz33_a12 rec) m o0 x3 y4 t7 t8 t20 t21 t46 (i : Int) = res := by
    intro m
    induction m with
    | zero => intro i h1 h2 h3; exact absurd h2 (by omega)
    | succ m ih =>
      intro i h1 h2 h3
      rcases Nat.lt_or_ge i cnt with hlt | hge
      · exact hs _ i hlt h3 (fun h4 => ih (i + 1) (by omega) (by omega) h4)
      · obtain rfl : i = cnt := by omega
        exact he _ h3
  exact key big i0 hi (by have := big_ge; omega) h0
theorem zz34_h6 {n4 : Int} {t18 : Y3} {t19 : Int} (cnt : Nat) (Inv : Nat → Y5 → Prop) {res : Option ((Y5 × (Bool × Unit)) × Unit)} (hn : cnt ≤ 500000000000)
  (hs : ∀ (rc : Int → Y5 → Y3 → Int → Int → Option ((Y5 × (Bool × Unit)) × Unit)) (i : Nat) (o5 : Y5), i < cnt → Inv i o5 → (∀ (o5' : Y5), Inv (i + 1) o5' → rc n4 o5' t18 t19 ((i + 1 : Nat) : Int) = res) → zz34_b6 (zz34_F11 big rc zz34_a6) zz34_a6 n4 o5 t18 t19 (i : Int) = res)
  (he : ∀ (rc : Int → Y5 → Y3 → Int → Int → Option ((Y5 × (Bool × Unit)) × Unit)) (o5 : Y5), Inv cnt o5 → zz34_b6 (zz34_F11 big rc zz34_a6) zz34_a6 n4 o5 t18 t19 (cnt : Int) = res)
  (i0 : Nat) (hi : i0 ≤ cnt) (o5 : Y5) (h0 : Inv i0 o5) : zz34_F6 big n4 o5 t18 t19 (i0 : Int) = res := by
  have key : ∀ (m i : Nat) (o5 : Y5), i ≤ cnt → cnt < m + i → Inv i o5 → zz34_l6 big zz34_a6 m n4 o5 t18 t19 (i : Int) = res := by
    intro m
    induction m with
    | zero => intro i o5 h1 h2 h3; exact absurd h2 (by omega)
    | succ m ih =>
      intro i o5 h1 h2 h3
      rcases Nat.lt_or_ge i cnt with hlt | hge
      · exact hs _ i o5 hlt h3 (fun o5' h4 => ih (i + 1) o5' (by omega) (by omega) h4)
      · obtain rfl : i = cnt := by omega
        exact he _ o5 h3
  exact key big i0 o5 hi (by have := big_ge; omega) h0
theorem zz34_h11 {rec : Int → Y5 → Y3 → Int → Int → Option ((Y5 × (Bool × Unit)) × Unit)} {k : Y5 → Option ((Y5 × (Bool × Unit)) × Unit)} {n4 : Int} {x6 : Int} {t18 : Y3} {t19 : Int} {t20 : Int} {t29 : Y4} {t30 : Int} {t31 : Bool} {t32 : Bool} {t34 : Y4} {t35 : Int} (cnt : Nat) (Inv : Nat → Y5 → Prop) {res : Option ((Y5 × (Bool × Unit)) × Unit)} (hn : cnt ≤ 500000000000)
  (hs : ∀ (rc : Int → Y5 → Int → Y3 → Int → Int → Y4 → Int → Bool → Bool → Y4 → Int → Int → Option ((Y5 × (Bool × Unit)) × Unit)) (i : Nat) (o5 : Y5), i < cnt → Inv i o5 → (∀ (o5' : Y5), Inv (i + 1) o5' → rc n4 o5' x6 t18 t19 t20 t29 t30 t31 t32 t34 t35 ((i + 1 : Nat) : Int) = res) → zz34_b11 rc (zz34_a11 rec) n4 o5 x6 t18 t19 t20 t29 t30 t31 t32 t34 t35 (i : Int) = res)
  (he : ∀ (rc : Int → Y5 → Int → Y3 → Int → Int → Y4 → Int → Bool → Bool → Y4 → Int → Int → Option ((Y5 × (Bool × Unit)) × Unit)) (o5 : Y5), Inv cnt o5 → zz34_b11 rc (zz34_a11 rec) n4 o5 x6 t18 t19 t20 t29 t30 t31 t32 t34 t35 (cnt : Int) = res)
  (i0 : Nat) (hi : i0 ≤ cnt) (o5 : Y5) (h0 : Inv i0 o5) : zz34_F11 big rec k n4 o5 x6 t18 t19 t20 t29 t30 t31 t32 t34 t35 (i0 : Int) = res := by
  have key : ∀ (m i : Nat) (o5 : Y5), i ≤ cnt → cnt < m + i → Inv i o5 → zz34_l11 big (zz34_a11 rec) m n4 o5 x6 t18 t19 t20 t29 t30 t31 t32 t34 t35 (i : Int) = res := by
    intro m
    induction m with
    | zero => intro i o5 h1 h2 h3; exact absurd h2 (by omega)
    | succ m ih =>
      intro i o5 h1 h2 h3
      rcases Nat.lt_or_ge i cnt with hlt | hge
      · exact hs _ i o5 hlt h3 (fun o5' h4 => ih (i + 1) o5' (by omega) (by omega) h4)
      · obtain rfl : i = cnt := by omega
        exact he _ o5 h3
  exact key big i0 o5 hi (by have := big_ge; omega) h0
theorem zz35_h2 {o0 : Y5} {list1 : Y4} {t10 : Y4} {t11 : Int} (cnt : Nat) (Inv : Nat → Prop) {res : Option (Int × Unit)} (hn : cnt ≤ 500000000000)
  (hs : ∀ (rc : Y5 → Y4 → Y4 → Int → Int → Option (Int × Unit)) (i : Nat), i < cnt → Inv i → (Inv (i + 1) → rc o0 list1 t10 t11 ((i + 1 : Nat) : Int) = res) → zz35_b2 (zz35_F6 big rc zz35_a2) zz35_a2 o0 list1 t10 t11 (i : Int) = res)
  (he : ∀ (rc : Y5 → Y4 → Y4 → Int → Int → Option (Int × Unit)), Inv cnt → zz35_b2 (zz35_F6 big rc zz35_a2) zz35_a2 o0 list1 t10 t11 (cnt : Int) = res)
  (i0 : Nat) (hi : i0 ≤ cnt) (h0 : Inv i0) : zz35_F2 big o0 list1 t10 t11 (i0 : Int) = res := by
  have key : ∀ (m i : Nat), i ≤ cnt → cnt < m + i → Inv i → zz35_l2 big zz35_a2 m o0 list1 t10 t11 (i : Int) = res := by
    intro m
    induction m with
    | zero => intro i h1 h2 h3; exact absurd h2 (by omega)
    | succ m ih =>
      intro i h1 h2 h3
      rcases Nat.lt_or_ge i cnt with hlt | hge
      · exact hs _ i hlt h3 (fun h4 => ih (i + 1) (by omega) (by omega) h4)
      · obtain rfl : i = cnt := by omega
        exact he _ h3
  exact key big i0 hi (by have := big_ge; omega) h0
theorem zz35_h6 {rec : Y5 → Y4 → Y4 → Int → Int → Option (Int × Unit)} {k : Option (Int × Unit)} {o0 : Y5} {list1 : Y4} {x6 : Int} {t10 : Y4} {t11 : Int} {t12 : Int} {t16 : Y4} {t17 : Int} (cnt : Nat) (Inv : Nat → Bool → Prop) {res : Option (Int × Unit)} (hn : cnt ≤ 500000000000)
  (hs : ∀ (rc : Y5 → Y4 → Int → Bool → Y4 → Int → Int → Y4 → Int → Int → Option (Int × Unit)) (i : Nat) (top7 : Bool), i < cnt → Inv i top7 → (∀ (top7' : Bool), Inv (i + 1) top7' → rc o0 list1 x6 top7' t10 t11 t12 t16 t17 ((i + 1 : Nat) : Int) = res) → zz35_b6 rc (zz35_a6 rec) o0 list1 x6 top7 t10 t11 t12 t16 t17 (i : Int) = res)
  (he : ∀ (rc : Y5 → Y4 → Int → Bool → Y4 → Int → Int → Y4 → Int → Int → Option (Int × Unit)) (top7 : Bool), Inv cnt top7 → zz35_b6 rc (zz35_a6 rec) o0 list1 x6 top7 t10 t11 t12 t16 t17 (cnt : Int) = res)
  (i0 : Nat) (hi : i0 ≤ cnt) (top7 : Bool) (h0 : Inv i0 top7) : zz35_F6 big rec k o0 list1 x6 top7 t10 t11 t12 t16 t17 (i0 : Int) = res := by
  have key : ∀ (m i : Nat) (top7 : Bool), i ≤ cnt → cnt < m + i → Inv i top7 → zz35_l6 big (zz35_a6 rec) m o0 list1 x6 top7 t10 t11 t12 t16 t17 (i : Int) = res := by
    intro m
    induction m with
    | zero => intro i top7 h1 h2 h3; exact absurd h2 (by omega)
    | succ m ih =>
      intro i top7 h1 h2 h3
      rcases Nat.lt_or_ge i cnt with hlt | hge
      · exact hs _ i top7 hlt h3 (fun top7' h4 => ih (i + 1) top7' (by omega) (by omega) h4)
      · obtain rfl : i = cnt := by omega
        exact he _ top7 h3
  exact key big i0 top7 hi (by have := big_ge; omega) h0
theorem zz37_h3 {so1 : (Y5 × (Int × (Int × Unit)))} {t9 : Int} (cnt : Nat) (Inv : Nat → Y4 → Prop) {res : Option (Y4 × Unit)} (hn : cnt ≤ 500000000000)
  (hs : ∀ (rc : (Y5 × (Int × (Int × Unit))) → Y4 → Int → Int → Option (Y4 × Unit)) (i : Nat) (list5 : Y4), i < cnt → Inv i list5 → (∀ (list5' : Y4), Inv (i + 1) list5' → rc so1 list5' t9 ((i + 1 : Nat) : Int) = res) → zz37_b3 rc zz37_a3 so1 list5 t9 (i : Int) = res)
  (he : ∀ (rc : (Y5 × (Int × (Int × Unit))) → Y4 → Int → Int → Option (Y4 × Unit)) (list5 : Y4), Inv cnt list5 → zz37_b3 rc zz37_a3 so1 list5 t9 (cnt : Int) = res)
  (i0 : Nat) (hi : i0 ≤ cnt) (list5 : Y4) (h0 : Inv i0 list5) : zz37_F3 big so1 list5 t9 (i0 : Int) = res := by
  have key : ∀ (m i : Nat) (list5 : Y4), i ≤ cnt → cnt < m + i → Inv i list5 → zz37_l3 big zz37_a3 m so1 list5 t9 (i : Int) = res := by
    intro m
    induction m with
    | zero => intro i list5 h1 h2 h3; exact absurd h2 (by omega)
    | succ m ih =>
      intro i list5 h1 h2 h3
      rcases Nat.lt_or_ge i cnt with hlt | hge
      · exact hs _ i list5 hlt h3 (fun list5' h4 => ih (i + 1) list5' (by omega) (by omega) h4)
      · obtain rfl : i = cnt := by omega
        exact he _ list5 h3
  exact key big i0 list5 hi (by have := big_ge; omega) h0
theorem zz38_h3 {o1 : Y5} {t11 : Int} (cnt : Nat) (Inv : Nat → Y3 → Prop) {res : Option ((Y3 × (Bool × Unit)) × Unit)} (hn : cnt ≤ 500000000000)
  (hs : ∀ (rc : Y5 → Y3 → Int → Int → Option ((Y3 × (Bool × Unit)) × Unit)) (i : Nat) (table4 : Y3), i < cnt → Inv i table4 → (∀ (table4' : Y3), Inv (i + 1) table4' → rc o1 table4' t11 ((i + 1 : Nat) : Int) = res) → zz38_b3 (zz38_F7 big rc zz38_a3) zz38_a3 o1 table4 t11 (i : Int) = res)
  (he : ∀ (rc : Y5 → Y3 → Int → Int → Option ((Y3 × (Bool × Unit)) × Unit)) (table4 : Y3), Inv cnt table4 → zz38_b3 (zz38_F7 big rc zz38_a3) zz38_a3 o1 table4 t11 (cnt : Int) = res)
  (i0 : Nat) (hi : i0 ≤ cnt) (table4 : Y3) (h0 : Inv i0 table4) : zz38_F3 big o1 table4 t11 (i0 : Int) = res := by
  have key : ∀ (m i : Nat) (table4 : Y3), i ≤ cnt → cnt < m + i → Inv i table4 → zz38_l3 big zz38_a3 m o1 table4 t11 (i : Int) = res := by
    intro m
    induction m with
    | zero => intro i table4 h1 h2 h3; exact absurd h2 (by omega)
    | succ m ih =>
      intro i table4 h1 h2 h3
      rcases Nat.lt_or_ge i cnt with hlt | hge
      · exact hs _ i table4 hlt h3 (fun table4' h4 => ih (i + 1) table4' (by omega) (by omega) h4)
      · obtain rfl : i = cnt := by omega
        exact he _ table4 h3
  exact key big i0 table4 hi (by have := big_ge; omega) h0
theorem zz38_h7 {rec : Y5 → Y3 → Int → Int → Option ((Y3 × (Bool × Unit)) × Unit)} {k : Y3 → Option ((Y3 × (Bool × Unit)) × Unit)} {o1 : Y5} {table4 : Y3} {x5 : Int} {t11 : Int} {t12 : Int} {t17 : Int} (cnt : Nat) (Inv : Nat → Y4 → Prop) {res : Option ((Y3 × (Bool × Unit)) × Unit)} (hn : cnt ≤ 500000000000)
  (hs : ∀ (rc : Y5 → Y3 → Int → Y4 → Int → Int → Int → Int → Option ((Y3 × (Bool × Unit)) × Unit)) (i : Nat) (row6 : Y4), i < cnt → Inv i row6 → (∀ (row6' : Y4), Inv (i + 1) row6' → rc o1 table4 x5 row6' t11 t12 t17 ((i + 1 : Nat) : Int) = res) → zz38_b7 rc (zz38_a7 rec) o1 table4 x5 row6 t11 t12 t17 (i : Int) = res)
  (he : ∀ (rc : Y5 → Y3 → Int → Y4 → Int → Int → Int → Int → Option ((Y3 × (Bool × Unit)) × Unit)) (row6 : Y4), Inv cnt row6 → zz38_b7 rc (zz38_a7 rec) o1 table4 x5 row6 t11 t12 t17 (cnt : Int) = res)
  (i0 : Nat) (hi : i0 ≤ cnt) (row6 : Y4) (h0 : Inv i0 row6) : zz38_F7 big rec k o1 table4 x5 row6 t11 t12 t17 (i0 : Int) = res := by
  have key : ∀ (m i : Nat) (row6 : Y4), i ≤ cnt → cnt < m + i → Inv i row6 → zz38_l7 big (zz38_a7 rec) m o1 table4 x5 row6 t11 t12 t17 (i : Int) = res := by
    intro m
    induction m with
    | zero => intro i row6 h1 h2 h3; exact absurd h2 (by omega)
    | succ m ih =>
      intro i row6 h1 h2 h3
      rcases Nat.lt_or_ge i cnt with hlt | hge
      · exact hs _ i row6 hlt h3 (fun row6' h4 => ih (i + 1) row6' (by omega) (by omega) h4)
      · obtain rfl : i = cnt := by omega
        exact he _ row6 h3
  exact key big i0 row6 hi (by have := big_ge; omega) h0
theorem zz39_h3 {o0 : Y5} {t10 : Int} (cnt : Nat) (Inv : Nat → Y5 → Prop) {res : Option (Y5 × Unit)} (hn : cnt ≤ 500000000000)
  (hs : ∀ (rc : Y5 → Y5 → Int → Int → Option (Y5 × Unit)) (i : Nat) (d3 : Y5), i < cnt → Inv i d3 → (∀ (d3' : Y5), Inv (i + 1) d3' → rc o0 d3' t10 ((i + 1 : Nat) : Int) = res) → zz39_b3 (zz39_F6 big rc zz39_a3) zz39_a3 o0 d3 t10 (i : Int) = res)
  (he : ∀ (rc : Y5 → Y5 → Int → Int → Option (Y5 × Unit)) (d3 : Y5), Inv cnt d3 → zz39_b3 (zz39_F6 big rc zz39_a3) zz39_a3 o0 d3 t10 (cnt : Int) = res)
  (i0 : Nat) (hi : i0 ≤ cnt) (d3 : Y5) (h0 : Inv i0 d3) : zz39_F3 big o0 d3 t10 (i0 : Int) = res := by
  have key : ∀ (m i : Nat) (d3 : Y5), i ≤ cnt → cnt < m + i → Inv i d3 → zz39_l3 big zz39_a3 m o0 d3 t10 (i : Int) = res := by
    intro m
    induction m with
    | zero => intro i d3 h1 h2 h3; exact absurd h2 (by omega)
    | succ m ih =>
      intro i d3 h1 h2 h3
      rcases Nat.lt_or_ge i cnt with hlt | hge
      · exact hs _ i d3 hlt h3 (fun d3' h4 => ih (i + 1) d3' (by omega) (by omega) h4)
      · obtain rfl : i = cnt := by omega
        exact he _ d3 h3
  exact key big i0 d3 hi (by have := big_ge; omega) h0
theorem zz39_h6 {rec : Y5 → Y5 → Int → Int → Option (Y5 × Unit)} {k : Y5 → Option (Y5 × Unit)} {o0 : Y5} {x4 : Int} {t10 : Int} {t11 : Int} {t15 : Int} (cnt : Nat) (Inv : Nat → Y5 → Prop) {res : Option (Y5 × Unit)} (hn : cnt ≤ 500000000000)
  (hs : ∀ (rc : Y5 → Y5 → Int → Int → Int → Int → Int → Option (Y5 × Unit)) (i : Nat) (d3 : Y5), i < cnt → Inv i d3 → (∀ (d3' : Y5), Inv (i + 1) d3' → rc o0 d3' x4 t10 t11 t15 ((i + 1 : Nat) : Int) = res) → zz39_b6 rc (zz39_a6 rec) o0 d3 x4 t10 t11 t15 (i : Int) = res)
  (he : ∀ (rc : Y5 → Y5 → Int → Int → Int → Int → Int → Option (Y5 × Unit)) (d3 : Y5), Inv cnt d3 → zz39_b6 rc (zz39_a6 rec) o0 d3 x4 t10 t11 t15 (cnt : Int) = res)
  (i0 : Nat) (hi : i0 ≤ cnt) (d3 : Y5) (h0 : Inv i0 d3) : zz39_F6 big rec k o0 d3 x4 t10 t11 t15 (i0 : Int) = res := by
  have key : ∀ (m i : Nat) (d3 : Y5), i ≤ cnt → cnt < m + i → Inv i d3 → zz39_l6 big (zz39_a6 rec) m o0 d3 x4 t10 t11 t15 (i : Int) = res := by
    intro m
    induction m with
    | zero => intro i d3 h1 h2 h3; exact absurd h2 (by omega)
    | succ m ih =>
      intro i d3 h1 h2 h3
      rcases Nat.lt_or_ge i cnt with hlt | hge
      · exact hs _ i d3 hlt h3 (fun d3' h4 => ih (i + 1) d3' (by omega) (by omega) h4)
      · obtain rfl : i = cnt := by omega
        exact he _ d3 h3
  exact key big i0 d3 hi (by have := big_ge; omega) h0
theorem zz41_q2 {l0 : Y1} {t10 : Int} (cnt : Nat) (Inv : Nat → Prop) {Q : Option ((Option Y4) × Unit) → Prop} (hn : cnt ≤ 500000000000)
  (hs : ∀ (rc : Y1 → Int → Int → Option ((Option Y4) × Unit)) (i : Nat), i < cnt → Inv i → (Inv (i + 1) → Q (rc l0 t10 ((i + 1 : Nat) : Int))) → Q (zz41_b2 (zz41_F5 big rc zz41_a2) zz41_a2 l0 t10 (i : Int)))
  (he : ∀ (rc : Y1 → Int → Int → Option ((Option Y4) × Unit)), Inv cnt → Q (zz41_b2 (zz41_F5 big rc zz41_a2) zz41_a2 l0 t10 (cnt : Int)))
  (i0 : Nat) (hi : i0 ≤ cnt) (h0 : Inv i0) : Q (zz41_F2 big l0 t10 (i0 : Int)) := by
  have key : ∀ (m i : Nat), i ≤ cnt → cnt < m + i → Inv i → Q (zz41_l2 big zz41_a2 m l0 t10 (i : Int)) := by
    intro m
    induction m with
    | zero => intro i h1 h2 h3; exact absurd h2 (by omega)
    | succ m ih =>
      intro i h1 h2 h3
      rcases Nat.lt_or_ge i cnt with hlt | hge
      · exact hs _ i hlt h3 (fun h4 => ih (i + 1) (by omega) (by omega) h4)
      · obtain rfl : i = cnt := by omega
        exact he _ h3
  exact key big i0 hi (by have := big_ge; omega) h0
theorem zz41_q5 {rec : Y1 → Int → Int → Option ((Option Y4) × Unit)} {k : Option ((Option Y4) × Unit)} {l0 : Y1} {x3 : Int} {t10 : Int} {t11 : Int} {t18 : Int} (cnt : Nat) (Inv : Nat → Prop) {Q : Option ((Option Y4) × Unit) → Prop} (hn : cnt ≤ 500000000000)
  (hs : ∀ (rc : Y1 → Int → Int → Int → Int → Int → Option ((Option Y4) × Unit)) (i : Nat), i < cnt → Inv i → (Inv (i + 1) → Q (rc l0 x3 t10 t11 t18 ((i + 1 : Nat) : Int))) → Q (zz41_b5 (zz41_F8 big rc (zz41_a5 rec)) (zz41_a5 rec) l0 x3 t10 t11 t18 (i : Int)))
  (he : ∀ (rc : Y1 → Int → Int → Int → Int → Int → Option ((Option Y4) × Unit)), Inv cnt → Q (zz41_b5 (zz41_F8 big rc (zz41_a5 rec)) (zz41_a5 rec) l0 x3 t10 t11 t18 (cnt : Int)))
  (i0 : Nat) (hi : i0 ≤ cnt) (h0 : Inv i0) : Q (zz41_F5 big rec k l0 x3 t10 t11 t18 (i0 : Int)) := by
  have key : ∀ (m i : Nat), i ≤ cnt → cnt < m + i → Inv i → Q (zz41_l5 big (zz41_a5 rec) m l0 x3 t10 t11 t18 (i : Int)) := by
    intro m
    induction m with
    | zero => intro i h1 h2 h3; exact absurd h2 (by omega)
    | succ m ih =>
      intro i h1 h2 h3
      rcases Nat.lt_or_ge i cnt with hlt | hge
      · exact hs _ i hlt h3 (fun h4 => ih (i + 1) (by omega) (by omega) h4)
      · obtain rfl : i = cnt := by omega
        exact he _ h3
  exact key big i0 hi (by have := big_ge; omega) h0
theorem zz41_q8 {rec : Y1 → Int → Int → Int → Int → Int → Option ((Option Y4) × Unit)} {k : Y1 → Int → Int → Option ((Option Y4) × Unit)} {l0 : Y1} {x3 : Int} {y4 : Int} {t10 : Int} {t11 : Int} {t18 : Int} {t19 : Int} {t26 : Int} (cnt : Nat) (Inv : Nat → Prop) {Q : Option ((Option Y4) × Unit) → Prop} (hn : cnt ≤ 500000000000)
  (hs : ∀ (rc : Y1 → Int → Int → Int → Int → Int → Int → Int → Int → Option ((Option Y4) × Unit)) (i : Nat), i < cnt → Inv i → (Inv (i + 1) → Q (rc l0 x3 y4 t10 t11 t18 t19 t26 ((i + 1 : Nat) : Int))) → Q (zz41_b8 rc (zz41_a8 rec) l0 x3 y4 t10 t11 t18 t19 t26 (i : Int)))
  (he : ∀ (rc : Y1 → Int → Int → Int → Int → Int → Int → Int → Int → Option ((Option Y4) × Unit)), Inv cnt → Q (zz41_b8 rc (zz41_a8 rec) l0 x3 y4 t10 t11 t18 t19 t26 (cnt : Int)))
  (i0 : Nat) (hi : i0 ≤ cnt) (h0 : Inv i0) : Q (zz41_F8 big rec k l0 x3 y4 t10 t11 t18 t19 t26 (i0 : Int)) := by
  have key : ∀ (m i : Nat), i ≤ cnt → cnt < m + i → Inv i → Q (zz41_l8 big (zz41_a8 rec) m l0 x3 y4 t10 t11 t18 t19 t26 (i : Int)) := by
    intro m
    induction m with
    | zero => intro i h1 h2 h3; exact absurd h2 (by omega)
    | succ m ih =>
      intro i h1 h2 h3
      rcases Nat.lt_or_ge i cnt with hlt | hge
      · exact hs _ i hlt h3 (fun h4 => ih (i + 1) (by omega) (by omega) h4)
      · obtain rfl : i = cnt := by omega
        exact he _ h3
  exact key big i0 hi (by have := big_ge; omega) h0
theorem zz43_h3 {l0 : Y1} {t9 : Int} (cnt : Nat) (Inv : Nat → Int → Prop) {res : Option (Int × Unit)} (hn : cnt ≤ 500000000000)
  (hs : ∀ (rc : Y1 → Int → Int → Int → Option (Int × Unit)) (i : Nat) (b3 : Int), i < cnt → Inv i b3 → (∀ (b3' : Int), Inv (i + 1) b3' → rc l0 b3' t9 ((i + 1 : Nat) : Int) = res) → zz43_b3 rc zz43_a3 l0 b3 t9 (i : Int) = res)
  (he : ∀ (rc : Y1 → Int → Int → Int → Option (Int × Unit)) (b3 : Int), Inv cnt b3 → zz43_b3 rc zz43_a3 l0 b3 t9 (cnt : Int) = res)
  (i0 : Nat) (hi : i0 ≤ cnt) (b3 : Int) (h0 : Inv i0 b3) : zz43_F3 big l0 b3 t9 (i0 : Int) = res := by
  have key : ∀ (m i : Nat) (b3 : Int), i ≤ cnt → cnt < m + i → Inv i b3 → zz43_l3 big zz43_a3 m l0 b3 t9 (i : Int) = res := by
    intro m
    induction m with
    | zero => intro i b3 h1 h2 h3; exact absurd h2 (by omega)
    | succ m ih =>
      intro i b3 h1 h2 h3
      rcases Nat.lt_or_ge i cnt with hlt | hge
      · exact hs _ i b3 hlt h3 (fun b3' h4 => ih (i + 1) b3' (by omega) (by omega) h4)
      · obtain rfl : i = cnt := by omega
        exact he _ b3 h3
  exact key big i0 b3 hi (by have := big_ge; omega) h0
theorem zz44_h3 {l0 : Y1} {t9 : Int} (cnt : Nat) (Inv : Nat → Int → Prop) {res : Option (Int × Unit)} (hn : cnt ≤ 500000000000)
  (hs : ∀ (rc : Y1 → Int → Int → Int → Option (Int × Unit)) (i : Nat) (t3 : Int), i < cnt → Inv i t3 → (∀ (t3' : Int), Inv (i + 1) t3' → rc l0 t3' t9 ((i + 1 : Nat) : Int) = res) → zz44_b3 rc zz44_a3 l0 t3 t9 (i : Int) = res)
  (he : ∀ (rc : Y1 → Int → Int → Int → Option (Int × Unit)) (t3 : Int), Inv cnt t3 → zz44_b3 rc zz44_a3 l0 t3 t9 (cnt : Int) = res)
  (i0 : Nat) (hi : i0 ≤ cnt) (t3 : Int) (h0 : Inv i0 t3) : zz44_F3 big l0 t3 t9 (i0 : Int) = res := by
  have key : ∀ (m i : Nat) (t3 : Int), i ≤ cnt → cnt < m + i → Inv i t3 → zz44_l3 big zz44_a3 m l0 t3 t9 (i : Int) = res := by
    intro m
    induction m with
    | zero => intro i t3 h1 h2 h3; exact absurd h2 (by omega)
    | succ m ih =>
      intro i t3 h1 h2 h3
      rcases Nat.lt_or_ge i cnt with hlt | hge
      · exact hs _ i t3 hlt h3 (fun t3' h4 => ih (i + 1) t3' (by omega) (by omega) h4)
      · obtain rfl : i = cnt := by omega
        exact he _ t3 h3
  exact key big i0 t3 hi (by have := big_ge; omega) h0
theorem zz46_h3 {so1 : (Y1 × (Int × (Int × (Int × Unit))))} {t9 : Int} (cnt : Nat) (Inv : Nat → Y4 → Prop) {res : Option (Y4 × Unit)} (hn : cnt ≤ 500000000000)
  (hs : ∀ (rc : (Y1 × (Int × (Int × (Int × Unit)))) → Y4 → Int → Int → Option (Y4 × Unit)) (i : Nat) (list5 : Y4), i < cnt → Inv i list5 → (∀ (list5' : Y4), Inv (i + 1) list5' → rc so1 list5' t9 ((i + 1 : Nat) : Int) = res) → zz46_b3 rc zz46_a3 so1 list5 t9 (i : Int) = res)
  (he : ∀ (rc : (Y1 × (Int × (Int × (Int × Unit)))) → Y4 → Int → Int → Option (Y4 × Unit)) (list5 : Y4), Inv cnt list5 → zz46_b3 rc zz46_a3 so1 list5 t9 (cnt : Int) = res)
  (i0 : Nat) (hi : i0 ≤ cnt) (list5 : Y4) (h0 : Inv i0 list5) : zz46_F3 big so1 list5 t9 (i0 : Int) = res := by
  have key : ∀ (m i : Nat) (list5 : Y4), i ≤ cnt → cnt < m + i → Inv i list5 → zz46_l3 big zz46_a3 m so1 list5 t9 (i : Int) = res := by
    intro m
    induction m with
    | zero => intro i list5 h1 h2 h3; exact absurd h2 (by omega)
    | succ m ih =>
      intro i list5 h1 h2 h3
      rcases Nat.lt_or_ge i cnt with hlt | hge
      · exact hs _ i list5 hlt h3 (fun list5' h4 => ih (i + 1) list5' (by omega) (by omega) h4)
      · obtain rfl : i = cnt := by omega
        exact he _ list5 h3
  exact key big i0 list5 hi (by have := big_ge; omega) h0
theorem zz50_h3 {so1 : (Y1 × Unit)} {t9 : Int} (cnt : Nat) (Inv : Nat → Y4 → Prop) {res : Option (Y4 × Unit)} (hn : cnt ≤ 500000000000)
  (hs : ∀ (rc : (Y1 × Unit) → Y4 → Int → Int → Option (Y4 × Unit)) (i : Nat) (list5 : Y4), i < cnt → Inv i list5 → (∀ (list5' : Y4), Inv (i + 1) list5' → rc so1 list5' t9 ((i + 1 : Nat) : Int) = res) → zz50_b3 rc zz50_a3 so1 list5 t9 (i : Int) = res)
  (he : ∀ (rc : (Y1 × Unit) → Y4 → Int → Int → Option (Y4 × Unit)) (list5 : Y4), Inv cnt list5 → zz50_b3 rc zz50_a3 so1 list5 t9 (cnt : Int) = res)
  (i0 : Nat) (hi : i0 ≤ cnt) (list5 : Y4) (h0 : Inv i0 list5) : zz50_F3 big so1 list5 t9 (i0 : Int) = res := by
  have key : ∀ (m i : Nat) (list5 : Y4), i ≤ cnt → cnt < m + i → Inv i list5 → zz50_l3 big zz50_a3 m so1 list5 t9 (i : Int) = res := by
    intro m
    induction m with
    | zero => intro i list5 h1 h2 h3; exact absurd h2 (by omega)
    | succ m ih =>
      intro i list5 h1 h2 h3
      rcases Nat.lt_or_ge i cnt with hlt | hge
      · exact hs _ i list5 hlt h3 (fun list5' h4 => ih (i + 1) list5' (by omega) (by omega) h4)
      · obtain rfl : i = cnt := by omega
        exact he _ list5 h3
  exact key big i0 list5 hi (by have := big_ge; omega) h0
theorem zz54_h3 {l0 : Y1} {t10 : Int} (cnt : Nat) (Inv : Nat → Y4 → Prop) {res : Option (Y4 × Unit)} (hn : cnt ≤ 500000000000)
  (hs : ∀ (rc : Y1 → Y4 → Int → Int → Option (Y4 × Unit)) (i : Nat) (list3 : Y4), i < cnt → Inv i list3 → (∀ (list3' : Y4), Inv (i + 1) list3' → rc l0 list3' t10 ((i + 1 : Nat) : Int) = res) → zz54_b3 rc zz54_a3 l0 list3 t10 (i : Int) = res)
  (he : ∀ (rc : Y1 → Y4 → Int → Int → Option (Y4 × Unit)) (list3 : Y4), Inv cnt list3 → zz54_b3 rc zz54_a3 l0 list3 t10 (cnt : Int) = res)
  (i0 : Nat) (hi : i0 ≤ cnt) (list3 : Y4) (h0 : Inv i0 list3) : zz54_F3 big l0 list3 t10 (i0 : Int) = res := by
  have key : ∀ (m i : Nat) (list3 : Y4), i ≤ cnt → cnt < m + i → Inv i list3 → zz54_l3 big zz54_a3 m l0 list3 t10 (i : Int) = res := by
    intro m
    induction m with
    | zero => intro i list3 h1 h2 h3; exact absurd h2 (by omega)
    | succ m ih =>
      intro i list3 h1 h2 h3
      rcases Nat.lt_or_ge i cnt with hlt | hge
      · exact hs _ i list3 hlt h3 (fun list3' h4 => ih (i + 1) list3' (by omega) (by omega) h4)
      · obtain rfl : i = cnt := by omega
        exact he _ list3 h3
  exact key big i0 list3 hi (by have := big_ge; omega) h0
theorem zz55_h3 {mask0 : Int} (cnt : Nat) (Inv : Nat → Y4 → Prop) {res : Option (Y4 × Unit)} (hn : cnt ≤ 500000000000)
  (hs : ∀ (rc : Int → Y4 → Int → Option (Y4 × Unit)) (i : Nat) (list3 : Y4), i < cnt → Inv i list3 → (∀ (list3' : Y4), Inv (i + 1) list3' → rc mask0 list3' ((i + 1 : Nat) : Int) = res) → zz55_b3 rc zz55_a3 mask0 list3 (i : Int) = res)
  (he : ∀ (rc : Int → Y4 → Int → Option (Y4 × Unit)) (list3 : Y4), Inv cnt list3 → zz55_b3 rc zz55_a3 mask0 list3 (cnt : Int) = res)
  (i0 : Nat) (hi : i0 ≤ cnt) (list3 : Y4) (h0 : Inv i0 list3) : zz55_F3 big mask0 list3 (i0 : Int) = res := by
  have key : ∀ (m i : Nat) (list3 : Y4), i ≤ cnt → cnt < m + i → Inv i list3 → zz55_l3 big zz55_a3 m mask0 list3 (i : Int) = res := by
    intro m
    induction m with
    | zero => intro i list3 h1 h2 h3; exact absurd h2 (by omega)
    | succ m ih =>
      intro i list3 h1 h2 h3
      rcases Nat.lt_or_ge i cnt with hlt | hge
      · exact hs _ i list3 hlt h3 (fun list3' h4 => ih (i + 1) list3' (by omega) (by omega) h4)
      · obtain rfl : i = cnt := by omega
        exact he _ list3 h3
  exact key big i0 list3 hi (by have := big_ge; omega) h0
theorem zz57_h3 {t10 : Y4} {t11 : Int} (cnt : Nat) (Inv : Nat → (List Bool) → Prop) {res : Option ((List Bool) × Unit)} (hn : cnt ≤ 500000000000)
  (hs : ∀ (rc : (List Bool) → Y4 → Int → Int → Option ((List Bool) × Unit)) (i : Nat) (have5 : (List Bool)), i < cnt → Inv i have5 → (∀ (have5' : (List Bool)), Inv (i + 1) have5' → rc have5' t10 t11 ((i + 1 : Nat) : Int) = res) → zz57_b3 rc zz57_a3 have5 t10 t11 (i : Int) = res)
  (he : ∀ (rc : (List Bool) → Y4 → Int → Int → Option ((List Bool) × Unit)) (have5 : (List Bool)), Inv cnt have5 → zz57_b3 rc zz57_a3 have5 t10 t11 (cnt : Int) = res)
  (i0 : Nat) (hi : i0 ≤ cnt) (have5 : (List Bool)) (h0 : Inv i0 have5) : zz57_F3 big have5 t10 t11 (i0 : Int) = res := by
  have key : ∀ (m i : Nat) (have5 : (List Bool)), i ≤ cnt → cnt < m + i → Inv i have5 → zz57_l3 big zz57_a3 m have5 t10 t11 (i : Int) = res := by
    intro m
    induction m with
    | zero => intro i have5 h1 h2 h3; exact absurd h2 (by omega)
    | succ m ih =>
      intro i have5 h1 h2 h3
      rcases Nat.lt_or_ge i cnt with hlt | hge
      · exact hs _ i have5 hlt h3 (fun have5' h4 => ih (i + 1) have5' (by omega) (by omega) h4)
      · obtain rfl : i = cnt := by omega
        exact he _ have5 h3
  exact key big i0 have5 hi (by have := big_ge; omega) h0
theorem zz58_h3 {t7 : (List Bool)} {t8 : Int} (cnt : Nat) (Inv : Nat → Y4 → Prop) {res : Option (Y4 × Unit)} (hn : cnt ≤ 500000000000)
  (hs : ∀ (rc : Y4 → (List Bool) → Int → Int → Option (Y4 × Unit)) (i : Nat) (list3 : Y4), i < cnt → Inv i list3 → (∀ (list3' : Y4), Inv (i + 1) list3' → rc list3' t7 t8 ((i + 1 : Nat) : Int) = res) → zz58_b3 rc zz58_a3 list3 t7 t8 (i : Int) = res)
  (he : ∀ (rc : Y4 → (List Bool) → Int → Int → Option (Y4 × Unit)) (list3 : Y4), Inv cnt list3 → zz58_b3 rc zz58_a3 list3 t7 t8 (cnt : Int) = res)
  (i0 : Nat) (hi : i0 ≤ cnt) (list3 : Y4) (h0 : Inv i0 list3) : zz58_F3 big list3 t7 t8 (i0 : Int) = res := by
  have key : ∀ (m i : Nat) (list3 : Y4), i ≤ cnt → cnt < m + i → Inv i list3 → zz58_l3 big zz58_a3 m list3 t7 t8 (i : Int) = res := by
    intro m
    induction m with
    | zero => intro i list3 h1 h2 h3; exact absurd h2 (by omega)
    | succ m ih =>
      intro i list3 h1 h2 h3
      rcases Nat.lt_or_ge i cnt with hlt | hge
      · exact hs _ i list3 hlt h3 (fun list3' h4 => ih (i + 1) list3' (by omega) (by omega) h4)
      · obtain rfl : i = cnt := by omega
        exact he _ list3 h3
  exact key big i0 list3 hi (by have := big_ge; omega) h0
theorem zz59_w3 {l0 : Y1} (mu : (List Bool) → Bool → Nat) (Inv : (List Bool) → Bool → Prop) {res : Option (Y4 × Unit)}
  (hs : ∀ (rc : Y1 → (List Bool) → Bool → Option (Y4 × Unit)) (have5 : (List Bool)) (changed6 : Bool), Inv have5 changed6 → (∀ (have5' : (List Bool)) (changed6' : Bool), Inv have5' changed6' → mu have5' changed6' < mu have5 changed6 → rc l0 have5' changed6' = res) → zz59_b3 (zz59_F7 big rc zz59_a3) zz59_a3 l0 have5 changed6 = res)
  (have5 : (List Bool)) (changed6 : Bool) (hm : mu have5 changed6 ≤ 500000000000) (h0 : Inv have5 changed6) : zz59_F3 big l0 have5 changed6 = res := by
  have key : ∀ (m : Nat) (have5 : (List Bool)) (changed6 : Bool), mu have5 changed6 < m → Inv have5 changed6 → zz59_l3 big zz59_a3 m l0 have5 changed6 = res := by
    intro m
    induction m with
    | zero => intro have5 changed6 h2 h3; exact absurd h2 (by omega)
    | succ m ih =>
      intro have5 changed6 h2 h3
      exact hs _ have5 changed6 h3 (fun have5' changed6' h4 h5 => ih have5' changed6' (by omega) h4)
  exact key big have5 changed6 (by have := big_ge; omega) h0
theorem zz59_h7 {rec : Y1 → (List Bool) → Bool → Option (Y4 × Unit)} {k : (List Bool) → Option (Y4 × Unit)} {l0 : Y1} {list7 : Y4} {t25 : Int} (cnt : Nat) (Inv : Nat → (List Bool) → Bool → Prop) {res : Option (Y4 × Unit)} (hn : cnt ≤ 500000000000)
  (hs : ∀ (rc : Y1 → (List Bool) → Bool → Y4 → Int → Int → Option (Y4 × Unit)) (i : Nat) (have5 : (List Bool)) (changed6 : Bool), i < cnt → Inv i have5 changed6 → (∀ (have5' : (List Bool)) (changed6' : Bool), Inv (i + 1) have5' changed6' → rc l0 have5' changed6' list7 t25 ((i + 1 : Nat) : Int) = res) → zz59_b7 (zz59_F10 big rc (zz59_a7 rec)) (zz59_a7 rec) l0 have5 changed6 list7 t25 (i : Int) = res)
  (he : ∀ (rc : Y1 → (List Bool) → Bool → Y4 → Int → Int → Option (Y4 × Unit)) (have5 : (List Bool)) (changed6 : Bool), Inv cnt have5 changed6 → zz59_b7 (zz59_F10 big rc (zz59_a7 rec)) (zz59_a7 rec) l0 have5 changed6 list7 t25 (cnt : Int) = res)
  (i0 : Nat) (hi : i0 ≤ cnt) (have5 : (List Bool)) (changed6 : Bool) (h0 : Inv i0 have5 changed6) : zz59_F7 big rec k l0 have5 changed6 list7 t25 (i0 : Int) = res := by
  have key : ∀ (m i : Nat) (have5 : (List Bool)) (changed6 : Bool), i ≤ cnt → cnt < m + i → Inv i have5 changed6 → zz59_l7 big (zz59_a7 rec) m l0 have5 changed6 list7 t25 (i : Int) = res := by
    intro m
    induction m with
    | zero => intro i have5 changed6 h1 h2 h3; exact absurd h2 (by omega)
    | succ m ih =>
      intro i have5 changed6 h1 h2 h3
      rcases Nat.lt_or_ge i cnt with hlt | hge
      · exact hs _ i have5 changed6 hlt h3 (fun have5' changed6' h4 => ih (i + 1) have5' changed6' (by omega) (by omega) h4)
      · obtain rfl : i = cnt := by omega
        exact he _ have5 changed6 h3
  exact key big i0 have5 changed6 hi (by have := big_ge; omega) h0
theorem zz59_h10 {rec : Y1 → (List Bool) → Bool → Y4 → Int → Int → Option (Y4 × Unit)} {k : Y1 → (List Bool) → Bool → Option (Y4 × Unit)} {l0 : Y1} {list7 : Y4} {x9 : Int} {t25 : Int} {t26 : Int} {t31 : Int} (cnt : Nat) (Inv : Nat → (List Bool) → Bool → Prop) {res : Option (Y4 × Unit)} (hn : cnt ≤ 500000000000)
  (hs : ∀ (rc : Y1 → (List Bool) → Bool → Y4 → Int → Int → Int → Int → Int → Option (Y4 × Unit)) (i : Nat) (have5 : (List Bool)) (changed6 : Bool), i < cnt → Inv i have5 changed6 → (∀ (have5' : (List Bool)) (changed6' : Bool), Inv (i + 1) have5' changed6' → rc l0 have5' changed6' list7 x9 t25 t26 t31 ((i + 1 : Nat) : Int) = res) → zz59_b10 (zz59_F13 big rc (zz59_a10 rec)) (zz59_a10 rec) l0 have5 changed6 list7 x9 t25 t26 t31 (i : Int) = res)
  (he : ∀ (rc : Y1 → (List Bool) → Bool → Y4 → Int → Int → Int → Int → Int → Option (Y4 × Unit)) (have5 : (List Bool)) (changed6 : Bool), Inv cnt have5 changed6 → zz59_b10 (zz59_F13 big rc (zz59_a10 rec)) (zz59_a10 rec) l0 have5 changed6 list7 x9 t25 t26 t31 (cnt : Int) = res)
  (i0 : Nat) (hi : i0 ≤ cnt) (have5 : (List Bool)) (changed6 : Bool) (h0 : Inv i0 have5 changed6) : zz59_F10 big rec k l0 have5 changed6 list7 x9 t25 t26 t31 (i0 : Int) = res := by
  have key : ∀ (m i : Nat) (have5 : (List Bool)) (changed6 : Bool), i ≤ cnt → cnt < m + i → Inv i have5 changed6 → zz59_l10 big (zz59_a10 rec) m l0 have5 changed6 list7 x9 t25 t26 t31 (i : Int) = res := by
    intro m
    induction m with
    | zero => intro i have5 changed6 h1 h2 h3; exact absurd h2 (by omega)
    | succ m ih =>
      intro i have5 changed6 h1 h2 h3
      rcases Nat.lt_or_ge i cnt with hlt | hge
      · exact hs _ i have5 changed6 hlt h3 (fun have5' changed6' h4 => ih (i + 1) have5' changed6' (by omega) (by omega) h4)
      · obtain rfl : i = cnt := by omega
        exact he _ have5 changed6 h3
  exact key big i0 have5 changed6 hi (by have := big_ge; omega) h0
theorem zz59_h13 {rec : Y1 → (List Bool) → Bool → Y4 → Int → Int → Int → Int → Int → Option (Y4 × Unit)} {k : Y1 → (List Bool) → Bool → Y4 → Int → Int → Option (Y4 × Unit)} {l0 : Y1} {list7 : Y4} {x9 : Int} {t25 : Int} {t26 : Int} {t31 : Int} {t32 : Int} {t56 : Y4} {t57 : Int} (cnt : Nat) (Inv : Nat → (List Bool) → Bool → Prop) {res : Option (Y4 × Unit)} (hn : cnt ≤ 500000000000)
  (hs : ∀ (rc : Y1 → (List Bool) → Bool → Y4 → Int → Int → Int → Int → Int → Y4 → Int → Int → Option (Y4 × Unit)) (i : Nat) (have5 : (List Bool)) (changed6 : Bool), i < cnt → Inv i have5 changed6 → (∀ (have5' : (List Bool)) (changed6' : Bool), Inv (i + 1) have5' changed6' → rc l0 have5' changed6' list7 x9 t25 t26 t31 t32 t56 t57 ((i + 1 : Nat) : Int) = res) → zz59_b13 rc (zz59_a13 rec) l0 have5 changed6 list7 x9 t25 t26 t31 t32 t56 t57 (i : Int) = res)
  (he : ∀ (rc : Y1 → (List Bool) → Bool → Y4 → Int → Int → Int → Int → Int → Y4 → Int → Int → Option (Y4 × Unit)) (have5 : (List Bool)) (changed6 : Bool), Inv cnt have5 changed6 → zz59_b13 rc (zz59_a13 rec) l0 have5 changed6 list7 x9 t25 t26 t31 t32 t56 t57 (cnt : Int) = res)
  (i0 : Nat) (hi : i0 ≤ cnt) (have5 : (List Bool)) (changed6 : Bool) (h0 : Inv i0 have5 changed6) : zz59_F13 big rec k l0 have5 changed6 list7 x9 t25 t26 t31 t32 t56 t57 (i0 : Int) = res := by
  have key : ∀ (m i : Nat) (have5 : (List Bool)) (changed6 : Bool), i ≤ cnt → cnt < m + i → Inv i have5 changed6 → zz59_l13 big (zz59_a13 rec) m l0 have5 changed6 list7 x9 t25 t26 t31 t32 t56 t57 (i : Int) = res := by
    intro m
    induction m with
    | zero => intro i have5 changed6 h1 h2 h3; exact absurd h2 (by omega)
    | succ m ih =>
      intro i have5 changed6 h1 h2 h3
      rcases Nat.lt_or_ge i cnt with hlt | hge
      · exact hs _ i have5 changed6 hlt h3 (fun have5' changed6' h4 => ih (i + 1) have5' changed6' (by omega) (by omega) h4)
      · obtain rfl : i = cnt := by omega
        exact he _ have5 changed6 h3
  exact key big i0 have5 changed6 hi (by have := big_ge; omega) h0
theorem zz61_h2 {x1 : Int} {t7 : Y4} {t8 : Int} (cnt : Nat) (Inv : Nat → Prop) {res : Option (Bool × Unit)} (hn : cnt ≤ 500000000000)
  (hs : ∀ (rc : Int → Y4 → Int → Int → Option (Bool × Unit)) (i : Nat), i < cnt → Inv i → (Inv (i + 1) → rc x1 t7 t8 ((i + 1 : Nat) : Int) = res) → zz61_b2 rc zz61_a2 x1 t7 t8 (i : Int) = res)
  (he : ∀ (rc : Int → Y4 → Int → Int → Option (Bool × Unit)), Inv cnt → zz61_b2 rc zz61_a2 x1 t7 t8 (cnt : Int) = res)
  (i0 : Nat) (hi : i0 ≤ cnt) (h0 : Inv i0) : zz61_F2 big x1 t7 t8 (i0 : Int) = res := by
  have key : ∀ (m i : Nat), i ≤ cnt → cnt < m + i → Inv i → zz61_l2 big zz61_a2 m x1 t7 t8 (i : Int) = res := by
    intro m
    induction m with
    | zero => intro i h1 h2 h3; exact absurd h2 (by omega)
    | succ m ih =>
      intro i h1 h2 h3
      rcases Nat.lt_or_ge i cnt with hlt | hge
      · exact hs _ i hlt h3 (fun h4 => ih (i + 1) (by omega) (by omega) h4)
      · obtain rfl : i = cnt := by omega
        exact he _ h3
  exact key big i0 hi (by have := big_ge; omega) h0
theorem zz62_h3 {g1 : Y4} {t11 : Y4} {t12 : Int} (cnt : Nat) (Inv : Nat → Y4 → Prop) {res : Option (Y4 × Unit)} (hn : cnt ≤ 500000000000)
  (hs : ∀ (rc : Y4 → Y4 → Y4 → Int → Int → Option (Y4 × Unit)) (i : Nat) (h5 : Y4), i < cnt → Inv i h5 → (∀ (h5' : Y4), Inv (i + 1) h5' → rc g1 h5' t11 t12 ((i + 1 : Nat) : Int) = res) → zz62_b3 rc zz62_a3 g1 h5 t11 t12 (i : Int) = res)
  (he : ∀ (rc : Y4 → Y4 → Y4 → Int → Int → Option (Y4 × Unit)) (h5 : Y4), Inv cnt h5 → zz62_b3 rc zz62_a3 g1 h5 t11 t12 (cnt : Int) = res)
  (i0 : Nat) (hi : i0 ≤ cnt) (h5 : Y4) (h0 : Inv i0 h5) : zz62_F3 big g1 h5 t11 t12 (i0 : Int) = res := by
  have key : ∀ (m i : Nat) (h5 : Y4), i ≤ cnt → cnt < m + i → Inv i h5 → zz62_l3 big zz62_a3 m g1 h5 t11 t12 (i : Int) = res := by
    intro m
    induction m with
    | zero => intro i h5 h1 h2 h3; exact absurd h2 (by omega)
    | succ m ih =>
      intro i h5 h1 h2 h3
      rcases Nat.lt_or_ge i cnt with hlt | hge
      · exact hs _ i h5 hlt h3 (fun h5' h4 => ih (i + 1) h5' (by omega) (by omega) h4)
      · obtain rfl : i = cnt := by omega
        exact he _ h5 h3
  exact key big i0 h5 hi (by have := big_ge; omega) h0
theorem zz63_h2 {y1 : Y4} {t7 : Y4} {t8 : Int} (cnt : Nat) (Inv : Nat → Prop) {res : Option (Bool × Unit)} (hn : cnt ≤ 500000000000)
  (hs : ∀ (rc : Y4 → Y4 → Int → Int → Option (Bool × Unit)) (i : Nat), i < cnt → Inv i → (Inv (i + 1) → rc y1 t7 t8 ((i + 1 : Nat) : Int) = res) → zz63_b2 rc zz63_a2 y1 t7 t8 (i : Int) = res)
  (he : ∀ (rc : Y4 → Y4 → Int → Int → Option (Bool × Unit)), Inv cnt → zz63_b2 rc zz63_a2 y1 t7 t8 (cnt : Int) = res)
  (i0 : Nat) (hi : i0 ≤ cnt) (h0 : Inv i0) : zz63_F2 big y1 t7 t8 (i0 : Int) = res := by
  have key : ∀ (m i : Nat), i ≤ cnt → cnt < m + i → Inv i → zz63_l2 big zz63_a2 m y1 t7 t8 (i : Int) = res := by
    intro m
    induction m with
    | zero => intro i h1 h2 h3; exact absurd h2 (by omega)
    | succ m ih =>
      intro i h1 h2 h3
      rcases Nat.lt_or_ge i cnt with hlt | hge
      · exact hs _ i hlt h3 (fun h4 => ih (i + 1) (by omega) (by omega) h4)
      · obtain rfl : i = cnt := by omega
        exact he _ h3
  exact key big i0 hi (by have := big_ge; omega) h0
theorem zz64_h7 {l4 : Y1} {not6 : Y4} (cnt : Nat) (Inv : Nat → Y3 → Prop) {res : Option ((Y3 × (Bool × Unit)) × Unit)} (hn : cnt ≤ 500000000000)
  (hs : ∀ (rc : Y1 → Y4 → Y3 → Int → Option ((Y3 × (Bool × Unit)) × Unit)) (i : Nat) (list7 : Y3), i < cnt → Inv i list7 → (∀ (list7' : Y3), Inv (i + 1) list7' → rc l4 not6 list7' ((i + 1 : Nat) : Int) = res) → zz64_b7 rc zz64_a7 l4 not6 list7 (i : Int) = res)
  (he : ∀ (rc : Y1 → Y4 → Y3 → Int → Option ((Y3 × (Bool × Unit)) × Unit)) (list7 : Y3), Inv cnt list7 → zz64_b7 rc zz64_a7 l4 not6 list7 (cnt : Int) = res)
  (i0 : Nat) (hi : i0 ≤ cnt) (list7 : Y3) (h0 : Inv i0 list7) : zz64_F7 big l4 not6 list7 (i0 : Int) = res := by
  have key : ∀ (m i : Nat) (list7 : Y3), i ≤ cnt → cnt < m + i → Inv i list7 → zz64_l7 big zz64_a7 m l4 not6 list7 (i : Int) = res := by
    intro m
    induction m with
    | zero => intro i list7 h1 h2 h3; exact absurd h2 (by omega)
    | succ m ih =>
      intro i list7 h1 h2 h3
      rcases Nat.lt_or_ge i cnt with hlt | hge
      · exact hs _ i list7 hlt h3 (fun list7' h4 => ih (i + 1) list7' (by omega) (by omega) h4)
      · obtain rfl : i = cnt := by omega
        exact he _ list7 h3
  exact key big i0 list7 hi (by have := big_ge; omega) h0
end Go.Proofs.Ytlndlclemhfekaa
