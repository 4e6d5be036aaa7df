import Derived.Test.YtlndlclemhfekaaGreatPLib
import Derived.Test.YtlndlclemhfekaaGreatGk13
set_option linter.unusedVariables false
namespace Go.Proofs.YtlndlclemhfekaaGreat
open Go Go.Gx Go.Proofs

/-! rules for the loops -/
theorem zz4_h3 {a0 : Y3} (cnt : Nat) (Inv : Nat → Y3 → Prop) {res : Option Y2} (hn : cnt ≤ 500000000000)
  (hs : ∀ (rc : Y3 → Y3 → Int → Option Y2) (i : Nat) (out3 : Y3), i < cnt → Inv i out3 → (∀ (out3' : Y3), Inv (i + 1) out3' → rc a0 out3' ((i + 1 : Nat) : Int) = res) → zz4_b3 rc zz4_a3 a0 out3 (i : Int) = res)
  (he : ∀ (rc : Y3 → Y3 → Int → Option Y2) (out3 : Y3), Inv cnt out3 → zz4_b3 rc zz4_a3 a0 out3 (cnt : Int) = res)
  (i0 : Nat) (hi : i0 ≤ cnt) (out3 : Y3) (h0 : Inv i0 out3) : zz4_F3 big a0 out3 (i0 : Int) = res := by
  have key : ∀ (m i : Nat) (out3 : Y3), i ≤ cnt → cnt < m + i → Inv i out3 → zz4_l3 big zz4_a3 m a0 out3 (i : Int) = res := by
    intro m
    induction m with
    | zero => intro i out3 h1 h2 h3; exact absurd h2 (by omega)
    | succ m ih =>
      intro i out3 h1 h2 h3
      rcases Nat.lt_or_ge i cnt with hlt | hge
      · exact hs _ i out3 hlt h3 (fun out3' h4 => ih (i + 1) out3' (by omega) (by omega) h4)
      · obtain rfl : i = cnt := by omega
        exact he _ out3 h3
  exact key big i0 out3 hi (by have := big_ge; omega) h0
theorem zz8_h2 {l0 : Y4} {n1 : Int} (cnt : Nat) (Inv : Nat → Prop) {res : Z0} (hn : cnt ≤ 500000000000)
  (hs : ∀ (rc : Y4 → Int → Int → Z0) (i : Nat), i < cnt → Inv i → (Inv (i + 1) → rc l0 n1 ((i + 1 : Nat) : Int) = res) → zz8_b2 rc zz8_a2 l0 n1 (i : Int) = res)
  (he : ∀ (rc : Y4 → Int → Int → Z0), Inv cnt → zz8_b2 rc zz8_a2 l0 n1 (cnt : Int) = res)
  (i0 : Nat) (hi : i0 ≤ cnt) (h0 : Inv i0) : zz8_F2 big l0 n1 (i0 : Int) = res := by
  have key : ∀ (m i : Nat), i ≤ cnt → cnt < m + i → Inv i → zz8_l2 big zz8_a2 m l0 n1 (i : Int) = res := by
    intro m
    induction m with
    | zero => intro i h1 h2 h3; exact absurd h2 (by omega)
    | succ m ih =>
      intro i h1 h2 h3
      rcases Nat.lt_or_ge i cnt with hlt | hge
      · exact hs _ i hlt h3 (fun h4 => ih (i + 1) (by omega) (by omega) h4)
      · obtain rfl : i = cnt := by omega
        exact he _ h3
  exact key big i0 hi (by have := big_ge; omega) h0
theorem zz9_h2 {x0 : Y4} {y1 : Y4} (cnt : Nat) (Inv : Nat → Prop) {res : Z0} (hn : cnt ≤ 500000000000)
  (hs : ∀ (rc : Y4 → Y4 → Int → Z0) (i : Nat), i < cnt → Inv i → (Inv (i + 1) → rc x0 y1 ((i + 1 : Nat) : Int) = res) → zz9_b2 rc zz9_a2 x0 y1 (i : Int) = res)
  (he : ∀ (rc : Y4 → Y4 → Int → Z0), Inv cnt → zz9_b2 rc zz9_a2 x0 y1 (cnt : Int) = res)
  (i0 : Nat) (hi : i0 ≤ cnt) (h0 : Inv i0) : zz9_F2 big x0 y1 (i0 : Int) = res := by
  have key : ∀ (m i : Nat), i ≤ cnt → cnt < m + i → Inv i → zz9_l2 big zz9_a2 m x0 y1 (i : Int) = res := by
    intro m
    induction m with
    | zero => intro i h1 h2 h3; exact absurd h2 (by omega)
    | succ m ih =>
      intro i h1 h2 h3
      rcases Nat.lt_or_ge i cnt with hlt | hge
      · exact hs _ i hlt h3 (fun h4 => ih (i + 1) (by omega) (by omega) h4)
      · obtain rfl : i = cnt := by omega
        exact he _ h3
  exact key big i0 hi (by have := big_ge; omega) h0
theorem zz10_h5 {p1 : Y2} {n3 : Int} (cnt : Nat) (Inv : Nat → Prop) {res : Z0} (hn : cnt ≤ 500000000000)
  (hs : ∀ (rc : Y2 → Int → Int → Z0) (i : Nat), i < cnt → Inv i → (Inv (i + 1) → rc p1 n3 ((i + 1 : Nat) : Int) = res) → zz10_b5 rc (zz10_a5 (zz10_F10 big)) p1 n3 (i : Int) = res)
  (he : ∀ (rc : Y2 → Int → Int → Z0), Inv cnt → zz10_b5 rc (zz10_a5 (zz10_F10 big)) p1 n3 (cnt : Int) = res)
  (i0 : Nat) (hi : i0 ≤ cnt) (h0 : Inv i0) : zz10_F5 big p1 n3 (i0 : Int) = res := by
  have key : ∀ (m i : Nat), i ≤ cnt → cnt < m + i → Inv i → zz10_l5 big (zz10_a5 (zz10_F10 big)) m p1 n3 (i : Int) = res := by
    intro m
    induction m with
    | zero => intro i h1 h2 h3; exact absurd h2 (by omega)
    | succ m ih =>
      intro i h1 h2 h3
      rcases Nat.lt_or_ge i cnt with hlt | hge
      · exact hs _ i hlt h3 (fun h4 => ih (i + 1) (by omega) (by omega) h4)
      · obtain rfl : i = cnt := by omega
        exact he _ h3
  exact key big i0 hi (by have := big_ge; omega) h0
theorem zz10_h10 {p1 : Y2} {n3 : Int} (cnt : Nat) (Inv : Nat → Prop) {res : Z0} (hn : cnt ≤ 500000000000)
  (hs : ∀ (rc : Y2 → Int → Int → Z0) (i : Nat), i < cnt → Inv i → (Inv (i + 1) → rc p1 n3 ((i + 1 : Nat) : Int) = res) → zz10_b10 (zz10_F13 big rc zz10_a10) zz10_a10 p1 n3 (i : Int) = res)
  (he : ∀ (rc : Y2 → Int → Int → Z0), Inv cnt → zz10_b10 (zz10_F13 big rc zz10_a10) zz10_a10 p1 n3 (cnt : Int) = res)
  (i0 : Nat) (hi : i0 ≤ cnt) (h0 : Inv i0) : zz10_F10 big p1 n3 (i0 : Int) = res := by
  have key : ∀ (m i : Nat), i ≤ cnt → cnt < m + i → Inv i → zz10_l10 big zz10_a10 m p1 n3 (i : Int) = res := by
    intro m
    induction m with
    | zero => intro i h1 h2 h3; exact absurd h2 (by omega)
    | succ m ih =>
      intro i h1 h2 h3
      rcases Nat.lt_or_ge i cnt with hlt | hge
      · exact hs _ i hlt h3 (fun h4 => ih (i + 1) (by omega) (by omega) h4)
      · obtain rfl : i = cnt := by omega
        exact he _ h3
  exact key big i0 hi (by have := big_ge; omega) h0
theorem zz10_h13 {rec : Y2 → Int → Int → Z0} {k : Z0} {p1 : Y2} {n3 : Int} {x5 : Int} (cnt : Nat) (Inv : Nat → Prop) {res : Z0} (hn : cnt ≤ 500000000000)
  (hs : ∀ (rc : Y2 → Int → Int → Int → Z0) (i : Nat), i < cnt → Inv i → (Inv (i + 1) → rc p1 n3 x5 ((i + 1 : Nat) : Int) = res) → zz10_b13 rc (zz10_a13 rec) p1 n3 x5 (i : Int) = res)
  (he : ∀ (rc : Y2 → Int → Int → Int → Z0), Inv cnt → zz10_b13 rc (zz10_a13 rec) p1 n3 x5 (cnt : Int) = res)
  (i0 : Nat) (hi : i0 ≤ cnt) (h0 : Inv i0) : zz10_F13 big rec k p1 n3 x5 (i0 : Int) = res := by
  have key : ∀ (m i : Nat), i ≤ cnt → cnt < m + i → Inv i → zz10_l13 big (zz10_a13 rec) m p1 n3 x5 (i : Int) = res := by
    intro m
    induction m with
    | zero => intro i h1 h2 h3; exact absurd h2 (by omega)
    | succ m ih =>
      intro i h1 h2 h3
      rcases Nat.lt_or_ge i cnt with hlt | hge
      · exact hs _ i hlt h3 (fun h4 => ih (i + 1) (by omega) (by omega) h4)
      · obtain rfl : i = cnt := by omega
        exact he _ h3
  exact key big i0 hi (by have := big_ge; omega) h0
theorem zz12_h3 {p1 : Y2} {t2 : Y2} (cnt : Nat) (Inv : Nat → Y2 → Prop) {res : Z8} (hn : cnt ≤ 500000000000)
  (hs : ∀ (rc : Y2 → Y2 → Y2 → Int → Z8) (i : Nat) (out3 : Y2), i < cnt → Inv i out3 → (∀ (out3' : Y2), Inv (i + 1) out3' → rc p1 t2 out3' ((i + 1 : Nat) : Int) = res) → zz12_b3 (zz12_F7 big rc zz12_a3) zz12_a3 p1 t2 out3 (i : Int) = res)
  (he : ∀ (rc : Y2 → Y2 → Y2 → Int → Z8) (out3 : Y2), Inv cnt out3 → zz12_b3 (zz12_F7 big rc zz12_a3) zz12_a3 p1 t2 out3 (cnt : Int) = res)
  (i0 : Nat) (hi : i0 ≤ cnt) (out3 : Y2) (h0 : Inv i0 out3) : zz12_F3 big p1 t2 out3 (i0 : Int) = res := by
  have key : ∀ (m i : Nat) (out3 : Y2), i ≤ cnt → cnt < m + i → Inv i out3 → zz12_l3 big zz12_a3 m p1 t2 out3 (i : Int) = res := by
    intro m
    induction m with
    | zero => intro i out3 h1 h2 h3; exact absurd h2 (by omega)
    | succ m ih =>
      intro i out3 h1 h2 h3
      rcases Nat.lt_or_ge i cnt with hlt | hge
      · exact hs _ i out3 hlt h3 (fun out3' h4 => ih (i + 1) out3' (by omega) (by omega) h4)
      · obtain rfl : i = cnt := by omega
        exact he _ out3 h3
  exact key big i0 out3 hi (by have := big_ge; omega) h0
theorem zz12_h7 {rec : Y2 → Y2 → Y2 → Int → Z8} {k : Y2 → Y2 → Z8} {p1 : Y2} {t2 : Y2} {out3 : Y2} {x4 : Int} (cnt : Nat) (Inv : Nat → Y4 → Prop) {res : Z8} (hn : cnt ≤ 500000000000)
  (hs : ∀ (rc : Y2 → Y2 → Y2 → Int → Y4 → Int → Z8) (i : Nat) (below5 : Y4), i < cnt → Inv i below5 → (∀ (below5' : Y4), Inv (i + 1) below5' → rc p1 t2 out3 x4 below5' ((i + 1 : Nat) : Int) = res) → zz12_b7 rc (zz12_a7 rec) p1 t2 out3 x4 below5 (i : Int) = res)
  (he : ∀ (rc : Y2 → Y2 → Y2 → Int → Y4 → Int → Z8) (below5 : Y4), Inv cnt below5 → zz12_b7 rc (zz12_a7 rec) p1 t2 out3 x4 below5 (cnt : Int) = res)
  (i0 : Nat) (hi : i0 ≤ cnt) (below5 : Y4) (h0 : Inv i0 below5) : zz12_F7 big rec k p1 t2 out3 x4 below5 (i0 : Int) = res := by
  have key : ∀ (m i : Nat) (below5 : Y4), i ≤ cnt → cnt < m + i → Inv i below5 → zz12_l7 big (zz12_a7 rec) m p1 t2 out3 x4 below5 (i : Int) = res := by
    intro m
    induction m with
    | zero => intro i below5 h1 h2 h3; exact absurd h2 (by omega)
    | succ m ih =>
      intro i below5 h1 h2 h3
      rcases Nat.lt_or_ge i cnt with hlt | hge
      · exact hs _ i below5 hlt h3 (fun below5' h4 => ih (i + 1) below5' (by omega) (by omega) h4)
      · obtain rfl : i = cnt := by omega
        exact he _ below5 h3
  exact key big i0 below5 hi (by have := big_ge; omega) h0
theorem zz13_h3 {some1 : Y4} {p2 : Y2} (cnt : Nat) (Inv : Nat → Y4 → Prop) {res : Z2} (hn : cnt ≤ 500000000000)
  (hs : ∀ (rc : Y4 → Y2 → Y4 → Int → Z2) (i : Nat) (low5 : Y4), i < cnt → Inv i low5 → (∀ (low5' : Y4), Inv (i + 1) low5' → rc some1 p2 low5' ((i + 1 : Nat) : Int) = res) → zz13_b3 (zz13_F7 big rc (zz13_a3 (zz13_F13 big))) (zz13_a3 (zz13_F13 big)) some1 p2 low5 (i : Int) = res)
  (he : ∀ (rc : Y4 → Y2 → Y4 → Int → Z2) (low5 : Y4), Inv cnt low5 → zz13_b3 (zz13_F7 big rc (zz13_a3 (zz13_F13 big))) (zz13_a3 (zz13_F13 big)) some1 p2 low5 (cnt : Int) = res)
  (i0 : Nat) (hi : i0 ≤ cnt) (low5 : Y4) (h0 : Inv i0 low5) : zz13_F3 big some1 p2 low5 (i0 : Int) = res := by
  have key : ∀ (m i : Nat) (low5 : Y4), i ≤ cnt → cnt < m + i → Inv i low5 → zz13_l3 big (zz13_a3 (zz13_F13 big)) m some1 p2 low5 (i : Int) = res := by
    intro m
    induction m with
    | zero => intro i low5 h1 h2 h3; exact absurd h2 (by omega)
    | succ m ih =>
      intro i low5 h1 h2 h3
      rcases Nat.lt_or_ge i cnt with hlt | hge
      · exact hs _ i low5 hlt h3 (fun low5' h4 => ih (i + 1) low5' (by omega) (by omega) h4)
      · obtain rfl : i = cnt := by omega
        exact he _ low5 h3
  exact key big i0 low5 hi (by have := big_ge; omega) h0
theorem zz13_h7 {rec : Y4 → Y2 → Y4 → Int → Z2} {k : Y2 → Y4 → Z2} {some1 : Y4} {p2 : Y2} {low5 : Y4} {z6 : Int} (cnt : Nat) (Inv : Nat → Bool → Prop) {res : Z2} (hn : cnt ≤ 500000000000)
  (hs : ∀ (rc : Y4 → Y2 → Y4 → Int → Bool → Int → Z2) (i : Nat) (all7 : Bool), i < cnt → Inv i all7 → (∀ (all7' : Bool), Inv (i + 1) all7' → rc some1 p2 low5 z6 all7' ((i + 1 : Nat) : Int) = res) → zz13_b7 rc (zz13_a7 rec) some1 p2 low5 z6 all7 (i : Int) = res)
  (he : ∀ (rc : Y4 → Y2 → Y4 → Int → Bool → Int → Z2) (all7 : Bool), Inv cnt all7 → zz13_b7 rc (zz13_a7 rec) some1 p2 low5 z6 all7 (cnt : Int) = res)
  (i0 : Nat) (hi : i0 ≤ cnt) (all7 : Bool) (h0 : Inv i0 all7) : zz13_F7 big rec k some1 p2 low5 z6 all7 (i0 : Int) = res := by
  have key : ∀ (m i : Nat) (all7 : Bool), i ≤ cnt → cnt < m + i → Inv i all7 → zz13_l7 big (zz13_a7 rec) m some1 p2 low5 z6 all7 (i : Int) = res := by
    intro m
    induction m with
    | zero => intro i all7 h1 h2 h3; exact absurd h2 (by omega)
    | succ m ih =>
      intro i all7 h1 h2 h3
      rcases Nat.lt_or_ge i cnt with hlt | hge
      · exact hs _ i all7 hlt h3 (fun all7' h4 => ih (i + 1) all7' (by omega) (by omega) h4)
      · obtain rfl : i = cnt := by omega
        exact he _ all7 h3
  exact key big i0 all7 hi (by have := big_ge; omega) h0
theorem zz13_h13 {p2 : Y2} {low5 : Y4} (cnt : Nat) (Inv : Nat → Prop) {res : Z2} (hn : cnt ≤ 500000000000)
  (hs : ∀ (rc : Y2 → Y4 → Int → Z2) (i : Nat), i < cnt → Inv i → (Inv (i + 1) → rc p2 low5 ((i + 1 : Nat) : Int) = res) → zz13_b13 rc zz13_a13 p2 low5 (i : Int) = res)
  (he : ∀ (rc : Y2 → Y4 → Int → Z2), Inv cnt → zz13_b13 rc zz13_a13 p2 low5 (cnt : Int) = res)
  (i0 : Nat) (hi : i0 ≤ cnt) (h0 : Inv i0) : zz13_F13 big p2 low5 (i0 : Int) = res := by
  have key : ∀ (m i : Nat), i ≤ cnt → cnt < m + i → Inv i → zz13_l13 big zz13_a13 m p2 low5 (i : Int) = res := by
    intro m
    induction m with
    | zero => intro i h1 h2 h3; exact absurd h2 (by omega)
    | succ m ih =>
      intro i h1 h2 h3
      rcases Nat.lt_or_ge i cnt with hlt | hge
      · exact hs _ i hlt h3 (fun h4 => ih (i + 1) (by omega) (by omega) h4)
      · obtain rfl : i = cnt := by omega
        exact he _ h3
  exact key big i0 hi (by have := big_ge; omega) h0
theorem zz14_h5 {p1 : Y2} {dual3 : Y2} (cnt : Nat) (Inv : Nat → Prop) {res : Z0} (hn : cnt ≤ 500000000000)
  (hs : ∀ (rc : Y2 → Y2 → Int → Z0) (i : Nat), i < cnt → Inv i → (Inv (i + 1) → rc p1 dual3 ((i + 1 : Nat) : Int) = res) → zz14_b5 (zz14_F8 big rc zz14_a5) zz14_a5 p1 dual3 (i : Int) = res)
  (he : ∀ (rc : Y2 → Y2 → Int → Z0), Inv cnt → zz14_b5 (zz14_F8 big rc zz14_a5) zz14_a5 p1 dual3 (cnt : Int) = res)
  (i0 : Nat) (hi : i0 ≤ cnt) (h0 : Inv i0) : zz14_F5 big p1 dual3 (i0 : Int) = res := by
  have key : ∀ (m i : Nat), i ≤ cnt → cnt < m + i → Inv i → zz14_l5 big zz14_a5 m p1 dual3 (i : Int) = res := by
    intro m
    induction m with
    | zero => intro i h1 h2 h3; exact absurd h2 (by omega)
    | succ m ih =>
      intro i h1 h2 h3
      rcases Nat.lt_or_ge i cnt with hlt | hge
      · exact hs _ i hlt h3 (fun h4 => ih (i + 1) (by omega) (by omega) h4)
      · obtain rfl : i = cnt := by omega
        exact he _ h3
  exact key big i0 hi (by have := big_ge; omega) h0
theorem zz14_h8 {rec : Y2 → Y2 → Int → Z0} {k : Z0} {p1 : Y2} {dual3 : Y2} {x4 : Int} (cnt : Nat) (Inv : Nat → Prop) {res : Z0} (hn : cnt ≤ 500000000000)
  (hs : ∀ (rc : Y2 → Y2 → Int → Int → Z0) (i : Nat), i < cnt → Inv i → (Inv (i + 1) → rc p1 dual3 x4 ((i + 1 : Nat) : Int) = res) → zz14_b8 rc (zz14_a8 rec) p1 dual3 x4 (i : Int) = res)
  (he : ∀ (rc : Y2 → Y2 → Int → Int → Z0), Inv cnt → zz14_b8 rc (zz14_a8 rec) p1 dual3 x4 (cnt : Int) = res)
  (i0 : Nat) (hi : i0 ≤ cnt) (h0 : Inv i0) : zz14_F8 big rec k p1 dual3 x4 (i0 : Int) = res := by
  have key : ∀ (m i : Nat), i ≤ cnt → cnt < m + i → Inv i → zz14_l8 big (zz14_a8 rec) m p1 dual3 x4 (i : Int) = res := by
    intro m
    induction m with
    | zero => intro i h1 h2 h3; exact absurd h2 (by omega)
    | succ m ih =>
      intro i h1 h2 h3
      rcases Nat.lt_or_ge i cnt with hlt | hge
      · exact hs _ i hlt h3 (fun h4 => ih (i + 1) (by omega) (by omega) h4)
      · obtain rfl : i = cnt := by omega
        exact he _ h3
  exact key big i0 hi (by have := big_ge; omega) h0
theorem zz17_h4 {x1 : Int} {y2 : Int} {p3 : Y2} (cnt : Nat) (Inv : Nat → Prop) {res : Z0} (hn : cnt ≤ 500000000000)
  (hs : ∀ (rc : Int → Int → Y2 → Int → Z0) (i : Nat), i < cnt → Inv i → (Inv (i + 1) → rc x1 y2 p3 ((i + 1 : Nat) : Int) = res) → zz17_b4 rc zz17_a4 x1 y2 p3 (i : Int) = res)
  (he : ∀ (rc : Int → Int → Y2 → Int → Z0), Inv cnt → zz17_b4 rc zz17_a4 x1 y2 p3 (cnt : Int) = res)
  (i0 : Nat) (hi : i0 ≤ cnt) (h0 : Inv i0) : zz17_F4 big x1 y2 p3 (i0 : Int) = res := by
  have key : ∀ (m i : Nat), i ≤ cnt → cnt < m + i → Inv i → zz17_l4 big zz17_a4 m x1 y2 p3 (i : Int) = res := by
    intro m
    induction m with
    | zero => intro i h1 h2 h3; exact absurd h2 (by omega)
    | succ m ih =>
      intro i h1 h2 h3
      rcases Nat.lt_or_ge i cnt with hlt | hge
      · exact hs _ i hlt h3 (fun h4 => ih (i + 1) (by omega) (by omega) h4)
      · obtain rfl : i = cnt := by omega
        exact he _ h3
  exact key big i0 hi (by have := big_ge; omega) h0
theorem zz18_h3 {p1 : Y2} (cnt : Nat) (Inv : Nat → Y4 → Prop) {res : Z1} (hn : cnt ≤ 500000000000)
  (hs : ∀ (rc : Y2 → Y4 → Int → Z1) (i : Nat) (out3 : Y4), i < cnt → Inv i out3 → (∀ (out3' : Y4), Inv (i + 1) out3' → rc p1 out3' ((i + 1 : Nat) : Int) = res) → zz18_b3 (zz18_F7 big rc zz18_a3) zz18_a3 p1 out3 (i : Int) = res)
  (he : ∀ (rc : Y2 → Y4 → Int → Z1) (out3 : Y4), Inv cnt out3 → zz18_b3 (zz18_F7 big rc zz18_a3) zz18_a3 p1 out3 (cnt : Int) = res)
  (i0 : Nat) (hi : i0 ≤ cnt) (out3 : Y4) (h0 : Inv i0 out3) : zz18_F3 big p1 out3 (i0 : Int) = res := by
  have key : ∀ (m i : Nat) (out3 : Y4), i ≤ cnt → cnt < m + i → Inv i out3 → zz18_l3 big zz18_a3 m p1 out3 (i : Int) = res := by
    intro m
    induction m with
    | zero => intro i out3 h1 h2 h3; exact absurd h2 (by omega)
    | succ m ih =>
      intro i out3 h1 h2 h3
      rcases Nat.lt_or_ge i cnt with hlt | hge
      · exact hs _ i out3 hlt h3 (fun out3' h4 => ih (i + 1) out3' (by omega) (by omega) h4)
      · obtain rfl : i = cnt := by omega
        exact he _ out3 h3
  exact key big i0 out3 hi (by have := big_ge; omega) h0
theorem zz18_h7 {rec : Y2 → Y4 → Int → Z1} {k : Y4 → Z1} {p1 : Y2} {out3 : Y4} {y4 : Int} (cnt : Nat) (Inv : Nat → Int → Prop) {res : Z1} (hn : cnt ≤ 500000000000)
  (hs : ∀ (rc : Y2 → Y4 → Int → Int → Int → Z1) (i : Nat) (n5 : Int), i < cnt → Inv i n5 → (∀ (n5' : Int), Inv (i + 1) n5' → rc p1 out3 y4 n5' ((i + 1 : Nat) : Int) = res) → zz18_b7 rc (zz18_a7 rec) p1 out3 y4 n5 (i : Int) = res)
  (he : ∀ (rc : Y2 → Y4 → Int → Int → Int → Z1) (n5 : Int), Inv cnt n5 → zz18_b7 rc (zz18_a7 rec) p1 out3 y4 n5 (cnt : Int) = res)
  (i0 : Nat) (hi : i0 ≤ cnt) (n5 : Int) (h0 : Inv i0 n5) : zz18_F7 big rec k p1 out3 y4 n5 (i0 : Int) = res := by
  have key : ∀ (m i : Nat) (n5 : Int), i ≤ cnt → cnt < m + i → Inv i n5 → zz18_l7 big (zz18_a7 rec) m p1 out3 y4 n5 (i : Int) = res := by
    intro m
    induction m with
    | zero => intro i n5 h1 h2 h3; exact absurd h2 (by omega)
    | succ m ih =>
      intro i n5 h1 h2 h3
      rcases Nat.lt_or_ge i cnt with hlt | hge
      · exact hs _ i n5 hlt h3 (fun n5' h4 => ih (i + 1) n5' (by omega) (by omega) h4)
      · obtain rfl : i = cnt := by omega
        exact he _ n5 h3
  exact key big i0 n5 hi (by have := big_ge; omega) h0
theorem zz19_h5 {p1 : Y2} {t2 : Y7} {n3 : Int} {dual4 : Y2} (cnt : Nat) (Inv : Nat → Y6 → Y6 → Prop) {res : Z7} (hn : cnt ≤ 500000000000)
  (hs : ∀ (rc : Y2 → Y7 → Int → Y2 → Y6 → Y6 → Int → Z7) (i : Nat) (meet5 join6 : Y6), i < cnt → Inv i meet5 join6 → (∀ (meet5' : Y6) (join6' : Y6), Inv (i + 1) meet5' join6' → rc p1 t2 n3 dual4 meet5' join6' ((i + 1 : Nat) : Int) = res) → zz19_b5 (zz19_F8 big rc zz19_a5) zz19_a5 p1 t2 n3 dual4 meet5 join6 (i : Int) = res)
  (he : ∀ (rc : Y2 → Y7 → Int → Y2 → Y6 → Y6 → Int → Z7) (meet5 join6 : Y6), Inv cnt meet5 join6 → zz19_b5 (zz19_F8 big rc zz19_a5) zz19_a5 p1 t2 n3 dual4 meet5 join6 (cnt : Int) = res)
  (i0 : Nat) (hi : i0 ≤ cnt) (meet5 join6 : Y6) (h0 : Inv i0 meet5 join6) : zz19_F5 big p1 t2 n3 dual4 meet5 join6 (i0 : Int) = res := by
  have key : ∀ (m i : Nat) (meet5 join6 : Y6), i ≤ cnt → cnt < m + i → Inv i meet5 join6 → zz19_l5 big zz19_a5 m p1 t2 n3 dual4 meet5 join6 (i : Int) = res := by
    intro m
    induction m with
    | zero => intro i meet5 join6 h1 h2 h3; exact absurd h2 (by omega)
    | succ m ih =>
      intro i meet5 join6 h1 h2 h3
      rcases Nat.lt_or_ge i cnt with hlt | hge
      · exact hs _ i meet5 join6 hlt h3 (fun meet5' join6' h4 => ih (i + 1) meet5' join6' (by omega) (by omega) h4)
      · obtain rfl : i = cnt := by omega
        exact he _ meet5 join6 h3
  exact key big i0 meet5 join6 hi (by have := big_ge; omega) h0
theorem zz19_h8 {rec : Y2 → Y7 → Int → Y2 → Y6 → Y6 → Int → Z7} {k : Y7 → Int → Y6 → Y6 → Z7} {p1 : Y2} {t2 : Y7} {n3 : Int} {dual4 : Y2} {x7 : Int} (cnt : Nat) (Inv : Nat → Y6 → Y6 → Prop) {res : Z7} (hn : cnt ≤ 500000000000)
  (hs : ∀ (rc : Y2 → Y7 → Int → Y2 → Y6 → Y6 → Int → Int → Z7) (i : Nat) (meet5 join6 : Y6), i < cnt → Inv i meet5 join6 → (∀ (meet5' : Y6) (join6' : Y6), Inv (i + 1) meet5' join6' → rc p1 t2 n3 dual4 meet5' join6' x7 ((i + 1 : Nat) : Int) = res) → zz19_b8 rc (zz19_a8 rec) p1 t2 n3 dual4 meet5 join6 x7 (i : Int) = res)
  (he : ∀ (rc : Y2 → Y7 → Int → Y2 → Y6 → Y6 → Int → Int → Z7) (meet5 join6 : Y6), Inv cnt meet5 join6 → zz19_b8 rc (zz19_a8 rec) p1 t2 n3 dual4 meet5 join6 x7 (cnt : Int) = res)
  (i0 : Nat) (hi : i0 ≤ cnt) (meet5 join6 : Y6) (h0 : Inv i0 meet5 join6) : zz19_F8 big rec k p1 t2 n3 dual4 meet5 join6 x7 (i0 : Int) = res := by
  have key : ∀ (m i : Nat) (meet5 join6 : Y6), i ≤ cnt → cnt < m + i → Inv i meet5 join6 → zz19_l8 big (zz19_a8 rec) m p1 t2 n3 dual4 meet5 join6 x7 (i : Int) = res := by
    intro m
    induction m with
    | zero => intro i meet5 join6 h1 h2 h3; exact absurd h2 (by omega)
    | succ m ih =>
      intro i meet5 join6 h1 h2 h3
      rcases Nat.lt_or_ge i cnt with hlt | hge
      · exact hs _ i meet5 join6 hlt h3 (fun meet5' join6' h4 => ih (i + 1) meet5' join6' (by omega) (by omega) h4)
      · obtain rfl : i = cnt := by omega
        exact he _ meet5 join6 h3
  exact key big i0 meet5 join6 hi (by have := big_ge; omega) h0
theorem zz20_h2 {j1 : Int} {p2 : Y2} (cnt : Nat) (Inv : Nat → Prop) {res : Z2} (hn : cnt ≤ 500000000000)
  (hs : ∀ (rc : Int → Y2 → Int → Z2) (i : Nat), i < cnt → Inv i → (Inv (i + 1) → rc j1 p2 ((i + 1 : Nat) : Int) = res) → zz20_b2 rc zz20_a2 j1 p2 (i : Int) = res)
  (he : ∀ (rc : Int → Y2 → Int → Z2), Inv cnt → zz20_b2 rc zz20_a2 j1 p2 (cnt : Int) = res)
  (i0 : Nat) (hi : i0 ≤ cnt) (h0 : Inv i0) : zz20_F2 big j1 p2 (i0 : Int) = res := by
  have key : ∀ (m i : Nat), i ≤ cnt → cnt < m + i → Inv i → zz20_l2 big zz20_a2 m j1 p2 (i : Int) = res := by
    intro m
    induction m with
    | zero => intro i h1 h2 h3; exact absurd h2 (by omega)
    | succ m ih =>
      intro i h1 h2 h3
      rcases Nat.lt_or_ge i cnt with hlt | hge
      · exact hs _ i hlt h3 (fun h4 => ih (i + 1) (by omega) (by omega) h4)
      · obtain rfl : i = cnt := by omega
        exact he _ h3
  exact key big i0 hi (by have := big_ge; omega) h0
theorem zz21_h3 {n0 : Int} (cnt : Nat) (Inv : Nat → Y4 → Prop) {res : Z1} (hn : cnt ≤ 500000000000)
  (hs : ∀ (rc : Int → Y4 → Int → Z1) (i : Nat) (out3 : Y4), i < cnt → Inv i out3 → (∀ (out3' : Y4), Inv (i + 1) out3' → rc n0 out3' ((i + 1 : Nat) : Int) = res) → zz21_b3 rc zz21_a3 n0 out3 (i : Int) = res)
  (he : ∀ (rc : Int → Y4 → Int → Z1) (out3 : Y4), Inv cnt out3 → zz21_b3 rc zz21_a3 n0 out3 (cnt : Int) = res)
  (i0 : Nat) (hi : i0 ≤ cnt) (out3 : Y4) (h0 : Inv i0 out3) : zz21_F3 big n0 out3 (i0 : Int) = res := by
  have key : ∀ (m i : Nat) (out3 : Y4), i ≤ cnt → cnt < m + i → Inv i out3 → zz21_l3 big zz21_a3 m n0 out3 (i : Int) = res := by
    intro m
    induction m with
    | zero => intro i out3 h1 h2 h3; exact absurd h2 (by omega)
    | succ m ih =>
      intro i out3 h1 h2 h3
      rcases Nat.lt_or_ge i cnt with hlt | hge
      · exact hs _ i out3 hlt h3 (fun out3' h4 => ih (i + 1) out3' (by omega) (by omega) h4)
      · obtain rfl : i = cnt := by omega
        exact he _ out3 h3
  exact key big i0 out3 hi (by have := big_ge; omega) h0
theorem zz24_h4 {p0 : Y4} {low7 : Int} {high8 : Int} (cnt : Nat) (Inv : Nat → Y4 → Prop) {res : Z1} (hn : cnt ≤ 500000000000)
  (hs : ∀ (rc : Y4 → Int → Int → Y4 → Int → Z1) (i : Nat) (out9 : Y4), i < cnt → Inv i out9 → (∀ (out9' : Y4), Inv (i + 1) out9' → rc p0 low7 high8 out9' ((i + 1 : Nat) : Int) = res) → zz24_b4 rc zz24_a4 p0 low7 high8 out9 (i : Int) = res)
  (he : ∀ (rc : Y4 → Int → Int → Y4 → Int → Z1) (out9 : Y4), Inv cnt out9 → zz24_b4 rc zz24_a4 p0 low7 high8 out9 (cnt : Int) = res)
  (i0 : Nat) (hi : i0 ≤ cnt) (out9 : Y4) (h0 : Inv i0 out9) : zz24_F4 big p0 low7 high8 out9 (i0 : Int) = res := by
  have key : ∀ (m i : Nat) (out9 : Y4), i ≤ cnt → cnt < m + i → Inv i out9 → zz24_l4 big zz24_a4 m p0 low7 high8 out9 (i : Int) = res := by
    intro m
    induction m with
    | zero => intro i out9 h1 h2 h3; exact absurd h2 (by omega)
    | succ m ih =>
      intro i out9 h1 h2 h3
      rcases Nat.lt_or_ge i cnt with hlt | hge
      · exact hs _ i out9 hlt h3 (fun out9' h4 => ih (i + 1) out9' (by omega) (by omega) h4)
      · obtain rfl : i = cnt := by omega
        exact he _ out9 h3
  exact key big i0 out9 hi (by have := big_ge; omega) h0
theorem zz26_w3 {n0 : Int} (mu : Int → Y4 → Int → Nat) (Inv : Int → Y4 → Int → Prop) {res : Z1}
  (hs : ∀ (rc : Int → Int → Y4 → Int → Z1) (at2 : Int) (out7 : Y4) (i8 : Int), Inv at2 out7 i8 → (∀ (at2' : Int) (out7' : Y4) (i8' : Int), Inv at2' out7' i8' → mu at2' out7' i8' < mu at2 out7 i8 → rc n0 at2' out7' i8' = res) → zz26_b3 rc zz26_a3 n0 at2 out7 i8 = res)
  (at2 : Int) (out7 : Y4) (i8 : Int) (hm : mu at2 out7 i8 ≤ 500000000000) (h0 : Inv at2 out7 i8) : zz26_F3 big n0 at2 out7 i8 = res := by
  have key : ∀ (m : Nat) (at2 : Int) (out7 : Y4) (i8 : Int), mu at2 out7 i8 < m → Inv at2 out7 i8 → zz26_l3 big zz26_a3 m n0 at2 out7 i8 = res := by
    intro m
    induction m with
    | zero => intro at2 out7 i8 h2 h3; exact absurd h2 (by omega)
    | succ m ih =>
      intro at2 out7 i8 h2 h3
      exact hs _ at2 out7 i8 h3 (fun at2' out7' i8' h4 h5 => ih at2' out7' i8' (by omega) h4)
  exact key big at2 out7 i8 (by have := big_ge; omega) h0
theorem zz27_h3 {op1 : Int} {args2 : Y4} {a3 : Y7} (cnt : Nat) (Inv : Nat → Int → Prop) {res : Z2} (hn : cnt ≤ 500000000000)
  (hs : ∀ (rc : Int → Y4 → Y7 → Int → Int → Z2) (i : Nat) (at7 : Int), i < cnt → Inv i at7 → (∀ (at7' : Int), Inv (i + 1) at7' → rc op1 args2 a3 at7' ((i + 1 : Nat) : Int) = res) → zz27_b3 rc zz27_a3 op1 args2 a3 at7 (i : Int) = res)
  (he : ∀ (rc : Int → Y4 → Y7 → Int → Int → Z2) (at7 : Int), Inv cnt at7 → zz27_b3 rc zz27_a3 op1 args2 a3 at7 (cnt : Int) = res)
  (i0 : Nat) (hi : i0 ≤ cnt) (at7 : Int) (h0 : Inv i0 at7) : zz27_F3 big op1 args2 a3 at7 (i0 : Int) = res := by
  have key : ∀ (m i : Nat) (at7 : Int), i ≤ cnt → cnt < m + i → Inv i at7 → zz27_l3 big zz27_a3 m op1 args2 a3 at7 (i : Int) = res := by
    intro m
    induction m with
    | zero => intro i at7 h1 h2 h3; exact absurd h2 (by omega)
    | succ m ih =>
      intro i at7 h1 h2 h3
      rcases Nat.lt_or_ge i cnt with hlt | hge
      · exact hs _ i at7 hlt h3 (fun at7' h4 => ih (i + 1) at7' (by omega) (by omega) h4)
      · obtain rfl : i = cnt := by omega
        exact he _ at7 h3
  exact key big i0 at7 hi (by have := big_ge; omega) h0
theorem zz28_q3 {p1 : Y4} {a2 : Y7} (cnt : Nat) (Inv : Nat → Y4 → Prop) {Q : Z1 → Prop} (hn : cnt ≤ 500000000000)
  (hs : ∀ (rc : Y4 → Y7 → Y4 → Int → Z1) (i : Nat) (out5 : Y4), i < cnt → Inv i out5 → (∀ (out5' : Y4), Inv (i + 1) out5' → Q (rc p1 a2 out5' ((i + 1 : Nat) : Int))) → Q (zz28_b3 (zz28_F6 big rc zz28_a3) zz28_a3 p1 a2 out5 (i : Int)))
  (he : ∀ (rc : Y4 → Y7 → Y4 → Int → Z1) (out5 : Y4), Inv cnt out5 → Q (zz28_b3 (zz28_F6 big rc zz28_a3) zz28_a3 p1 a2 out5 (cnt : Int)))
  (i0 : Nat) (hi : i0 ≤ cnt) (out5 : Y4) (h0 : Inv i0 out5) : Q (zz28_F3 big p1 a2 out5 (i0 : Int)) := by
  have key : ∀ (m i : Nat) (out5 : Y4), i ≤ cnt → cnt < m + i → Inv i out5 → Q (zz28_l3 big zz28_a3 m p1 a2 out5 (i : Int)) := by
    intro m
    induction m with
    | zero => intro i out5 h1 h2 h3; exact absurd h2 (by omega)
    | succ m ih =>
      intro i out5 h1 h2 h3
      rcases Nat.lt_or_ge i cnt with hlt | hge
      · exact hs _ i out5 hlt h3 (fun out5' h4 => ih (i + 1) out5' (by omega) (by omega) h4)
      · obtain rfl : i = cnt := by omega
        exact he _ out5 h3
  exact key big i0 out5 hi (by have := big_ge; omega) h0
theorem zz28_q6 {rec : Y4 → Y7 → Y4 → Int → Z1} {k : Y4 → Z1} {p1 : Y4} {a2 : Y7} {op6 : Int} (cnt : Nat) (Inv : Nat → Y4 → Prop) {Q : Z1 → Prop} (hn : cnt ≤ 500000000000)
  (hs : ∀ (rc : Y4 → Y7 → Y4 → Int → Int → Z1) (i : Nat) (out5 : Y4), i < cnt → Inv i out5 → (∀ (out5' : Y4), Inv (i + 1) out5' → Q (rc p1 a2 out5' op6 ((i + 1 : Nat) : Int))) → Q (zz28_b6 (zz28_F10 big rc (zz28_a6 rec)) (zz28_a6 rec) p1 a2 out5 op6 (i : Int)))
  (he : ∀ (rc : Y4 → Y7 → Y4 → Int → Int → Z1) (out5 : Y4), Inv cnt out5 → Q (zz28_b6 (zz28_F10 big rc (zz28_a6 rec)) (zz28_a6 rec) p1 a2 out5 op6 (cnt : Int)))
  (i0 : Nat) (hi : i0 ≤ cnt) (out5 : Y4) (h0 : Inv i0 out5) : Q (zz28_F6 big rec k p1 a2 out5 op6 (i0 : Int)) := by
  have key : ∀ (m i : Nat) (out5 : Y4), i ≤ cnt → cnt < m + i → Inv i out5 → Q (zz28_l6 big (zz28_a6 rec) m p1 a2 out5 op6 (i : Int)) := by
    intro m
    induction m with
    | zero => intro i out5 h1 h2 h3; exact absurd h2 (by omega)
    | succ m ih =>
      intro i out5 h1 h2 h3
      rcases Nat.lt_or_ge i cnt with hlt | hge
      · exact hs _ i out5 hlt h3 (fun out5' h4 => ih (i + 1) out5' (by omega) (by omega) h4)
      · obtain rfl : i = cnt := by omega
        exact he _ out5 h3
  exact key big i0 out5 hi (by have := big_ge; omega) h0
theorem zz28_q10 {rec : Y4 → Y7 → Y4 → Int → Int → Z1} {k : Y4 → Y7 → Y4 → Int → Z1} {p1 : Y4} {a2 : Y7} {op6 : Int} {at7 : Int} {args8 : Y4} (cnt : Nat) (Inv : Nat → Y4 → Prop) {Q : Z1 → Prop} (hn : cnt ≤ 500000000000)
  (hs : ∀ (rc : Y4 → Y7 → Y4 → Int → Int → Y4 → Int → Z1) (i : Nat) (out5 : Y4), i < cnt → Inv i out5 → (∀ (out5' : Y4), Inv (i + 1) out5' → Q (rc p1 a2 out5' op6 at7 args8 ((i + 1 : Nat) : Int))) → Q (zz28_b10 rc (zz28_a10 rec) p1 a2 out5 op6 at7 args8 (i : Int)))
  (he : ∀ (rc : Y4 → Y7 → Y4 → Int → Int → Y4 → Int → Z1) (out5 : Y4), Inv cnt out5 → Q (zz28_b10 rc (zz28_a10 rec) p1 a2 out5 op6 at7 args8 (cnt : Int)))
  (i0 : Nat) (hi : i0 ≤ cnt) (out5 : Y4) (h0 : Inv i0 out5) : Q (zz28_F10 big rec k p1 a2 out5 op6 at7 args8 (i0 : Int)) := by
  have key : ∀ (m i : Nat) (out5 : Y4), i ≤ cnt → cnt < m + i → Inv i out5 → Q (zz28_l10 big (zz28_a10 rec) m p1 a2 out5 op6 at7 args8 (i : Int)) := by
    intro m
    induction m with
    | zero => intro i out5 h1 h2 h3; exact absurd h2 (by omega)
    | succ m ih =>
      intro i out5 h1 h2 h3
      rcases Nat.lt_or_ge i cnt with hlt | hge
      · exact hs _ i out5 hlt h3 (fun out5' h4 => ih (i + 1) out5' (by omega) (by omega) h4)
      · obtain rfl : i = cnt := by omega
        exact he _ out5 h3
  exact key big i0 out5 hi (by have := big_ge; omega) h0
theorem zz29_q2 {a2 : Y7} (cnt : Nat) (Inv : Nat → Y4 → Prop) {Q : Z1 → Prop} (hn : cnt ≤ 500000000000)
  (hs : ∀ (rc : Y4 → Y7 → Int → Z1) (i : Nat) (p1 : Y4), i < cnt → Inv i p1 → (∀ (p1' : Y4), Inv (i + 1) p1' → Q (rc p1' a2 ((i + 1 : Nat) : Int))) → Q (zz29_b2 rc zz29_a2 p1 a2 (i : Int)))
  (he : ∀ (rc : Y4 → Y7 → Int → Z1) (p1 : Y4), Inv cnt p1 → Q (zz29_b2 rc zz29_a2 p1 a2 (cnt : Int)))
  (i0 : Nat) (hi : i0 ≤ cnt) (p1 : Y4) (h0 : Inv i0 p1) : Q (zz29_F2 big p1 a2 (i0 : Int)) := by
  have key : ∀ (m i : Nat) (p1 : Y4), i ≤ cnt → cnt < m + i → Inv i p1 → Q (zz29_l2 big zz29_a2 m p1 a2 (i : Int)) := by
    intro m
    induction m with
    | zero => intro i p1 h1 h2 h3; exact absurd h2 (by omega)
    | succ m ih =>
      intro i p1 h1 h2 h3
      rcases Nat.lt_or_ge i cnt with hlt | hge
      · exact hs _ i p1 hlt h3 (fun p1' h4 => ih (i + 1) p1' (by omega) (by omega) h4)
      · obtain rfl : i = cnt := by omega
        exact he _ p1 h3
  exact key big i0 p1 hi (by have := big_ge; omega) h0
theorem zz31_h4 {c1 : Y4} {p2 : Y2} {all6 : Y4} (cnt : Nat) (Inv : Nat → Y4 → Prop) {res : Z1} (hn : cnt ≤ 500000000000)
  (hs : ∀ (rc : Y4 → Y2 → Y4 → Y4 → Int → Z1) (i : Nat) (out5 : Y4), i < cnt → Inv i out5 → (∀ (out5' : Y4), Inv (i + 1) out5' → rc c1 p2 out5' all6 ((i + 1 : Nat) : Int) = res) → zz31_b4 rc zz31_a4 c1 p2 out5 all6 (i : Int) = res)
  (he : ∀ (rc : Y4 → Y2 → Y4 → Y4 → Int → Z1) (out5 : Y4), Inv cnt out5 → zz31_b4 rc zz31_a4 c1 p2 out5 all6 (cnt : Int) = res)
  (i0 : Nat) (hi : i0 ≤ cnt) (out5 : Y4) (h0 : Inv i0 out5) : zz31_F4 big c1 p2 out5 all6 (i0 : Int) = res := by
  have key : ∀ (m i : Nat) (out5 : Y4), i ≤ cnt → cnt < m + i → Inv i out5 → zz31_l4 big zz31_a4 m c1 p2 out5 all6 (i : Int) = res := by
    intro m
    induction m with
    | zero => intro i out5 h1 h2 h3; exact absurd h2 (by omega)
    | succ m ih =>
      intro i out5 h1 h2 h3
      rcases Nat.lt_or_ge i cnt with hlt | hge
      · exact hs _ i out5 hlt h3 (fun out5' h4 => ih (i + 1) out5' (by omega) (by omega) h4)
      · obtain rfl : i = cnt := by omega
        exact he _ out5 h3
  exact key big i0 out5 hi (by have := big_ge; omega) h0
theorem zz33_h2 {a0 : Y4} {b1 : Y4} (cnt : Nat) (Inv : Nat → Prop) {res : Z0} (hn : cnt ≤ 500000000000)
  (hs : ∀ (rc : Y4 → Y4 → Int → Z0) (i : Nat), i < cnt → Inv i → (Inv (i + 1) → rc a0 b1 ((i + 1 : Nat) : Int) = res) → zz33_b2 rc zz33_a2 a0 b1 (i : Int) = res)
  (he : ∀ (rc : Y4 → Y4 → Int → Z0), Inv cnt → zz33_b2 rc zz33_a2 a0 b1 (cnt : Int) = res)
  (i0 : Nat) (hi : i0 ≤ cnt) (h0 : Inv i0) : zz33_F2 big a0 b1 (i0 : Int) = res := by
  have key : ∀ (m i : Nat), i ≤ cnt → cnt < m + i → Inv i → zz33_l2 big zz33_a2 m a0 b1 (i : Int) = res := by
    intro m
    induction m with
    | zero => intro i h1 h2 h3; exact absurd h2 (by omega)
    | succ m ih =>
      intro i h1 h2 h3
      rcases Nat.lt_or_ge i cnt with hlt | hge
      · exact hs _ i hlt h3 (fun h4 => ih (i + 1) (by omega) (by omega) h4)
      · obtain rfl : i = cnt := by omega
        exact he _ h3
  exact key big i0 hi (by have := big_ge; omega) h0
theorem zz34_v2 {lists0 : Y3} {l1 : Y4} (mu : Int → Nat) (Inv : Int → Prop) {Q : Option Y2 → Prop}
  (hs : ∀ (rc : Y3 → Y4 → Int → Option Y2) (k5 : Int), Inv k5 → (∀ (k5' : Int), Inv k5' → mu k5' < mu k5 → Q (rc lists0 l1 k5')) → Q (zz34_b2 rc zz34_a2 lists0 l1 k5))
  (k5 : Int) (hm : mu k5 ≤ 500000000000) (h0 : Inv k5) : Q (zz34_F2 big lists0 l1 k5) := by
  have key : ∀ (m : Nat) (k5 : Int), mu k5 < m → Inv k5 → Q (zz34_l2 big zz34_a2 m lists0 l1 k5) := by
    intro m
    induction m with
    | zero => intro k5 h2 h3; exact absurd h2 (by omega)
    | succ m ih =>
      intro k5 h2 h3
      exact hs _ k5 h3 (fun k5' h4 h5 => ih k5' (by omega) h4)
  exact key big k5 (by have := big_ge; omega) h0
theorem zz35_h4 {p1 : Y2} {all3 : Y4} (cnt : Nat) (Inv : Nat → Y3 → Prop) {res : Option Y2} (hn : cnt ≤ 500000000000)
  (hs : ∀ (rc : Y2 → Y4 → Y3 → Int → Option Y2) (i : Nat) (forced4 : Y3), i < cnt → Inv i forced4 → (∀ (forced4' : Y3), Inv (i + 1) forced4' → rc p1 all3 forced4' ((i + 1 : Nat) : Int) = res) → zz35_b4 rc (zz35_a4 (zz35_F9 big)) p1 all3 forced4 (i : Int) = res)
  (he : ∀ (rc : Y2 → Y4 → Y3 → Int → Option Y2) (forced4 : Y3), Inv cnt forced4 → zz35_b4 rc (zz35_a4 (zz35_F9 big)) p1 all3 forced4 (cnt : Int) = res)
  (i0 : Nat) (hi : i0 ≤ cnt) (forced4 : Y3) (h0 : Inv i0 forced4) : zz35_F4 big p1 all3 forced4 (i0 : Int) = res := by
  have key : ∀ (m i : Nat) (forced4 : Y3), i ≤ cnt → cnt < m + i → Inv i forced4 → zz35_l4 big (zz35_a4 (zz35_F9 big)) m p1 all3 forced4 (i : Int) = res := by
    intro m
    induction m with
    | zero => intro i forced4 h1 h2 h3; exact absurd h2 (by omega)
    | succ m ih =>
      intro i forced4 h1 h2 h3
      rcases Nat.lt_or_ge i cnt with hlt | hge
      · exact hs _ i forced4 hlt h3 (fun forced4' h4 => ih (i + 1) forced4' (by omega) (by omega) h4)
      · obtain rfl : i = cnt := by omega
        exact he _ forced4 h3
  exact key big i0 forced4 hi (by have := big_ge; omega) h0
theorem zz35_h9 {all3 : Y4} {forced4 : Y3} (cnt : Nat) (Inv : Nat → Y3 → Prop) {res : Option Y2} (hn : cnt ≤ 500000000000)
  (hs : ∀ (rc : Y4 → Y3 → Y3 → Int → Option Y2) (i : Nat) (out6 : Y3), i < cnt → Inv i out6 → (∀ (out6' : Y3), Inv (i + 1) out6' → rc all3 forced4 out6' ((i + 1 : Nat) : Int) = res) → zz35_b9 (zz35_F13 big rc zz35_a9) zz35_a9 all3 forced4 out6 (i : Int) = res)
  (he : ∀ (rc : Y4 → Y3 → Y3 → Int → Option Y2) (out6 : Y3), Inv cnt out6 → zz35_b9 (zz35_F13 big rc zz35_a9) zz35_a9 all3 forced4 out6 (cnt : Int) = res)
  (i0 : Nat) (hi : i0 ≤ cnt) (out6 : Y3) (h0 : Inv i0 out6) : zz35_F9 big all3 forced4 out6 (i0 : Int) = res := by
  have key : ∀ (m i : Nat) (out6 : Y3), i ≤ cnt → cnt < m + i → Inv i out6 → zz35_l9 big zz35_a9 m all3 forced4 out6 (i : Int) = res := by
    intro m
    induction m with
    | zero => intro i out6 h1 h2 h3; exact absurd h2 (by omega)
    | succ m ih =>
      intro i out6 h1 h2 h3
      rcases Nat.lt_or_ge i cnt with hlt | hge
      · exact hs _ i out6 hlt h3 (fun out6' h4 => ih (i + 1) out6' (by omega) (by omega) h4)
      · obtain rfl : i = cnt := by omega
        exact he _ out6 h3
  exact key big i0 out6 hi (by have := big_ge; omega) h0
theorem zz35_h13 {rec : Y4 → Y3 → Y3 → Int → Option Y2} {k : Y3 → Option Y2} {all3 : Y4} {forced4 : Y3} {out6 : Y3} {bits7 : Int} {good9 : Bool} (cnt : Nat) (Inv : Nat → Y4 → Prop) {res : Option Y2} (hn : cnt ≤ 500000000000)
  (hs : ∀ (rc : Y4 → Y3 → Y3 → Int → Y4 → Bool → Int → Option Y2) (i : Nat) (set8 : Y4), i < cnt → Inv i set8 → (∀ (set8' : Y4), Inv (i + 1) set8' → rc all3 forced4 out6 bits7 set8' good9 ((i + 1 : Nat) : Int) = res) → zz35_b13 rc (zz35_a13 (zz35_F18 big rec k)) all3 forced4 out6 bits7 set8 good9 (i : Int) = res)
  (he : ∀ (rc : Y4 → Y3 → Y3 → Int → Y4 → Bool → Int → Option Y2) (set8 : Y4), Inv cnt set8 → zz35_b13 rc (zz35_a13 (zz35_F18 big rec k)) all3 forced4 out6 bits7 set8 good9 (cnt : Int) = res)
  (i0 : Nat) (hi : i0 ≤ cnt) (set8 : Y4) (h0 : Inv i0 set8) : zz35_F13 big rec k all3 forced4 out6 bits7 set8 good9 (i0 : Int) = res := by
  have key : ∀ (m i : Nat) (set8 : Y4), i ≤ cnt → cnt < m + i → Inv i set8 → zz35_l13 big (zz35_a13 (zz35_F18 big rec k)) m all3 forced4 out6 bits7 set8 good9 (i : Int) = res := by
    intro m
    induction m with
    | zero => intro i set8 h1 h2 h3; exact absurd h2 (by omega)
    | succ m ih =>
      intro i set8 h1 h2 h3
      rcases Nat.lt_or_ge i cnt with hlt | hge
      · exact hs _ i set8 hlt h3 (fun set8' h4 => ih (i + 1) set8' (by omega) (by omega) h4)
      · obtain rfl : i = cnt := by omega
        exact he _ set8 h3
  exact key big i0 set8 hi (by have := big_ge; omega) h0
theorem zz35_h18 {rec : Y4 → Y3 → Y3 → Int → Option Y2} {k : Y3 → Option Y2} {all3 : Y4} {forced4 : Y3} {out6 : Y3} {bits7 : Int} {set8 : Y4} (cnt : Nat) (Inv : Nat → Bool → Prop) {res : Option Y2} (hn : cnt ≤ 500000000000)
  (hs : ∀ (rc : Y4 → Y3 → Y3 → Int → Y4 → Bool → Int → Option Y2) (i : Nat) (good9 : Bool), i < cnt → Inv i good9 → (∀ (good9' : Bool), Inv (i + 1) good9' → rc all3 forced4 out6 bits7 set8 good9' ((i + 1 : Nat) : Int) = res) → zz35_b18 rc (zz35_a18 rec) all3 forced4 out6 bits7 set8 good9 (i : Int) = res)
  (he : ∀ (rc : Y4 → Y3 → Y3 → Int → Y4 → Bool → Int → Option Y2) (good9 : Bool), Inv cnt good9 → zz35_b18 rc (zz35_a18 rec) all3 forced4 out6 bits7 set8 good9 (cnt : Int) = res)
  (i0 : Nat) (hi : i0 ≤ cnt) (good9 : Bool) (h0 : Inv i0 good9) : zz35_F18 big rec k all3 forced4 out6 bits7 set8 good9 (i0 : Int) = res := by
  have key : ∀ (m i : Nat) (good9 : Bool), i ≤ cnt → cnt < m + i → Inv i good9 → zz35_l18 big (zz35_a18 rec) m all3 forced4 out6 bits7 set8 good9 (i : Int) = res := by
    intro m
    induction m with
    | zero => intro i good9 h1 h2 h3; exact absurd h2 (by omega)
    | succ m ih =>
      intro i good9 h1 h2 h3
      rcases Nat.lt_or_ge i cnt with hlt | hge
      · exact hs _ i good9 hlt h3 (fun good9' h4 => ih (i + 1) good9' (by omega) (by omega) h4)
      · obtain rfl : i = cnt := by omega
        exact he _ good9 h3
  exact key big i0 good9 hi (by have := big_ge; omega) h0
theorem zz37_h3 {n0 : Int} {t8 : Int} (cnt : Nat) (Inv : Nat → Y5 → Prop) {res : Z6} (hn : cnt ≤ 500000000000)
  (hs : ∀ (rc : Int → Y5 → Int → Int → Z6) (i : Nat) (o3 : Y5), i < cnt → Inv i o3 → (∀ (o3' : Y5), Inv (i + 1) o3' → rc n0 o3' t8 ((i + 1 : Nat) : Int) = res) → zz37_b3 rc zz37_a3 n0 o3 t8 (i : Int) = res)
  (he : ∀ (rc : Int → Y5 → Int → Int → Z6) (o3 : Y5), Inv cnt o3 → zz37_b3 rc zz37_a3 n0 o3 t8 (cnt : Int) = res)
  (i0 : Nat) (hi : i0 ≤ cnt) (o3 : Y5) (h0 : Inv i0 o3) : zz37_F3 big n0 o3 t8 (i0 : Int) = res := by
  have key : ∀ (m i : Nat) (o3 : Y5), i ≤ cnt → cnt < m + i → Inv i o3 → zz37_l3 big zz37_a3 m n0 o3 t8 (i : Int) = res := by
    intro m
    induction m with
    | zero => intro i o3 h1 h2 h3; exact absurd h2 (by omega)
    | succ m ih =>
      intro i o3 h1 h2 h3
      rcases Nat.lt_or_ge i cnt with hlt | hge
      · exact hs _ i o3 hlt h3 (fun o3' h4 => ih (i + 1) o3' (by omega) (by omega) h4)
      · obtain rfl : i = cnt := by omega
        exact he _ o3 h3
  exact key big i0 o3 hi (by have := big_ge; omega) h0
theorem zz40_h2 {o0 : Y5} {t7 : Int} (cnt : Nat) (Inv : Nat → Prop) {res : Z0} (hn : cnt ≤ 500000000000)
  (hs : ∀ (rc : Y5 → Int → Int → Z0) (i : Nat), i < cnt → Inv i → (Inv (i + 1) → rc o0 t7 ((i + 1 : Nat) : Int) = res) → zz40_b2 (zz40_F7 big rc zz40_a2) zz40_a2 o0 t7 (i : Int) = res)
  (he : ∀ (rc : Y5 → Int → Int → Z0), Inv cnt → zz40_b2 (zz40_F7 big rc zz40_a2) zz40_a2 o0 t7 (cnt : Int) = res)
  (i0 : Nat) (hi : i0 ≤ cnt) (h0 : Inv i0) : zz40_F2 big o0 t7 (i0 : Int) = res := by
  have key : ∀ (m i : Nat), i ≤ cnt → cnt < m + i → Inv i → zz40_l2 big zz40_a2 m o0 t7 (i : Int) = res := by
    intro m
    induction m with
    | zero => intro i h1 h2 h3; exact absurd h2 (by omega)
    | succ m ih =>
      intro i h1 h2 h3
      rcases Nat.lt_or_ge i cnt with hlt | hge
      · exact hs _ i hlt h3 (fun h4 => ih (i + 1) (by omega) (by omega) h4)
      · obtain rfl : i = cnt := by omega
        exact he _ h3
  exact key big i0 hi (by have := big_ge; omega) h0
theorem zz40_h7 {rec : Y5 → Int → Int → Z0} {k : Z0} {o0 : Y5} {x3 : Int} {t7 : Int} {t8 : Int} {t20 : Int} (cnt : Nat) (Inv : Nat → Prop) {res : Z0} (hn : cnt ≤ 500000000000)
  (hs : ∀ (rc : Y5 → Int → Int → Int → Int → Int → Z0) (i : Nat), i < cnt → Inv i → (Inv (i + 1) → rc o0 x3 t7 t8 t20 ((i + 1 : Nat) : Int) = res) → zz40_b7 (zz40_F12 big rc (zz40_a7 rec)) (zz40_a7 rec) o0 x3 t7 t8 t20 (i : Int) = res)
  (he : ∀ (rc : Y5 → Int → Int → Int → Int → Int → Z0), Inv cnt → zz40_b7 (zz40_F12 big rc (zz40_a7 rec)) (zz40_a7 rec) o0 x3 t7 t8 t20 (cnt : Int) = res)
  (i0 : Nat) (hi : i0 ≤ cnt) (h0 : Inv i0) : zz40_F7 big rec k o0 x3 t7 t8 t20 (i0 : Int) = res := by
  have key : ∀ (m i : Nat), i ≤ cnt → cnt < m + i → Inv i → zz40_l7 big (zz40_a7 rec) m o0 x3 t7 t8 t20 (i : Int) = res := by
    intro m
    induction m with
    | zero => intro i h1 h2 h3; exact absurd h2 (by omega)
    | succ m ih =>
      intro i h1 h2 h3
      rcases Nat.lt_or_ge i cnt with hlt | hge
      · exact hs _ i hlt h3 (fun h4 => ih (i + 1) (by omega) (by omega) h4)
      · obtain rfl : i = cnt := by omega
        exact he _ h3
  exact key big i0 hi (by have := big_ge; omega) h0
theorem zz40_h12 {rec : Y5 → Int → Int → Int → Int → Int → Z0} {k : Y5 → Int → Int → Z0} {o0 : Y5} {x3 : Int} {y4 : Int} {t7 : Int} {t8 : Int} {t20 : Int} {t21 : Int} {t46 : Int} (cnt : Nat) (Inv : Nat → Prop) {res : Z0} (hn : cnt ≤ 500000000000)
  (hs : ∀ (rc : Y5 → Int → Int → Int → Int → Int → Int → Int → Int → Z0) (i : Nat), i < cnt → Inv i → (Inv (i + 1) → rc o0 x3 y4 t7 t8 t20 t21 t46 ((i + 1 : Nat) : Int) = res) → zz40_b12 rc (zz40_a12 rec) o0 x3 y4 t7 t8 t20 t21 t46 (i : Int) = res)
  (he : ∀ (rc : Y5 → Int → Int → Int → Int → Int → Int → Int → Int → Z0), Inv cnt → zz40_b12 rc (zz40_a12 rec) o0 x3 y4 t7 t8 t20 t21 t46 (cnt : Int) = res)
  (i0 : Nat) (hi : i0 ≤ cnt) (h0 : Inv i0) : zz40_F12 big rec k o0 x3 y4 t7 t8 t20 t21 t46 (i0 : Int) = res := by
  have key : ∀ (m i : Nat), i ≤ cnt → cnt < m + i → Inv i → zz40_l12 big (zz40_a12 rec) m o0 x3 y4 t7 t8 t20 t21 t46 (i : Int) = res := by
    intro m
    induction m with
    | zero => intro i h1 h2 h3; exact absurd h2 (by omega)
    | succ m ih =>
      intro i h1 h2 h3
      rcases Nat.lt_or_ge i cnt with hlt | hge
      · exact hs _ i hlt h3 (fun h4 => ih (i + 1) (by omega) (by omega) h4)
      · obtain rfl : i = cnt := by omega
        exact he _ h3
  exact key big i0 hi (by have := big_ge; omega) h0
theorem zz41_h6 {n4 : Int} {t18 : Y3} {t19 : Int} (cnt : Nat) (Inv : Nat → Y5 → Prop) {res : Z5} (hn : cnt ≤ 500000000000)
  (hs : ∀ (rc : Int → Y5 → Y3 → Int → Int → Z5) (i : Nat) (o5 : Y5), i < cnt → Inv i o5 → (∀ (o5' : Y5), Inv (i + 1) o5' → rc n4 o5' t18 t19 ((i + 1 : Nat) : Int) = res) → zz41_b6 (zz41_F11 big rc zz41_a6) zz41_a6 n4 o5 t18 t19 (i : Int) = res)
  (he : ∀ (rc : Int → Y5 → Y3 → Int → Int → Z5) (o5 : Y5), Inv cnt o5 → zz41_b6 (zz41_F11 big rc zz41_a6) zz41_a6 n4 o5 t18 t19 (cnt : Int) = res)
  (i0 : Nat) (hi : i0 ≤ cnt) (o5 : Y5) (h0 : Inv i0 o5) : zz41_F6 big n4 o5 t18 t19 (i0 : Int) = res := by
  have key : ∀ (m i : Nat) (o5 : Y5), i ≤ cnt → cnt < m + i → Inv i o5 → zz41_l6 big zz41_a6 m n4 o5 t18 t19 (i : Int) = res := by
    intro m
    induction m with
    | zero => intro i o5 h1 h2 h3; exact absurd h2 (by omega)
    | succ m ih =>
      intro i o5 h1 h2 h3
      rcases Nat.lt_or_ge i cnt with hlt | hge
      · exact hs _ i o5 hlt h3 (fun o5' h4 => ih (i + 1) o5' (by omega) (by omega) h4)
      · obtain rfl : i = cnt := by omega
        exact he _ o5 h3
  exact key big i0 o5 hi (by have := big_ge; omega) h0
theorem zz41_h11 {rec : Int → Y5 → Y3 → Int → Int → Z5} {k : Y5 → Z5} {n4 : Int} {x6 : Int} {t18 : Y3} {t19 : Int} {t20 : Int} {t29 : Y4} {t30 : Int} {t31 : Bool} {t32 : Bool} {t34 : Y4} {t35 : Int} (cnt : Nat) (Inv : Nat → Y5 → Prop) {res : Z5} (hn : cnt ≤ 500000000000)
  (hs : ∀ (rc : Int → Y5 → Int → Y3 → Int → Int → Y4 → Int → Bool → Bool → Y4 → Int → Int → Z5) (i : Nat) (o5 : Y5), i < cnt → Inv i o5 → (∀ (o5' : Y5), Inv (i + 1) o5' → rc n4 o5' x6 t18 t19 t20 t29 t30 t31 t32 t34 t35 ((i + 1 : Nat) : Int) = res) → zz41_b11 rc (zz41_a11 rec) n4 o5 x6 t18 t19 t20 t29 t30 t31 t32 t34 t35 (i : Int) = res)
  (he : ∀ (rc : Int → Y5 → Int → Y3 → Int → Int → Y4 → Int → Bool → Bool → Y4 → Int → Int → Z5) (o5 : Y5), Inv cnt o5 → zz41_b11 rc (zz41_a11 rec) n4 o5 x6 t18 t19 t20 t29 t30 t31 t32 t34 t35 (cnt : Int) = res)
  (i0 : Nat) (hi : i0 ≤ cnt) (o5 : Y5) (h0 : Inv i0 o5) : zz41_F11 big rec k n4 o5 x6 t18 t19 t20 t29 t30 t31 t32 t34 t35 (i0 : Int) = res := by
  have key : ∀ (m i : Nat) (o5 : Y5), i ≤ cnt → cnt < m + i → Inv i o5 → zz41_l11 big (zz41_a11 rec) m n4 o5 x6 t18 t19 t20 t29 t30 t31 t32 t34 t35 (i : Int) = res := by
    intro m
    induction m with
    | zero => intro i o5 h1 h2 h3; exact absurd h2 (by omega)
    | succ m ih =>
      intro i o5 h1 h2 h3
      rcases Nat.lt_or_ge i cnt with hlt | hge
      · exact hs _ i o5 hlt h3 (fun o5' h4 => ih (i + 1) o5' (by omega) (by omega) h4)
      · obtain rfl : i = cnt := by omega
        exact he _ o5 h3
  exact key big i0 o5 hi (by have := big_ge; omega) h0
theorem zz42_h2 {o0 : Y5} {list1 : Y4} {t10 : Y4} {t11 : Int} (cnt : Nat) (Inv : Nat → Prop) {res : Z2} (hn : cnt ≤ 500000000000)
  (hs : ∀ (rc : Y5 → Y4 → Y4 → Int → Int → Z2) (i : Nat), i < cnt → Inv i → (Inv (i + 1) → rc o0 list1 t10 t11 ((i + 1 : Nat) : Int) = res) → zz42_b2 (zz42_F6 big rc zz42_a2) zz42_a2 o0 list1 t10 t11 (i : Int) = res)
  (he : ∀ (rc : Y5 → Y4 → Y4 → Int → Int → Z2), Inv cnt → zz42_b2 (zz42_F6 big rc zz42_a2) zz42_a2 o0 list1 t10 t11 (cnt : Int) = res)
  (i0 : Nat) (hi : i0 ≤ cnt) (h0 : Inv i0) : zz42_F2 big o0 list1 t10 t11 (i0 : Int) = res := by
  have key : ∀ (m i : Nat), i ≤ cnt → cnt < m + i → Inv i → zz42_l2 big zz42_a2 m o0 list1 t10 t11 (i : Int) = res := by
    intro m
    induction m with
    | zero => intro i h1 h2 h3; exact absurd h2 (by omega)
    | succ m ih =>
      intro i h1 h2 h3
      rcases Nat.lt_or_ge i cnt with hlt | hge
      · exact hs _ i hlt h3 (fun h4 => ih (i + 1) (by omega) (by omega) h4)
      · obtain rfl : i = cnt := by omega
        exact he _ h3
  exact key big i0 hi (by have := big_ge; omega) h0
theorem zz42_h6 {rec : Y5 → Y4 → Y4 → Int → Int → Z2} {k : Z2} {o0 : Y5} {list1 : Y4} {x6 : Int} {t10 : Y4} {t11 : Int} {t12 : Int} {t16 : Y4} {t17 : Int} (cnt : Nat) (Inv : Nat → Bool → Prop) {res : Z2} (hn : cnt ≤ 500000000000)
  (hs : ∀ (rc : Y5 → Y4 → Int → Bool → Y4 → Int → Int → Y4 → Int → Int → Z2) (i : Nat) (top7 : Bool), i < cnt → Inv i top7 → (∀ (top7' : Bool), Inv (i + 1) top7' → rc o0 list1 x6 top7' t10 t11 t12 t16 t17 ((i + 1 : Nat) : Int) = res) → zz42_b6 rc (zz42_a6 rec) o0 list1 x6 top7 t10 t11 t12 t16 t17 (i : Int) = res)
  (he : ∀ (rc : Y5 → Y4 → Int → Bool → Y4 → Int → Int → Y4 → Int → Int → Z2) (top7 : Bool), Inv cnt top7 → zz42_b6 rc (zz42_a6 rec) o0 list1 x6 top7 t10 t11 t12 t16 t17 (cnt : Int) = res)
  (i0 : Nat) (hi : i0 ≤ cnt) (top7 : Bool) (h0 : Inv i0 top7) : zz42_F6 big rec k o0 list1 x6 top7 t10 t11 t12 t16 t17 (i0 : Int) = res := by
  have key : ∀ (m i : Nat) (top7 : Bool), i ≤ cnt → cnt < m + i → Inv i top7 → zz42_l6 big (zz42_a6 rec) m o0 list1 x6 top7 t10 t11 t12 t16 t17 (i : Int) = res := by
    intro m
    induction m with
    | zero => intro i top7 h1 h2 h3; exact absurd h2 (by omega)
    | succ m ih =>
      intro i top7 h1 h2 h3
      rcases Nat.lt_or_ge i cnt with hlt | hge
      · exact hs _ i top7 hlt h3 (fun top7' h4 => ih (i + 1) top7' (by omega) (by omega) h4)
      · obtain rfl : i = cnt := by omega
        exact he _ top7 h3
  exact key big i0 top7 hi (by have := big_ge; omega) h0
theorem zz44_h3 {so1 : (Y5 × Z9)} {t9 : Int} (cnt : Nat) (Inv : Nat → Y4 → Prop) {res : Z1} (hn : cnt ≤ 500000000000)
  (hs : ∀ (rc : (Y5 × Z9) → Y4 → Int → Int → Z1) (i : Nat) (list5 : Y4), i < cnt → Inv i list5 → (∀ (list5' : Y4), Inv (i + 1) list5' → rc so1 list5' t9 ((i + 1 : Nat) : Int) = res) → zz44_b3 rc zz44_a3 so1 list5 t9 (i : Int) = res)
  (he : ∀ (rc : (Y5 × Z9) → Y4 → Int → Int → Z1) (list5 : Y4), Inv cnt list5 → zz44_b3 rc zz44_a3 so1 list5 t9 (cnt : Int) = res)
  (i0 : Nat) (hi : i0 ≤ cnt) (list5 : Y4) (h0 : Inv i0 list5) : zz44_F3 big so1 list5 t9 (i0 : Int) = res := by
  have key : ∀ (m i : Nat) (list5 : Y4), i ≤ cnt → cnt < m + i → Inv i list5 → zz44_l3 big zz44_a3 m so1 list5 t9 (i : Int) = res := by
    intro m
    induction m with
    | zero => intro i list5 h1 h2 h3; exact absurd h2 (by omega)
    | succ m ih =>
      intro i list5 h1 h2 h3
      rcases Nat.lt_or_ge i cnt with hlt | hge
      · exact hs _ i list5 hlt h3 (fun list5' h4 => ih (i + 1) list5' (by omega) (by omega) h4)
      · obtain rfl : i = cnt := by omega
        exact he _ list5 h3
  exact key big i0 list5 hi (by have := big_ge; omega) h0
theorem zz45_h3 {o1 : Y5} {t11 : Int} (cnt : Nat) (Inv : Nat → Y3 → Prop) {res : Z4} (hn : cnt ≤ 500000000000)
  (hs : ∀ (rc : Y5 → Y3 → Int → Int → Z4) (i : Nat) (table4 : Y3), i < cnt → Inv i table4 → (∀ (table4' : Y3), Inv (i + 1) table4' → rc o1 table4' t11 ((i + 1 : Nat) : Int) = res) → zz45_b3 (zz45_F7 big rc zz45_a3) zz45_a3 o1 table4 t11 (i : Int) = res)
  (he : ∀ (rc : Y5 → Y3 → Int → Int → Z4) (table4 : Y3), Inv cnt table4 → zz45_b3 (zz45_F7 big rc zz45_a3) zz45_a3 o1 table4 t11 (cnt : Int) = res)
  (i0 : Nat) (hi : i0 ≤ cnt) (table4 : Y3) (h0 : Inv i0 table4) : zz45_F3 big o1 table4 t11 (i0 : Int) = res := by
  have key : ∀ (m i : Nat) (table4 : Y3), i ≤ cnt → cnt < m + i → Inv i table4 → zz45_l3 big zz45_a3 m o1 table4 t11 (i : Int) = res := by
    intro m
    induction m with
    | zero => intro i table4 h1 h2 h3; exact absurd h2 (by omega)
    | succ m ih =>
      intro i table4 h1 h2 h3
      rcases Nat.lt_or_ge i cnt with hlt | hge
      · exact hs _ i table4 hlt h3 (fun table4' h4 => ih (i + 1) table4' (by omega) (by omega) h4)
      · obtain rfl : i = cnt := by omega
        exact he _ table4 h3
  exact key big i0 table4 hi (by have := big_ge; omega) h0
theorem zz45_h7 {rec : Y5 → Y3 → Int → Int → Z4} {k : Y3 → Z4} {o1 : Y5} {table4 : Y3} {x5 : Int} {t11 : Int} {t12 : Int} {t17 : Int} (cnt : Nat) (Inv : Nat → Y4 → Prop) {res : Z4} (hn : cnt ≤ 500000000000)
  (hs : ∀ (rc : Y5 → Y3 → Int → Y4 → Int → Int → Int → Int → Z4) (i : Nat) (row6 : Y4), i < cnt → Inv i row6 → (∀ (row6' : Y4), Inv (i + 1) row6' → rc o1 table4 x5 row6' t11 t12 t17 ((i + 1 : Nat) : Int) = res) → zz45_b7 rc (zz45_a7 rec) o1 table4 x5 row6 t11 t12 t17 (i : Int) = res)
  (he : ∀ (rc : Y5 → Y3 → Int → Y4 → Int → Int → Int → Int → Z4) (row6 : Y4), Inv cnt row6 → zz45_b7 rc (zz45_a7 rec) o1 table4 x5 row6 t11 t12 t17 (cnt : Int) = res)
  (i0 : Nat) (hi : i0 ≤ cnt) (row6 : Y4) (h0 : Inv i0 row6) : zz45_F7 big rec k o1 table4 x5 row6 t11 t12 t17 (i0 : Int) = res := by
  have key : ∀ (m i : Nat) (row6 : Y4), i ≤ cnt → cnt < m + i → Inv i row6 → zz45_l7 big (zz45_a7 rec) m o1 table4 x5 row6 t11 t12 t17 (i : Int) = res := by
    intro m
    induction m with
    | zero => intro i row6 h1 h2 h3; exact absurd h2 (by omega)
    | succ m ih =>
      intro i row6 h1 h2 h3
      rcases Nat.lt_or_ge i cnt with hlt | hge
      · exact hs _ i row6 hlt h3 (fun row6' h4 => ih (i + 1) row6' (by omega) (by omega) h4)
      · obtain rfl : i = cnt := by omega
        exact he _ row6 h3
  exact key big i0 row6 hi (by have := big_ge; omega) h0
theorem zz46_h3 {o0 : Y5} {t10 : Int} (cnt : Nat) (Inv : Nat → Y5 → Prop) {res : Z6} (hn : cnt ≤ 500000000000)
  (hs : ∀ (rc : Y5 → Y5 → Int → Int → Z6) (i : Nat) (d3 : Y5), i < cnt → Inv i d3 → (∀ (d3' : Y5), Inv (i + 1) d3' → rc o0 d3' t10 ((i + 1 : Nat) : Int) = res) → zz46_b3 (zz46_F6 big rc zz46_a3) zz46_a3 o0 d3 t10 (i : Int) = res)
  (he : ∀ (rc : Y5 → Y5 → Int → Int → Z6) (d3 : Y5), Inv cnt d3 → zz46_b3 (zz46_F6 big rc zz46_a3) zz46_a3 o0 d3 t10 (cnt : Int) = res)
  (i0 : Nat) (hi : i0 ≤ cnt) (d3 : Y5) (h0 : Inv i0 d3) : zz46_F3 big o0 d3 t10 (i0 : Int) = res := by
  have key : ∀ (m i : Nat) (d3 : Y5), i ≤ cnt → cnt < m + i → Inv i d3 → zz46_l3 big zz46_a3 m o0 d3 t10 (i : Int) = res := by
    intro m
    induction m with
    | zero => intro i d3 h1 h2 h3; exact absurd h2 (by omega)
    | succ m ih =>
      intro i d3 h1 h2 h3
      rcases Nat.lt_or_ge i cnt with hlt | hge
      · exact hs _ i d3 hlt h3 (fun d3' h4 => ih (i + 1) d3' (by omega) (by omega) h4)
      · obtain rfl : i = cnt := by omega
        exact he _ d3 h3
  exact key big i0 d3 hi (by have := big_ge; omega) h0
theorem zz46_h6 {rec : Y5 → Y5 → Int → Int → Z6} {k : Y5 → Z6} {o0 : Y5} {x4 : Int} {t10 : Int} {t11 : Int} {t15 : Int} (cnt : Nat) (Inv : Nat → Y5 → Prop) {res : Z6} (hn : cnt ≤ 500000000000)
  (hs : ∀ (rc : Y5 → Y5 → Int → Int → Int → Int → Int → Z6) (i : Nat) (d3 : Y5), i < cnt → Inv i d3 → (∀ (d3' : Y5), Inv (i + 1) d3' → rc o0 d3' x4 t10 t11 t15 ((i + 1 : Nat) : Int) = res) → zz46_b6 rc (zz46_a6 rec) o0 d3 x4 t10 t11 t15 (i : Int) = res)
  (he : ∀ (rc : Y5 → Y5 → Int → Int → Int → Int → Int → Z6) (d3 : Y5), Inv cnt d3 → zz46_b6 rc (zz46_a6 rec) o0 d3 x4 t10 t11 t15 (cnt : Int) = res)
  (i0 : Nat) (hi : i0 ≤ cnt) (d3 : Y5) (h0 : Inv i0 d3) : zz46_F6 big rec k o0 d3 x4 t10 t11 t15 (i0 : Int) = res := by
  have key : ∀ (m i : Nat) (d3 : Y5), i ≤ cnt → cnt < m + i → Inv i d3 → zz46_l6 big (zz46_a6 rec) m o0 d3 x4 t10 t11 t15 (i : Int) = res := by
    intro m
    induction m with
    | zero => intro i d3 h1 h2 h3; exact absurd h2 (by omega)
    | succ m ih =>
      intro i d3 h1 h2 h3
      rcases Nat.lt_or_ge i cnt with hlt | hge
      · exact hs _ i d3 hlt h3 (fun d3' h4 => ih (i + 1) d3' (by omega) (by omega) h4)
      · obtain rfl : i = cnt := by omega
        exact he _ d3 h3
  exact key big i0 d3 hi (by have := big_ge; omega) h0
theorem zz50_h4 {o0 : Y5} {x1 : Int} {y2 : Int} {t14 : Int} (cnt : Nat) (Inv : Nat → Prop) {res : Z0} (hn : cnt ≤ 500000000000)
  (hs : ∀ (rc : Y5 → Int → Int → Int → Int → Z0) (i : Nat), i < cnt → Inv i → (Inv (i + 1) → rc o0 x1 y2 t14 ((i + 1 : Nat) : Int) = res) → zz50_b4 rc zz50_a4 o0 x1 y2 t14 (i : Int) = res)
  (he : ∀ (rc : Y5 → Int → Int → Int → Int → Z0), Inv cnt → zz50_b4 rc zz50_a4 o0 x1 y2 t14 (cnt : Int) = res)
  (i0 : Nat) (hi : i0 ≤ cnt) (h0 : Inv i0) : zz50_F4 big o0 x1 y2 t14 (i0 : Int) = res := by
  have key : ∀ (m i : Nat), i ≤ cnt → cnt < m + i → Inv i → zz50_l4 big zz50_a4 m o0 x1 y2 t14 (i : Int) = res := by
    intro m
    induction m with
    | zero => intro i h1 h2 h3; exact absurd h2 (by omega)
    | succ m ih =>
      intro i h1 h2 h3
      rcases Nat.lt_or_ge i cnt with hlt | hge
      · exact hs _ i hlt h3 (fun h4 => ih (i + 1) (by omega) (by omega) h4)
      · obtain rfl : i = cnt := by omega
        exact he _ h3
  exact key big i0 hi (by have := big_ge; omega) h0
theorem zz52_h3 {so1 : (Y5 × (Int × Unit))} {t9 : Int} (cnt : Nat) (Inv : Nat → Y4 → Prop) {res : Z1} (hn : cnt ≤ 500000000000)
  (hs : ∀ (rc : (Y5 × (Int × Unit)) → Y4 → Int → Int → Z1) (i : Nat) (list5 : Y4), i < cnt → Inv i list5 → (∀ (list5' : Y4), Inv (i + 1) list5' → rc so1 list5' t9 ((i + 1 : Nat) : Int) = res) → zz52_b3 rc zz52_a3 so1 list5 t9 (i : Int) = res)
  (he : ∀ (rc : (Y5 × (Int × Unit)) → Y4 → Int → Int → Z1) (list5 : Y4), Inv cnt list5 → zz52_b3 rc zz52_a3 so1 list5 t9 (cnt : Int) = res)
  (i0 : Nat) (hi : i0 ≤ cnt) (list5 : Y4) (h0 : Inv i0 list5) : zz52_F3 big so1 list5 t9 (i0 : Int) = res := by
  have key : ∀ (m i : Nat) (list5 : Y4), i ≤ cnt → cnt < m + i → Inv i list5 → zz52_l3 big zz52_a3 m so1 list5 t9 (i : Int) = res := by
    intro m
    induction m with
    | zero => intro i list5 h1 h2 h3; exact absurd h2 (by omega)
    | succ m ih =>
      intro i list5 h1 h2 h3
      rcases Nat.lt_or_ge i cnt with hlt | hge
      · exact hs _ i list5 hlt h3 (fun list5' h4 => ih (i + 1) list5' (by omega) (by omega) h4)
      · obtain rfl : i = cnt := by omega
        exact he _ list5 h3
  exact key big i0 list5 hi (by have := big_ge; omega) h0
theorem zz55_h3 {so1 : (Y1 × Unit)} {t9 : Int} (cnt : Nat) (Inv : Nat → Y4 → Prop) {res : Z1} (hn : cnt ≤ 500000000000)
  (hs : ∀ (rc : (Y1 × Unit) → Y4 → Int → Int → Z1) (i : Nat) (list5 : Y4), i < cnt → Inv i list5 → (∀ (list5' : Y4), Inv (i + 1) list5' → rc so1 list5' t9 ((i + 1 : Nat) : Int) = res) → zz55_b3 rc zz55_a3 so1 list5 t9 (i : Int) = res)
  (he : ∀ (rc : (Y1 × Unit) → Y4 → Int → Int → Z1) (list5 : Y4), Inv cnt list5 → zz55_b3 rc zz55_a3 so1 list5 t9 (cnt : Int) = res)
  (i0 : Nat) (hi : i0 ≤ cnt) (list5 : Y4) (h0 : Inv i0 list5) : zz55_F3 big so1 list5 t9 (i0 : Int) = res := by
  have key : ∀ (m i : Nat) (list5 : Y4), i ≤ cnt → cnt < m + i → Inv i list5 → zz55_l3 big zz55_a3 m so1 list5 t9 (i : Int) = res := by
    intro m
    induction m with
    | zero => intro i list5 h1 h2 h3; exact absurd h2 (by omega)
    | succ m ih =>
      intro i list5 h1 h2 h3
      rcases Nat.lt_or_ge i cnt with hlt | hge
      · exact hs _ i list5 hlt h3 (fun list5' h4 => ih (i + 1) list5' (by omega) (by omega) h4)
      · obtain rfl : i = cnt := by omega
        exact he _ list5 h3
  exact key big i0 list5 hi (by have := big_ge; omega) h0
theorem zz57_h3 {mask0 : Int} (cnt : Nat) (Inv : Nat → Y4 → Prop) {res : Z1} (hn : cnt ≤ 500000000000)
  (hs : ∀ (rc : Int → Y4 → Int → Z1) (i : Nat) (list3 : Y4), i < cnt → Inv i list3 → (∀ (list3' : Y4), Inv (i + 1) list3' → rc mask0 list3' ((i + 1 : Nat) : Int) = res) → zz57_b3 rc zz57_a3 mask0 list3 (i : Int) = res)
  (he : ∀ (rc : Int → Y4 → Int → Z1) (list3 : Y4), Inv cnt list3 → zz57_b3 rc zz57_a3 mask0 list3 (cnt : Int) = res)
  (i0 : Nat) (hi : i0 ≤ cnt) (list3 : Y4) (h0 : Inv i0 list3) : zz57_F3 big mask0 list3 (i0 : Int) = res := by
  have key : ∀ (m i : Nat) (list3 : Y4), i ≤ cnt → cnt < m + i → Inv i list3 → zz57_l3 big zz57_a3 m mask0 list3 (i : Int) = res := by
    intro m
    induction m with
    | zero => intro i list3 h1 h2 h3; exact absurd h2 (by omega)
    | succ m ih =>
      intro i list3 h1 h2 h3
      rcases Nat.lt_or_ge i cnt with hlt | hge
      · exact hs _ i list3 hlt h3 (fun list3' h4 => ih (i + 1) list3' (by omega) (by omega) h4)
      · obtain rfl : i = cnt := by omega
        exact he _ list3 h3
  exact key big i0 list3 hi (by have := big_ge; omega) h0
theorem zz58_h3 {g1 : Y4} {t11 : Y4} {t12 : Int} (cnt : Nat) (Inv : Nat → Y4 → Prop) {res : Z1} (hn : cnt ≤ 500000000000)
  (hs : ∀ (rc : Y4 → Y4 → Y4 → Int → Int → Z1) (i : Nat) (h5 : Y4), i < cnt → Inv i h5 → (∀ (h5' : Y4), Inv (i + 1) h5' → rc g1 h5' t11 t12 ((i + 1 : Nat) : Int) = res) → zz58_b3 rc zz58_a3 g1 h5 t11 t12 (i : Int) = res)
  (he : ∀ (rc : Y4 → Y4 → Y4 → Int → Int → Z1) (h5 : Y4), Inv cnt h5 → zz58_b3 rc zz58_a3 g1 h5 t11 t12 (cnt : Int) = res)
  (i0 : Nat) (hi : i0 ≤ cnt) (h5 : Y4) (h0 : Inv i0 h5) : zz58_F3 big g1 h5 t11 t12 (i0 : Int) = res := by
  have key : ∀ (m i : Nat) (h5 : Y4), i ≤ cnt → cnt < m + i → Inv i h5 → zz58_l3 big zz58_a3 m g1 h5 t11 t12 (i : Int) = res := by
    intro m
    induction m with
    | zero => intro i h5 h1 h2 h3; exact absurd h2 (by omega)
    | succ m ih =>
      intro i h5 h1 h2 h3
      rcases Nat.lt_or_ge i cnt with hlt | hge
      · exact hs _ i h5 hlt h3 (fun h5' h4 => ih (i + 1) h5' (by omega) (by omega) h4)
      · obtain rfl : i = cnt := by omega
        exact he _ h5 h3
  exact key big i0 h5 hi (by have := big_ge; omega) h0
theorem zz62_h3 {t2 : Y6} {t7 : Y3} {t8 : Int} (cnt : Nat) (Inv : Nat → Y6 → Prop) {res : Z10} (hn : cnt ≤ 500000000000)
  (hs : ∀ (rc : Y6 → Y6 → Y3 → Int → Int → Z10) (i : Nat) (f3 : Y6), i < cnt → Inv i f3 → (∀ (f3' : Y6), Inv (i + 1) f3' → rc t2 f3' t7 t8 ((i + 1 : Nat) : Int) = res) → zz62_b3 rc zz62_a3 t2 f3 t7 t8 (i : Int) = res)
  (he : ∀ (rc : Y6 → Y6 → Y3 → Int → Int → Z10) (f3 : Y6), Inv cnt f3 → zz62_b3 rc zz62_a3 t2 f3 t7 t8 (cnt : Int) = res)
  (i0 : Nat) (hi : i0 ≤ cnt) (f3 : Y6) (h0 : Inv i0 f3) : zz62_F3 big t2 f3 t7 t8 (i0 : Int) = res := by
  have key : ∀ (m i : Nat) (f3 : Y6), i ≤ cnt → cnt < m + i → Inv i f3 → zz62_l3 big zz62_a3 m t2 f3 t7 t8 (i : Int) = res := by
    intro m
    induction m with
    | zero => intro i f3 h1 h2 h3; exact absurd h2 (by omega)
    | succ m ih =>
      intro i f3 h1 h2 h3
      rcases Nat.lt_or_ge i cnt with hlt | hge
      · exact hs _ i f3 hlt h3 (fun f3' h4 => ih (i + 1) f3' (by omega) (by omega) h4)
      · obtain rfl : i = cnt := by omega
        exact he _ f3 h3
  exact key big i0 f3 hi (by have := big_ge; omega) h0
theorem zz64_h3 {t8 : Int} (cnt : Nat) (Inv : Nat → Y4 → Prop) {res : Z1} (hn : cnt ≤ 500000000000)
  (hs : ∀ (rc : Y4 → Int → Int → Z1) (i : Nat) (p3 : Y4), i < cnt → Inv i p3 → (∀ (p3' : Y4), Inv (i + 1) p3' → rc p3' t8 ((i + 1 : Nat) : Int) = res) → zz64_b3 rc zz64_a3 p3 t8 (i : Int) = res)
  (he : ∀ (rc : Y4 → Int → Int → Z1) (p3 : Y4), Inv cnt p3 → zz64_b3 rc zz64_a3 p3 t8 (cnt : Int) = res)
  (i0 : Nat) (hi : i0 ≤ cnt) (p3 : Y4) (h0 : Inv i0 p3) : zz64_F3 big p3 t8 (i0 : Int) = res := by
  have key : ∀ (m i : Nat) (p3 : Y4), i ≤ cnt → cnt < m + i → Inv i p3 → zz64_l3 big zz64_a3 m p3 t8 (i : Int) = res := by
    intro m
    induction m with
    | zero => intro i p3 h1 h2 h3; exact absurd h2 (by omega)
    | succ m ih =>
      intro i p3 h1 h2 h3
      rcases Nat.lt_or_ge i cnt with hlt | hge
      · exact hs _ i p3 hlt h3 (fun p3' h4 => ih (i + 1) p3' (by omega) (by omega) h4)
      · obtain rfl : i = cnt := by omega
        exact he _ p3 h3
  exact key big i0 p3 hi (by have := big_ge; omega) h0
theorem zz65_h7 {x1 : Int} {y2 : Int} {t25 : Int} (cnt : Nat) (Inv : Nat → Y4 → Prop) {res : Z3} (hn : cnt ≤ 500000000000)
  (hs : ∀ (rc : Y4 → Int → Int → Int → Int → Z3) (i : Nat) (p0 : Y4), i < cnt → Inv i p0 → (∀ (p0' : Y4), Inv (i + 1) p0' → rc p0' x1 y2 t25 ((i + 1 : Nat) : Int) = res) → zz65_b7 rc zz65_a7 p0 x1 y2 t25 (i : Int) = res)
  (he : ∀ (rc : Y4 → Int → Int → Int → Int → Z3) (p0 : Y4), Inv cnt p0 → zz65_b7 rc zz65_a7 p0 x1 y2 t25 (cnt : Int) = res)
  (i0 : Nat) (hi : i0 ≤ cnt) (p0 : Y4) (h0 : Inv i0 p0) : zz65_F7 big p0 x1 y2 t25 (i0 : Int) = res := by
  have key : ∀ (m i : Nat) (p0 : Y4), i ≤ cnt → cnt < m + i → Inv i p0 → zz65_l7 big zz65_a7 m p0 x1 y2 t25 (i : Int) = res := by
    intro m
    induction m with
    | zero => intro i p0 h1 h2 h3; exact absurd h2 (by omega)
    | succ m ih =>
      intro i p0 h1 h2 h3
      rcases Nat.lt_or_ge i cnt with hlt | hge
      · exact hs _ i p0 hlt h3 (fun p0' h4 => ih (i + 1) p0' (by omega) (by omega) h4)
      · obtain rfl : i = cnt := by omega
        exact he _ p0 h3
  exact key big i0 p0 hi (by have := big_ge; omega) h0
theorem zz66_v3 {a2 : Y7} (mu : Y4 → Bool → Bool → Nat) (Inv : Y4 → Bool → Bool → Prop) {Q : Z3 → Prop}
  (hs : ∀ (rc : Y4 → Y7 → Bool → Bool → Z3) (p1 : Y4) (was5 changed6 : Bool), Inv p1 was5 changed6 → (∀ (p1' : Y4) (was5' : Bool) (changed6' : Bool), Inv p1' was5' changed6' → mu p1' was5' changed6' < mu p1 was5 changed6 → Q (rc p1' a2 was5' changed6')) → Q (zz66_b3 (zz66_F6 big rc zz66_a3) zz66_a3 p1 a2 was5 changed6))
  (p1 : Y4) (was5 changed6 : Bool) (hm : mu p1 was5 changed6 ≤ 500000000000) (h0 : Inv p1 was5 changed6) : Q (zz66_F3 big p1 a2 was5 changed6) := by
  have key : ∀ (m : Nat) (p1 : Y4) (was5 changed6 : Bool), mu p1 was5 changed6 < m → Inv p1 was5 changed6 → Q (zz66_l3 big zz66_a3 m p1 a2 was5 changed6) := by
    intro m
    induction m with
    | zero => intro p1 was5 changed6 h2 h3; exact absurd h2 (by omega)
    | succ m ih =>
      intro p1 was5 changed6 h2 h3
      exact hs _ p1 was5 changed6 h3 (fun p1' was5' changed6' h4 h5 => ih p1' was5' changed6' (by omega) h4)
  exact key big p1 was5 changed6 (by have := big_ge; omega) h0
theorem zz66_q6 {rec : Y4 → Y7 → Bool → Bool → Z3} {k : Y4 → Bool → Z3} {a2 : Y7} {t16 : (List Y6)} {t17 : Int} (cnt : Nat) (Inv : Nat → Y4 → Bool → Bool → Prop) {Q : Z3 → Prop} (hn : cnt ≤ 500000000000)
  (hs : ∀ (rc : Y4 → Y7 → Bool → Bool → (List Y6) → Int → Int → Z3) (i : Nat) (p1 : Y4) (was5 changed6 : Bool), i < cnt → Inv i p1 was5 changed6 → (∀ (p1' : Y4) (was5' : Bool) (changed6' : Bool), Inv (i + 1) p1' was5' changed6' → Q (rc p1' a2 was5' changed6' t16 t17 ((i + 1 : Nat) : Int))) → Q (zz66_b6 (zz66_F10 big rc (zz66_a6 rec)) (zz66_a6 rec) p1 a2 was5 changed6 t16 t17 (i : Int)))
  (he : ∀ (rc : Y4 → Y7 → Bool → Bool → (List Y6) → Int → Int → Z3) (p1 : Y4) (was5 changed6 : Bool), Inv cnt p1 was5 changed6 → Q (zz66_b6 (zz66_F10 big rc (zz66_a6 rec)) (zz66_a6 rec) p1 a2 was5 changed6 t16 t17 (cnt : Int)))
  (i0 : Nat) (hi : i0 ≤ cnt) (p1 : Y4) (was5 changed6 : Bool) (h0 : Inv i0 p1 was5 changed6) : Q (zz66_F6 big rec k p1 a2 was5 changed6 t16 t17 (i0 : Int)) := by
  have key : ∀ (m i : Nat) (p1 : Y4) (was5 changed6 : Bool), i ≤ cnt → cnt < m + i → Inv i p1 was5 changed6 → Q (zz66_l6 big (zz66_a6 rec) m p1 a2 was5 changed6 t16 t17 (i : Int)) := by
    intro m
    induction m with
    | zero => intro i p1 was5 changed6 h1 h2 h3; exact absurd h2 (by omega)
    | succ m ih =>
      intro i p1 was5 changed6 h1 h2 h3
      rcases Nat.lt_or_ge i cnt with hlt | hge
      · exact hs _ i p1 was5 changed6 hlt h3 (fun p1' was5' changed6' h4 => ih (i + 1) p1' was5' changed6' (by omega) (by omega) h4)
      · obtain rfl : i = cnt := by omega
        exact he _ p1 was5 changed6 h3
  exact key big i0 p1 was5 changed6 hi (by have := big_ge; omega) h0
theorem zz66_q10 {rec : Y4 → Y7 → Bool → Bool → (List Y6) → Int → Int → Z3} {k : Y4 → Y7 → Bool → Bool → Z3} {a2 : Y7} {f8 : Y6} {t16 : (List Y6)} {t17 : Int} {t18 : Int} (cnt : Nat) (Inv : Nat → Y4 → Bool → Bool → Int → Prop) {Q : Z3 → Prop} (hn : cnt ≤ 500000000000)
  (hs : ∀ (rc : Y4 → Y7 → Bool → Bool → Y6 → Int → Int → (List Y6) → Int → Int → Z3) (i : Nat) (p1 : Y4) (was5 changed6 : Bool) (step9 : Int), i < cnt → Inv i p1 was5 changed6 step9 → (∀ (p1' : Y4) (was5' : Bool) (changed6' : Bool) (step9' : Int), Inv (i + 1) p1' was5' changed6' step9' → Q (rc p1' a2 was5' changed6' f8 step9' ((i + 1 : Nat) : Int) t16 t17 t18)) → Q (zz66_b10 (zz66_F13 big rc (zz66_a10 rec)) (zz66_a10 rec) p1 a2 was5 changed6 f8 step9 (i : Int) t16 t17 t18))
  (he : ∀ (rc : Y4 → Y7 → Bool → Bool → Y6 → Int → Int → (List Y6) → Int → Int → Z3) (p1 : Y4) (was5 changed6 : Bool) (step9 : Int), Inv cnt p1 was5 changed6 step9 → Q (zz66_b10 (zz66_F13 big rc (zz66_a10 rec)) (zz66_a10 rec) p1 a2 was5 changed6 f8 step9 (cnt : Int) t16 t17 t18))
  (i0 : Nat) (hi : i0 ≤ cnt) (p1 : Y4) (was5 changed6 : Bool) (step9 : Int) (h0 : Inv i0 p1 was5 changed6 step9) : Q (zz66_F10 big rec k p1 a2 was5 changed6 f8 step9 (i0 : Int) t16 t17 t18) := by
  have key : ∀ (m i : Nat) (p1 : Y4) (was5 changed6 : Bool) (step9 : Int), i ≤ cnt → cnt < m + i → Inv i p1 was5 changed6 step9 → Q (zz66_l10 big (zz66_a10 rec) m p1 a2 was5 changed6 f8 step9 (i : Int) t16 t17 t18) := by
    intro m
    induction m with
    | zero => intro i p1 was5 changed6 step9 h1 h2 h3; exact absurd h2 (by omega)
    | succ m ih =>
      intro i p1 was5 changed6 step9 h1 h2 h3
      rcases Nat.lt_or_ge i cnt with hlt | hge
      · exact hs _ i p1 was5 changed6 step9 hlt h3 (fun p1' was5' changed6' step9' h4 => ih (i + 1) p1' was5' changed6' step9' (by omega) (by omega) h4)
      · obtain rfl : i = cnt := by omega
        exact he _ p1 was5 changed6 step9 h3
  exact key big i0 p1 was5 changed6 step9 hi (by have := big_ge; omega) h0
theorem zz66_q13 {rec : Y4 → Y7 → Bool → Bool → Y6 → Int → Int → (List Y6) → Int → Int → Z3} {k : Y4 → Y7 → Bool → Bool → (List Y6) → Int → Int → Z3} {a2 : Y7} {f8 : Y6} {step9 : Int} {k10 : Int} {t16 : (List Y6)} {t17 : Int} {t18 : Int} {t29 : Y4} {t30 : Int} (cnt : Nat) (Inv : Nat → Y4 → Bool → Bool → Prop) {Q : Z3 → Prop} (hn : cnt ≤ 500000000000)
  (hs : ∀ (rc : Y4 → Y7 → Bool → Bool → Y6 → Int → Int → (List Y6) → Int → Int → Y4 → Int → Int → Z3) (i : Nat) (p1 : Y4) (was5 changed6 : Bool), i < cnt → Inv i p1 was5 changed6 → (∀ (p1' : Y4) (was5' : Bool) (changed6' : Bool), Inv (i + 1) p1' was5' changed6' → Q (rc p1' a2 was5' changed6' f8 step9 k10 t16 t17 t18 t29 t30 ((i + 1 : Nat) : Int))) → Q (zz66_b13 rc (zz66_a13 rec) p1 a2 was5 changed6 f8 step9 k10 t16 t17 t18 t29 t30 (i : Int)))
  (he : ∀ (rc : Y4 → Y7 → Bool → Bool → Y6 → Int → Int → (List Y6) → Int → Int → Y4 → Int → Int → Z3) (p1 : Y4) (was5 changed6 : Bool), Inv cnt p1 was5 changed6 → Q (zz66_b13 rc (zz66_a13 rec) p1 a2 was5 changed6 f8 step9 k10 t16 t17 t18 t29 t30 (cnt : Int)))
  (i0 : Nat) (hi : i0 ≤ cnt) (p1 : Y4) (was5 changed6 : Bool) (h0 : Inv i0 p1 was5 changed6) : Q (zz66_F13 big rec k p1 a2 was5 changed6 f8 step9 k10 t16 t17 t18 t29 t30 (i0 : Int)) := by
  have key : ∀ (m i : Nat) (p1 : Y4) (was5 changed6 : Bool), i ≤ cnt → cnt < m + i → Inv i p1 was5 changed6 → Q (zz66_l13 big (zz66_a13 rec) m p1 a2 was5 changed6 f8 step9 k10 t16 t17 t18 t29 t30 (i : Int)) := by
    intro m
    induction m with
    | zero => intro i p1 was5 changed6 h1 h2 h3; exact absurd h2 (by omega)
    | succ m ih =>
      intro i p1 was5 changed6 h1 h2 h3
      rcases Nat.lt_or_ge i cnt with hlt | hge
      · exact hs _ i p1 was5 changed6 hlt h3 (fun p1' was5' changed6' h4 => ih (i + 1) p1' was5' changed6' (by omega) (by omega) h4)
      · obtain rfl : i = cnt := by omega
        exact he _ p1 was5 changed6 h3
  exact key big i0 p1 was5 changed6 hi (by have := big_ge; omega) h0
theorem zz67_h3 {a2 : Y7} {t11 : (List Z9)} {t12 : Int} (cnt : Nat) (Inv : Nat → Y4 → Prop) {res : Z1} (hn : cnt ≤ 500000000000)
  (hs : ∀ (rc : Y7 → Y4 → (List Z9) → Int → Int → Z1) (i : Nat) (p5 : Y4), i < cnt → Inv i p5 → (∀ (p5' : Y4), Inv (i + 1) p5' → rc a2 p5' t11 t12 ((i + 1 : Nat) : Int) = res) → zz67_b3 rc zz67_a3 a2 p5 t11 t12 (i : Int) = res)
  (he : ∀ (rc : Y7 → Y4 → (List Z9) → Int → Int → Z1) (p5 : Y4), Inv cnt p5 → zz67_b3 rc zz67_a3 a2 p5 t11 t12 (cnt : Int) = res)
  (i0 : Nat) (hi : i0 ≤ cnt) (p5 : Y4) (h0 : Inv i0 p5) : zz67_F3 big a2 p5 t11 t12 (i0 : Int) = res := by
  have key : ∀ (m i : Nat) (p5 : Y4), i ≤ cnt → cnt < m + i → Inv i p5 → zz67_l3 big zz67_a3 m a2 p5 t11 t12 (i : Int) = res := by
    intro m
    induction m with
    | zero => intro i p5 h1 h2 h3; exact absurd h2 (by omega)
    | succ m ih =>
      intro i p5 h1 h2 h3
      rcases Nat.lt_or_ge i cnt with hlt | hge
      · exact hs _ i p5 hlt h3 (fun p5' h4 => ih (i + 1) p5' (by omega) (by omega) h4)
      · obtain rfl : i = cnt := by omega
        exact he _ p5 h3
  exact key big i0 p5 hi (by have := big_ge; omega) h0
theorem zz68_h3 {l0 : Y1} {t9 : Y4} {t10 : Int} (cnt : Nat) (Inv : Nat → (List Z9) → Prop) {res : Z1} (hn : cnt ≤ 500000000000)
  (hs : ∀ (rc : Y1 → (List Z9) → Y4 → Int → Int → Z1) (i : Nat) (pairs5 : (List Z9)), i < cnt → Inv i pairs5 → (∀ (pairs5' : (List Z9)), Inv (i + 1) pairs5' → rc l0 pairs5' t9 t10 ((i + 1 : Nat) : Int) = res) → zz68_b3 rc zz68_a3 l0 pairs5 t9 t10 (i : Int) = res)
  (he : ∀ (rc : Y1 → (List Z9) → Y4 → Int → Int → Z1) (pairs5 : (List Z9)), Inv cnt pairs5 → zz68_b3 rc zz68_a3 l0 pairs5 t9 t10 (cnt : Int) = res)
  (i0 : Nat) (hi : i0 ≤ cnt) (pairs5 : (List Z9)) (h0 : Inv i0 pairs5) : zz68_F3 big l0 pairs5 t9 t10 (i0 : Int) = res := by
  have key : ∀ (m i : Nat) (pairs5 : (List Z9)), i ≤ cnt → cnt < m + i → Inv i pairs5 → zz68_l3 big zz68_a3 m l0 pairs5 t9 t10 (i : Int) = res := by
    intro m
    induction m with
    | zero => intro i pairs5 h1 h2 h3; exact absurd h2 (by omega)
    | succ m ih =>
      intro i pairs5 h1 h2 h3
      rcases Nat.lt_or_ge i cnt with hlt | hge
      · exact hs _ i pairs5 hlt h3 (fun pairs5' h4 => ih (i + 1) pairs5' (by omega) (by omega) h4)
      · obtain rfl : i = cnt := by omega
        exact he _ pairs5 h3
  exact key big i0 pairs5 hi (by have := big_ge; omega) h0
theorem zz69_h3 {l0 : Y1} {c1 : Y4} {t10 : Y4} {t11 : Int} (cnt : Nat) (Inv : Nat → Y4 → Prop) {res : Z1} (hn : cnt ≤ 500000000000)
  (hs : ∀ (rc : Y1 → Y4 → Y4 → Y4 → Int → Int → Z1) (i : Nat) (list5 : Y4), i < cnt → Inv i list5 → (∀ (list5' : Y4), Inv (i + 1) list5' → rc l0 c1 list5' t10 t11 ((i + 1 : Nat) : Int) = res) → zz69_b3 rc zz69_a3 l0 c1 list5 t10 t11 (i : Int) = res)
  (he : ∀ (rc : Y1 → Y4 → Y4 → Y4 → Int → Int → Z1) (list5 : Y4), Inv cnt list5 → zz69_b3 rc zz69_a3 l0 c1 list5 t10 t11 (cnt : Int) = res)
  (i0 : Nat) (hi : i0 ≤ cnt) (list5 : Y4) (h0 : Inv i0 list5) : zz69_F3 big l0 c1 list5 t10 t11 (i0 : Int) = res := by
  have key : ∀ (m i : Nat) (list5 : Y4), i ≤ cnt → cnt < m + i → Inv i list5 → zz69_l3 big zz69_a3 m l0 c1 list5 t10 t11 (i : Int) = res := by
    intro m
    induction m with
    | zero => intro i list5 h1 h2 h3; exact absurd h2 (by omega)
    | succ m ih =>
      intro i list5 h1 h2 h3
      rcases Nat.lt_or_ge i cnt with hlt | hge
      · exact hs _ i list5 hlt h3 (fun list5' h4 => ih (i + 1) list5' (by omega) (by omega) h4)
      · obtain rfl : i = cnt := by omega
        exact he _ list5 h3
  exact key big i0 list5 hi (by have := big_ge; omega) h0
theorem zz71_h2 {x1 : Int} {t7 : Y4} {t8 : Int} (cnt : Nat) (Inv : Nat → Prop) {res : Z0} (hn : cnt ≤ 500000000000)
  (hs : ∀ (rc : Int → Y4 → Int → Int → Z0) (i : Nat), i < cnt → Inv i → (Inv (i + 1) → rc x1 t7 t8 ((i + 1 : Nat) : Int) = res) → zz71_b2 rc zz71_a2 x1 t7 t8 (i : Int) = res)
  (he : ∀ (rc : Int → Y4 → Int → Int → Z0), Inv cnt → zz71_b2 rc zz71_a2 x1 t7 t8 (cnt : Int) = res)
  (i0 : Nat) (hi : i0 ≤ cnt) (h0 : Inv i0) : zz71_F2 big x1 t7 t8 (i0 : Int) = res := by
  have key : ∀ (m i : Nat), i ≤ cnt → cnt < m + i → Inv i → zz71_l2 big zz71_a2 m x1 t7 t8 (i : Int) = res := by
    intro m
    induction m with
    | zero => intro i h1 h2 h3; exact absurd h2 (by omega)
    | succ m ih =>
      intro i h1 h2 h3
      rcases Nat.lt_or_ge i cnt with hlt | hge
      · exact hs _ i hlt h3 (fun h4 => ih (i + 1) (by omega) (by omega) h4)
      · obtain rfl : i = cnt := by omega
        exact he _ h3
  exact key big i0 hi (by have := big_ge; omega) h0
theorem zz72_h2 {y1 : Y4} {t7 : Y4} {t8 : Int} (cnt : Nat) (Inv : Nat → Prop) {res : Z0} (hn : cnt ≤ 500000000000)
  (hs : ∀ (rc : Y4 → Y4 → Int → Int → Z0) (i : Nat), i < cnt → Inv i → (Inv (i + 1) → rc y1 t7 t8 ((i + 1 : Nat) : Int) = res) → zz72_b2 rc zz72_a2 y1 t7 t8 (i : Int) = res)
  (he : ∀ (rc : Y4 → Y4 → Int → Int → Z0), Inv cnt → zz72_b2 rc zz72_a2 y1 t7 t8 (cnt : Int) = res)
  (i0 : Nat) (hi : i0 ≤ cnt) (h0 : Inv i0) : zz72_F2 big y1 t7 t8 (i0 : Int) = res := by
  have key : ∀ (m i : Nat), i ≤ cnt → cnt < m + i → Inv i → zz72_l2 big zz72_a2 m y1 t7 t8 (i : Int) = res := by
    intro m
    induction m with
    | zero => intro i h1 h2 h3; exact absurd h2 (by omega)
    | succ m ih =>
      intro i h1 h2 h3
      rcases Nat.lt_or_ge i cnt with hlt | hge
      · exact hs _ i hlt h3 (fun h4 => ih (i + 1) (by omega) (by omega) h4)
      · obtain rfl : i = cnt := by omega
        exact he _ h3
  exact key big i0 hi (by have := big_ge; omega) h0
theorem zz73_h2 {l0 : Y1} {set1 : Y4} {t7 : Y4} {t8 : Int} (cnt : Nat) (Inv : Nat → Prop) {res : Z0} (hn : cnt ≤ 500000000000)
  (hs : ∀ (rc : Y1 → Y4 → Y4 → Int → Int → Z0) (i : Nat), i < cnt → Inv i → (Inv (i + 1) → rc l0 set1 t7 t8 ((i + 1 : Nat) : Int) = res) → zz73_b2 rc zz73_a2 l0 set1 t7 t8 (i : Int) = res)
  (he : ∀ (rc : Y1 → Y4 → Y4 → Int → Int → Z0), Inv cnt → zz73_b2 rc zz73_a2 l0 set1 t7 t8 (cnt : Int) = res)
  (i0 : Nat) (hi : i0 ≤ cnt) (h0 : Inv i0) : zz73_F2 big l0 set1 t7 t8 (i0 : Int) = res := by
  have key : ∀ (m i : Nat), i ≤ cnt → cnt < m + i → Inv i → zz73_l2 big zz73_a2 m l0 set1 t7 t8 (i : Int) = res := by
    intro m
    induction m with
    | zero => intro i h1 h2 h3; exact absurd h2 (by omega)
    | succ m ih =>
      intro i h1 h2 h3
      rcases Nat.lt_or_ge i cnt with hlt | hge
      · exact hs _ i hlt h3 (fun h4 => ih (i + 1) (by omega) (by omega) h4)
      · obtain rfl : i = cnt := by omega
        exact he _ h3
  exact key big i0 hi (by have := big_ge; omega) h0
theorem zz74_h7 {l4 : Y1} {places6 : Y4} (cnt : Nat) (Inv : Nat → Y3 → Prop) {res : Z4} (hn : cnt ≤ 500000000000)
  (hs : ∀ (rc : Y1 → Y4 → Y3 → Int → Z4) (i : Nat) (list7 : Y3), i < cnt → Inv i list7 → (∀ (list7' : Y3), Inv (i + 1) list7' → rc l4 places6 list7' ((i + 1 : Nat) : Int) = res) → zz74_b7 rc zz74_a7 l4 places6 list7 (i : Int) = res)
  (he : ∀ (rc : Y1 → Y4 → Y3 → Int → Z4) (list7 : Y3), Inv cnt list7 → zz74_b7 rc zz74_a7 l4 places6 list7 (cnt : Int) = res)
  (i0 : Nat) (hi : i0 ≤ cnt) (list7 : Y3) (h0 : Inv i0 list7) : zz74_F7 big l4 places6 list7 (i0 : Int) = res := by
  have key : ∀ (m i : Nat) (list7 : Y3), i ≤ cnt → cnt < m + i → Inv i list7 → zz74_l7 big zz74_a7 m l4 places6 list7 (i : Int) = res := by
    intro m
    induction m with
    | zero => intro i list7 h1 h2 h3; exact absurd h2 (by omega)
    | succ m ih =>
      intro i list7 h1 h2 h3
      rcases Nat.lt_or_ge i cnt with hlt | hge
      · exact hs _ i list7 hlt h3 (fun list7' h4 => ih (i + 1) list7' (by omega) (by omega) h4)
      · obtain rfl : i = cnt := by omega
        exact he _ list7 h3
  exact key big i0 list7 hi (by have := big_ge; omega) h0
end Go.Proofs.YtlndlclemhfekaaGreat
