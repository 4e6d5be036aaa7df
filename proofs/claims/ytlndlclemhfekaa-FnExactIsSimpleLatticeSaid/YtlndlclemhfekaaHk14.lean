import Derived.Test.YtlndlclemhfekaaPLib
import Derived.Test.YtlndlclemhfekaaGk14
set_option linter.unusedVariables false
namespace Go.Proofs.Ytlndlclemhfekaa
open Go Go.Gx Go.Proofs

/-! rules for the loops -/
theorem zz4_h3 {a0 : Y3} (cnt : Nat) (Inv : Nat → Y3 → Prop) {res : Option Y2} (hn : cnt ≤ 500000000000)
  (hs : ∀ (rc : Y3 → Y3 → Int → Option Y2) (i : Nat) (out3 : Y3), i < cnt → Inv i out3 → (∀ (out3' : Y3), Inv (i + 1) out3' → rc a0 out3' ((i + 1 : Nat) : Int) = res) → zz4_b3 rc zz4_a3 a0 out3 (i : Int) = res)
  (he : ∀ (rc : Y3 → Y3 → Int → Option Y2) (out3 : Y3), Inv cnt out3 → zz4_b3 rc zz4_a3 a0 out3 (cnt : Int) = res)
  (i0 : Nat) (hi : i0 ≤ cnt) (out3 : Y3) (h0 : Inv i0 out3) : zz4_F3 big a0 out3 (i0 : Int) = res := by
  have key : ∀ (m i : Nat) (out3 : Y3), i ≤ cnt → cnt < m + i → Inv i out3 → zz4_l3 big zz4_a3 m a0 out3 (i : Int) = res := by
    intro m
    induction m with
    | zero => intro i out3 h1 h2 h3; exact absurd h2 (by omega)
    | succ m ih =>
      intro i out3 h1 h2 h3
      rcases Nat.lt_or_ge i cnt with hlt | hge
      · exact hs _ i out3 hlt h3 (fun out3' h4 => ih (i + 1) out3' (by omega) (by omega) h4)
      · obtain rfl : i = cnt := by omega
        exact he _ out3 h3
  exact key big i0 out3 hi (by have := big_ge; omega) h0
theorem zz8_h2 {l0 : Y4} {n1 : Int} (cnt : Nat) (Inv : Nat → Prop) {res : Z0} (hn : cnt ≤ 500000000000)
  (hs : ∀ (rc : Y4 → Int → Int → Z0) (i : Nat), i < cnt → Inv i → (Inv (i + 1) → rc l0 n1 ((i + 1 : Nat) : Int) = res) → zz8_b2 rc zz8_a2 l0 n1 (i : Int) = res)
  (he : ∀ (rc : Y4 → Int → Int → Z0), Inv cnt → zz8_b2 rc zz8_a2 l0 n1 (cnt : Int) = res)
  (i0 : Nat) (hi : i0 ≤ cnt) (h0 : Inv i0) : zz8_F2 big l0 n1 (i0 : Int) = res := by
  have key : ∀ (m i : Nat), i ≤ cnt → cnt < m + i → Inv i → zz8_l2 big zz8_a2 m l0 n1 (i : Int) = res := by
    intro m
    induction m with
    | zero => intro i h1 h2 h3; exact absurd h2 (by omega)
    | succ m ih =>
      intro i h1 h2 h3
      rcases Nat.lt_or_ge i cnt with hlt | hge
      · exact hs _ i hlt h3 (fun h4 => ih (i + 1) (by omega) (by omega) h4)
      · obtain rfl : i = cnt := by omega
        exact he _ h3
  exact key big i0 hi (by have := big_ge; omega) h0
theorem zz9_h2 {x0 : Y4} {y1 : Y4} (cnt : Nat) (Inv : Nat → Prop) {res : Z0} (hn : cnt ≤ 500000000000)
  (hs : ∀ (rc : Y4 → Y4 → Int → Z0) (i : Nat), i < cnt → Inv i → (Inv (i + 1) → rc x0 y1 ((i + 1 : Nat) : Int) = res) → zz9_b2 rc zz9_a2 x0 y1 (i : Int) = res)
  (he : ∀ (rc : Y4 → Y4 → Int → Z0), Inv cnt → zz9_b2 rc zz9_a2 x0 y1 (cnt : Int) = res)
  (i0 : Nat) (hi : i0 ≤ cnt) (h0 : Inv i0) : zz9_F2 big x0 y1 (i0 : Int) = res := by
  have key : ∀ (m i : Nat), i ≤ cnt → cnt < m + i → Inv i → zz9_l2 big zz9_a2 m x0 y1 (i : Int) = res := by
    intro m
    induction m with
    | zero => intro i h1 h2 h3; exact absurd h2 (by omega)
    | succ m ih =>
      intro i h1 h2 h3
      rcases Nat.lt_or_ge i cnt with hlt | hge
      · exact hs _ i hlt h3 (fun h4 => ih (i + 1) (by omega) (by omega) h4)
      · obtain rfl : i = cnt := by omega
        exact he _ h3
  exact key big i0 hi (by have := big_ge; omega) h0
theorem zz10_h5 {p1 : Y2} {n3 : Int} (cnt : Nat) (Inv : Nat → Prop) {res : Z0} (hn : cnt ≤ 500000000000)
  (hs : ∀ (rc : Y2 → Int → Int → Z0) (i : Nat), i < cnt → Inv i → (Inv (i + 1) → rc p1 n3 ((i + 1 : Nat) : Int) = res) → zz10_b5 rc (zz10_a5 (zz10_F10 big)) p1 n3 (i : Int) = res)
  (he : ∀ (rc : Y2 → Int → Int → Z0), Inv cnt → zz10_b5 rc (zz10_a5 (zz10_F10 big)) p1 n3 (cnt : Int) = res)
  (i0 : Nat) (hi : i0 ≤ cnt) (h0 : Inv i0) : zz10_F5 big p1 n3 (i0 : Int) = res := by
  have key : ∀ (m i : Nat), i ≤ cnt → cnt < m + i → Inv i → zz10_l5 big (zz10_a5 (zz10_F10 big)) m p1 n3 (i : Int) = res := by
    intro m
    induction m with
    | zero => intro i h1 h2 h3; exact absurd h2 (by omega)
    | succ m ih =>
      intro i h1 h2 h3
      rcases Nat.lt_or_ge i cnt with hlt | hge
      · exact hs _ i hlt h3 (fun h4 => ih (i + 1) (by omega) (by omega) h4)
      · obtain rfl : i = cnt := by omega
        exact he _ h3
  exact key big i0 hi (by have := big_ge; omega) h0
theorem zz10_h10 {p1 : Y2} {n3 : Int} (cnt : Nat) (Inv : Nat → Prop) {res : Z0} (hn : cnt ≤ 500000000000)
  (hs : ∀ (rc : Y2 → Int → Int → Z0) (i : Nat), i < cnt → Inv i → (Inv (i + 1) → rc p1 n3 ((i + 1 : Nat) : Int) = res) → zz10_b10 (zz10_F13 big rc zz10_a10) zz10_a10 p1 n3 (i : Int) = res)
  (he : ∀ (rc : Y2 → Int → Int → Z0), Inv cnt → zz10_b10 (zz10_F13 big rc zz10_a10) zz10_a10 p1 n3 (cnt : Int) = res)
  (i0 : Nat) (hi : i0 ≤ cnt) (h0 : Inv i0) : zz10_F10 big p1 n3 (i0 : Int) = res := by
  have key : ∀ (m i : Nat), i ≤ cnt → cnt < m + i → Inv i → zz10_l10 big zz10_a10 m p1 n3 (i : Int) = res := by
    intro m
    induction m with
    | zero => intro i h1 h2 h3; exact absurd h2 (by omega)
    | succ m ih =>
      intro i h1 h2 h3
      rcases Nat.lt_or_ge i cnt with hlt | hge
      · exact hs _ i hlt h3 (fun h4 => ih (i + 1) (by omega) (by omega) h4)
      · obtain rfl : i = cnt := by omega
        exact he _ h3
  exact key big i0 hi (by have := big_ge; omega) h0
theorem zz10_h13 {rec : Y2 → Int → Int → Z0} {k : Z0} {p1 : Y2} {n3 : Int} {x5 : Int} (cnt : Nat) (Inv : Nat → Prop) {res : Z0} (hn : cnt ≤ 500000000000)
  (hs : ∀ (rc : Y2 → Int → Int → Int → Z0) (i : Nat), i < cnt → Inv i → (Inv (i + 1) → rc p1 n3 x5 ((i + 1 : Nat) : Int) = res) → zz10_b13 rc (zz10_a13 rec) p1 n3 x5 (i : Int) = res)
  (he : ∀ (rc : Y2 → Int → Int → Int → Z0), Inv cnt → zz10_b13 rc (zz10_a13 rec) p1 n3 x5 (cnt : Int) = res)
  (i0 : Nat) (hi : i0 ≤ cnt) (h0 : Inv i0) : zz10_F13 big rec k p1 n3 x5 (i0 : Int) = res := by
  have key : ∀ (m i : Nat), i ≤ cnt → cnt < m + i → Inv i → zz10_l13 big (zz10_a13 rec) m p1 n3 x5 (i : Int) = res := by
    intro m
    induction m with
    | zero => intro i h1 h2 h3; exact absurd h2 (by omega)
    | succ m ih =>
      intro i h1 h2 h3
      rcases Nat.lt_or_ge i cnt with hlt | hge
      · exact hs _ i hlt h3 (fun h4 => ih (i + 1) (by omega) (by omega) h4)
      · obtain rfl : i = cnt := by omega
        exact he _ h3
  exact key big i0 hi (by have := big_ge; omega) h0
theorem zz12_h3 {p1 : Y2} {t2 : Y2} (cnt : Nat) (Inv : Nat → Y2 → Prop) {res : Z9} (hn : cnt ≤ 500000000000)
  (hs : ∀ (rc : Y2 → Y2 → Y2 → Int → Z9) (i : Nat) (out3 : Y2), i < cnt → Inv i out3 → (∀ (out3' : Y2), Inv (i + 1) out3' → rc p1 t2 out3' ((i + 1 : Nat) : Int) = res) → zz12_b3 (zz12_F7 big rc zz12_a3) zz12_a3 p1 t2 out3 (i : Int) = res)
  (he : ∀ (rc : Y2 → Y2 → Y2 → Int → Z9) (out3 : Y2), Inv cnt out3 → zz12_b3 (zz12_F7 big rc zz12_a3) zz12_a3 p1 t2 out3 (cnt : Int) = res)
  (i0 : Nat) (hi : i0 ≤ cnt) (out3 : Y2) (h0 : Inv i0 out3) : zz12_F3 big p1 t2 out3 (i0 : Int) = res := by
  have key : ∀ (m i : Nat) (out3 : Y2), i ≤ cnt → cnt < m + i → Inv i out3 → zz12_l3 big zz12_a3 m p1 t2 out3 (i : Int) = res := by
    intro m
    induction m with
    | zero => intro i out3 h1 h2 h3; exact absurd h2 (by omega)
    | succ m ih =>
      intro i out3 h1 h2 h3
      rcases Nat.lt_or_ge i cnt with hlt | hge
      · exact hs _ i out3 hlt h3 (fun out3' h4 => ih (i + 1) out3' (by omega) (by omega) h4)
      · obtain rfl : i = cnt := by omega
        exact he _ out3 h3
  exact key big i0 out3 hi (by have := big_ge; omega) h0
theorem zz12_h7 {rec : Y2 → Y2 → Y2 → Int → Z9} {k : Y2 → Y2 → Z9} {p1 : Y2} {t2 : Y2} {out3 : Y2} {x4 : Int} (cnt : Nat) (Inv : Nat → Y4 → Prop) {res : Z9} (hn : cnt ≤ 500000000000)
  (hs : ∀ (rc : Y2 → Y2 → Y2 → Int → Y4 → Int → Z9) (i : Nat) (below5 : Y4), i < cnt → Inv i below5 → (∀ (below5' : Y4), Inv (i + 1) below5' → rc p1 t2 out3 x4 below5' ((i + 1 : Nat) : Int) = res) → zz12_b7 rc (zz12_a7 rec) p1 t2 out3 x4 below5 (i : Int) = res)
  (he : ∀ (rc : Y2 → Y2 → Y2 → Int → Y4 → Int → Z9) (below5 : Y4), Inv cnt below5 → zz12_b7 rc (zz12_a7 rec) p1 t2 out3 x4 below5 (cnt : Int) = res)
  (i0 : Nat) (hi : i0 ≤ cnt) (below5 : Y4) (h0 : Inv i0 below5) : zz12_F7 big rec k p1 t2 out3 x4 below5 (i0 : Int) = res := by
  have key : ∀ (m i : Nat) (below5 : Y4), i ≤ cnt → cnt < m + i → Inv i below5 → zz12_l7 big (zz12_a7 rec) m p1 t2 out3 x4 below5 (i : Int) = res := by
    intro m
    induction m with
    | zero => intro i below5 h1 h2 h3; exact absurd h2 (by omega)
    | succ m ih =>
      intro i below5 h1 h2 h3
      rcases Nat.lt_or_ge i cnt with hlt | hge
      · exact hs _ i below5 hlt h3 (fun below5' h4 => ih (i + 1) below5' (by omega) (by omega) h4)
      · obtain rfl : i = cnt := by omega
        exact he _ below5 h3
  exact key big i0 below5 hi (by have := big_ge; omega) h0
theorem zz13_h3 {some1 : Y4} {p2 : Y2} (cnt : Nat) (Inv : Nat → Y4 → Prop) {res : Z3} (hn : cnt ≤ 500000000000)
  (hs : ∀ (rc : Y4 → Y2 → Y4 → Int → Z3) (i : Nat) (low5 : Y4), i < cnt → Inv i low5 → (∀ (low5' : Y4), Inv (i + 1) low5' → rc some1 p2 low5' ((i + 1 : Nat) : Int) = res) → zz13_b3 (zz13_F7 big rc (zz13_a3 (zz13_F13 big))) (zz13_a3 (zz13_F13 big)) some1 p2 low5 (i : Int) = res)
  (he : ∀ (rc : Y4 → Y2 → Y4 → Int → Z3) (low5 : Y4), Inv cnt low5 → zz13_b3 (zz13_F7 big rc (zz13_a3 (zz13_F13 big))) (zz13_a3 (zz13_F13 big)) some1 p2 low5 (cnt : Int) = res)
  (i0 : Nat) (hi : i0 ≤ cnt) (low5 : Y4) (h0 : Inv i0 low5) : zz13_F3 big some1 p2 low5 (i0 : Int) = res := by
  have key : ∀ (m i : Nat) (low5 : Y4), i ≤ cnt → cnt < m + i → Inv i low5 → zz13_l3 big (zz13_a3 (zz13_F13 big)) m some1 p2 low5 (i : Int) = res := by
    intro m
    induction m with
    | zero => intro i low5 h1 h2 h3; exact absurd h2 (by omega)
    | succ m ih =>
      intro i low5 h1 h2 h3
      rcases Nat.lt_or_ge i cnt with hlt | hge
      · exact hs _ i low5 hlt h3 (fun low5' h4 => ih (i + 1) low5' (by omega) (by omega) h4)
      · obtain rfl : i = cnt := by omega
        exact he _ low5 h3
  exact key big i0 low5 hi (by have := big_ge; omega) h0
theorem zz13_h7 {rec : Y4 → Y2 → Y4 → Int → Z3} {k : Y2 → Y4 → Z3} {some1 : Y4} {p2 : Y2} {low5 : Y4} {z6 : Int} (cnt : Nat) (Inv : Nat → Bool → Prop) {res : Z3} (hn : cnt ≤ 500000000000)
  (hs : ∀ (rc : Y4 → Y2 → Y4 → Int → Bool → Int → Z3) (i : Nat) (all7 : Bool), i < cnt → Inv i all7 → (∀ (all7' : Bool), Inv (i + 1) all7' → rc some1 p2 low5 z6 all7' ((i + 1 : Nat) : Int) = res) → zz13_b7 rc (zz13_a7 rec) some1 p2 low5 z6 all7 (i : Int) = res)
  (he : ∀ (rc : Y4 → Y2 → Y4 → Int → Bool → Int → Z3) (all7 : Bool), Inv cnt all7 → zz13_b7 rc (zz13_a7 rec) some1 p2 low5 z6 all7 (cnt : Int) = res)
  (i0 : Nat) (hi : i0 ≤ cnt) (all7 : Bool) (h0 : Inv i0 all7) : zz13_F7 big rec k some1 p2 low5 z6 all7 (i0 : Int) = res := by
  have key : ∀ (m i : Nat) (all7 : Bool), i ≤ cnt → cnt < m + i → Inv i all7 → zz13_l7 big (zz13_a7 rec) m some1 p2 low5 z6 all7 (i : Int) = res := by
    intro m
    induction m with
    | zero => intro i all7 h1 h2 h3; exact absurd h2 (by omega)
    | succ m ih =>
      intro i all7 h1 h2 h3
      rcases Nat.lt_or_ge i cnt with hlt | hge
      · exact hs _ i all7 hlt h3 (fun all7' h4 => ih (i + 1) all7' (by omega) (by omega) h4)
      · obtain rfl : i = cnt := by omega
        exact he _ all7 h3
  exact key big i0 all7 hi (by have := big_ge; omega) h0
theorem zz13_h13 {p2 : Y2} {low5 : Y4} (cnt : Nat) (Inv : Nat → Prop) {res : Z3} (hn : cnt ≤ 500000000000)
  (hs : ∀ (rc : Y2 → Y4 → Int → Z3) (i : Nat), i < cnt → Inv i → (Inv (i + 1) → rc p2 low5 ((i + 1 : Nat) : Int) = res) → zz13_b13 rc zz13_a13 p2 low5 (i : Int) = res)
  (he : ∀ (rc : Y2 → Y4 → Int → Z3), Inv cnt → zz13_b13 rc zz13_a13 p2 low5 (cnt : Int) = res)
  (i0 : Nat) (hi : i0 ≤ cnt) (h0 : Inv i0) : zz13_F13 big p2 low5 (i0 : Int) = res := by
  have key : ∀ (m i : Nat), i ≤ cnt → cnt < m + i → Inv i → zz13_l13 big zz13_a13 m p2 low5 (i : Int) = res := by
    intro m
    induction m with
    | zero => intro i h1 h2 h3; exact absurd h2 (by omega)
    | succ m ih =>
      intro i h1 h2 h3
      rcases Nat.lt_or_ge i cnt with hlt | hge
      · exact hs _ i hlt h3 (fun h4 => ih (i + 1) (by omega) (by omega) h4)
      · obtain rfl : i = cnt := by omega
        exact he _ h3
  exact key big i0 hi (by have := big_ge; omega) h0
theorem zz14_h5 {p1 : Y2} {dual3 : Y2} (cnt : Nat) (Inv : Nat → Prop) {res : Z0} (hn : cnt ≤ 500000000000)
  (hs : ∀ (rc : Y2 → Y2 → Int → Z0) (i : Nat), i < cnt → Inv i → (Inv (i + 1) → rc p1 dual3 ((i + 1 : Nat) : Int) = res) → zz14_b5 (zz14_F8 big rc zz14_a5) zz14_a5 p1 dual3 (i : Int) = res)
  (he : ∀ (rc : Y2 → Y2 → Int → Z0), Inv cnt → zz14_b5 (zz14_F8 big rc zz14_a5) zz14_a5 p1 dual3 (cnt : Int) = res)
  (i0 : Nat) (hi : i0 ≤ cnt) (h0 : Inv i0) : zz14_F5 big p1 dual3 (i0 : Int) = res := by
  have key : ∀ (m i : Nat), i ≤ cnt → cnt < m + i → Inv i → zz14_l5 big zz14_a5 m p1 dual3 (i : Int) = res := by
    intro m
    induction m with
    | zero => intro i h1 h2 h3; exact absurd h2 (by omega)
    | succ m ih =>
      intro i h1 h2 h3
      rcases Nat.lt_or_ge i cnt with hlt | hge
      · exact hs _ i hlt h3 (fun h4 => ih (i + 1) (by omega) (by omega) h4)
      · obtain rfl : i = cnt := by omega
        exact he _ h3
  exact key big i0 hi (by have := big_ge; omega) h0
theorem zz14_h8 {rec : Y2 → Y2 → Int → Z0} {k : Z0} {p1 : Y2} {dual3 : Y2} {x4 : Int} (cnt : Nat) (Inv : Nat → Prop) {res : Z0} (hn : cnt ≤ 500000000000)
  (hs : ∀ (rc : Y2 → Y2 → Int → Int → Z0) (i : Nat), i < cnt → Inv i → (Inv (i + 1) → rc p1 dual3 x4 ((i + 1 : Nat) : Int) = res) → zz14_b8 rc (zz14_a8 rec) p1 dual3 x4 (i : Int) = res)
  (he : ∀ (rc : Y2 → Y2 → Int → Int → Z0), Inv cnt → zz14_b8 rc (zz14_a8 rec) p1 dual3 x4 (cnt : Int) = res)
  (i0 : Nat) (hi : i0 ≤ cnt) (h0 : Inv i0) : zz14_F8 big rec k p1 dual3 x4 (i0 : Int) = res := by
  have key : ∀ (m i : Nat), i ≤ cnt → cnt < m + i → Inv i → zz14_l8 big (zz14_a8 rec) m p1 dual3 x4 (i : Int) = res := by
    intro m
    induction m with
    | zero => intro i h1 h2 h3; exact absurd h2 (by omega)
    | succ m ih =>
      intro i h1 h2 h3
      rcases Nat.lt_or_ge i cnt with hlt | hge
      · exact hs _ i hlt h3 (fun h4 => ih (i + 1) (by omega) (by omega) h4)
      · obtain rfl : i = cnt := by omega
        exact he _ h3
  exact key big i0 hi (by have := big_ge; omega) h0
theorem zz16_h5 {p1 : Y2} {t2 : Y7} {n3 : Int} {dual4 : Y2} (cnt : Nat) (Inv : Nat → Y6 → Y6 → Prop) {res : Z8} (hn : cnt ≤ 500000000000)
  (hs : ∀ (rc : Y2 → Y7 → Int → Y2 → Y6 → Y6 → Int → Z8) (i : Nat) (meet5 join6 : Y6), i < cnt → Inv i meet5 join6 → (∀ (meet5' : Y6) (join6' : Y6), Inv (i + 1) meet5' join6' → rc p1 t2 n3 dual4 meet5' join6' ((i + 1 : Nat) : Int) = res) → zz16_b5 (zz16_F8 big rc zz16_a5) zz16_a5 p1 t2 n3 dual4 meet5 join6 (i : Int) = res)
  (he : ∀ (rc : Y2 → Y7 → Int → Y2 → Y6 → Y6 → Int → Z8) (meet5 join6 : Y6), Inv cnt meet5 join6 → zz16_b5 (zz16_F8 big rc zz16_a5) zz16_a5 p1 t2 n3 dual4 meet5 join6 (cnt : Int) = res)
  (i0 : Nat) (hi : i0 ≤ cnt) (meet5 join6 : Y6) (h0 : Inv i0 meet5 join6) : zz16_F5 big p1 t2 n3 dual4 meet5 join6 (i0 : Int) = res := by
  have key : ∀ (m i : Nat) (meet5 join6 : Y6), i ≤ cnt → cnt < m + i → Inv i meet5 join6 → zz16_l5 big zz16_a5 m p1 t2 n3 dual4 meet5 join6 (i : Int) = res := by
    intro m
    induction m with
    | zero => intro i meet5 join6 h1 h2 h3; exact absurd h2 (by omega)
    | succ m ih =>
      intro i meet5 join6 h1 h2 h3
      rcases Nat.lt_or_ge i cnt with hlt | hge
      · exact hs _ i meet5 join6 hlt h3 (fun meet5' join6' h4 => ih (i + 1) meet5' join6' (by omega) (by omega) h4)
      · obtain rfl : i = cnt := by omega
        exact he _ meet5 join6 h3
  exact key big i0 meet5 join6 hi (by have := big_ge; omega) h0
theorem zz16_h8 {rec : Y2 → Y7 → Int → Y2 → Y6 → Y6 → Int → Z8} {k : Y7 → Int → Y6 → Y6 → Z8} {p1 : Y2} {t2 : Y7} {n3 : Int} {dual4 : Y2} {x7 : Int} (cnt : Nat) (Inv : Nat → Y6 → Y6 → Prop) {res : Z8} (hn : cnt ≤ 500000000000)
  (hs : ∀ (rc : Y2 → Y7 → Int → Y2 → Y6 → Y6 → Int → Int → Z8) (i : Nat) (meet5 join6 : Y6), i < cnt → Inv i meet5 join6 → (∀ (meet5' : Y6) (join6' : Y6), Inv (i + 1) meet5' join6' → rc p1 t2 n3 dual4 meet5' join6' x7 ((i + 1 : Nat) : Int) = res) → zz16_b8 rc (zz16_a8 rec) p1 t2 n3 dual4 meet5 join6 x7 (i : Int) = res)
  (he : ∀ (rc : Y2 → Y7 → Int → Y2 → Y6 → Y6 → Int → Int → Z8) (meet5 join6 : Y6), Inv cnt meet5 join6 → zz16_b8 rc (zz16_a8 rec) p1 t2 n3 dual4 meet5 join6 x7 (cnt : Int) = res)
  (i0 : Nat) (hi : i0 ≤ cnt) (meet5 join6 : Y6) (h0 : Inv i0 meet5 join6) : zz16_F8 big rec k p1 t2 n3 dual4 meet5 join6 x7 (i0 : Int) = res := by
  have key : ∀ (m i : Nat) (meet5 join6 : Y6), i ≤ cnt → cnt < m + i → Inv i meet5 join6 → zz16_l8 big (zz16_a8 rec) m p1 t2 n3 dual4 meet5 join6 x7 (i : Int) = res := by
    intro m
    induction m with
    | zero => intro i meet5 join6 h1 h2 h3; exact absurd h2 (by omega)
    | succ m ih =>
      intro i meet5 join6 h1 h2 h3
      rcases Nat.lt_or_ge i cnt with hlt | hge
      · exact hs _ i meet5 join6 hlt h3 (fun meet5' join6' h4 => ih (i + 1) meet5' join6' (by omega) (by omega) h4)
      · obtain rfl : i = cnt := by omega
        exact he _ meet5 join6 h3
  exact key big i0 meet5 join6 hi (by have := big_ge; omega) h0
theorem zz17_h3 {n0 : Int} (cnt : Nat) (Inv : Nat → Y4 → Prop) {res : Z2} (hn : cnt ≤ 500000000000)
  (hs : ∀ (rc : Int → Y4 → Int → Z2) (i : Nat) (out3 : Y4), i < cnt → Inv i out3 → (∀ (out3' : Y4), Inv (i + 1) out3' → rc n0 out3' ((i + 1 : Nat) : Int) = res) → zz17_b3 rc zz17_a3 n0 out3 (i : Int) = res)
  (he : ∀ (rc : Int → Y4 → Int → Z2) (out3 : Y4), Inv cnt out3 → zz17_b3 rc zz17_a3 n0 out3 (cnt : Int) = res)
  (i0 : Nat) (hi : i0 ≤ cnt) (out3 : Y4) (h0 : Inv i0 out3) : zz17_F3 big n0 out3 (i0 : Int) = res := by
  have key : ∀ (m i : Nat) (out3 : Y4), i ≤ cnt → cnt < m + i → Inv i out3 → zz17_l3 big zz17_a3 m n0 out3 (i : Int) = res := by
    intro m
    induction m with
    | zero => intro i out3 h1 h2 h3; exact absurd h2 (by omega)
    | succ m ih =>
      intro i out3 h1 h2 h3
      rcases Nat.lt_or_ge i cnt with hlt | hge
      · exact hs _ i out3 hlt h3 (fun out3' h4 => ih (i + 1) out3' (by omega) (by omega) h4)
      · obtain rfl : i = cnt := by omega
        exact he _ out3 h3
  exact key big i0 out3 hi (by have := big_ge; omega) h0
theorem zz20_h4 {p0 : Y4} {low7 : Int} {high8 : Int} (cnt : Nat) (Inv : Nat → Y4 → Prop) {res : Z2} (hn : cnt ≤ 500000000000)
  (hs : ∀ (rc : Y4 → Int → Int → Y4 → Int → Z2) (i : Nat) (out9 : Y4), i < cnt → Inv i out9 → (∀ (out9' : Y4), Inv (i + 1) out9' → rc p0 low7 high8 out9' ((i + 1 : Nat) : Int) = res) → zz20_b4 rc zz20_a4 p0 low7 high8 out9 (i : Int) = res)
  (he : ∀ (rc : Y4 → Int → Int → Y4 → Int → Z2) (out9 : Y4), Inv cnt out9 → zz20_b4 rc zz20_a4 p0 low7 high8 out9 (cnt : Int) = res)
  (i0 : Nat) (hi : i0 ≤ cnt) (out9 : Y4) (h0 : Inv i0 out9) : zz20_F4 big p0 low7 high8 out9 (i0 : Int) = res := by
  have key : ∀ (m i : Nat) (out9 : Y4), i ≤ cnt → cnt < m + i → Inv i out9 → zz20_l4 big zz20_a4 m p0 low7 high8 out9 (i : Int) = res := by
    intro m
    induction m with
    | zero => intro i out9 h1 h2 h3; exact absurd h2 (by omega)
    | succ m ih =>
      intro i out9 h1 h2 h3
      rcases Nat.lt_or_ge i cnt with hlt | hge
      · exact hs _ i out9 hlt h3 (fun out9' h4 => ih (i + 1) out9' (by omega) (by omega) h4)
      · obtain rfl : i = cnt := by omega
        exact he _ out9 h3
  exact key big i0 out9 hi (by have := big_ge; omega) h0
theorem zz22_w3 {n0 : Int} (mu : Int → Y4 → Int → Nat) (Inv : Int → Y4 → Int → Prop) {res : Z2}
  (hs : ∀ (rc : Int → Int → Y4 → Int → Z2) (at2 : Int) (out7 : Y4) (i8 : Int), Inv at2 out7 i8 → (∀ (at2' : Int) (out7' : Y4) (i8' : Int), Inv at2' out7' i8' → mu at2' out7' i8' < mu at2 out7 i8 → rc n0 at2' out7' i8' = res) → zz22_b3 rc zz22_a3 n0 at2 out7 i8 = res)
  (at2 : Int) (out7 : Y4) (i8 : Int) (hm : mu at2 out7 i8 ≤ 500000000000) (h0 : Inv at2 out7 i8) : zz22_F3 big n0 at2 out7 i8 = res := by
  have key : ∀ (m : Nat) (at2 : Int) (out7 : Y4) (i8 : Int), mu at2 out7 i8 < m → Inv at2 out7 i8 → zz22_l3 big zz22_a3 m n0 at2 out7 i8 = res := by
    intro m
    induction m with
    | zero => intro at2 out7 i8 h2 h3; exact absurd h2 (by omega)
    | succ m ih =>
      intro at2 out7 i8 h2 h3
      exact hs _ at2 out7 i8 h3 (fun at2' out7' i8' h4 h5 => ih at2' out7' i8' (by omega) h4)
  exact key big at2 out7 i8 (by have := big_ge; omega) h0
theorem zz23_h3 {op1 : Int} {args2 : Y4} {a3 : Y7} (cnt : Nat) (Inv : Nat → Int → Prop) {res : Z3} (hn : cnt ≤ 500000000000)
  (hs : ∀ (rc : Int → Y4 → Y7 → Int → Int → Z3) (i : Nat) (at7 : Int), i < cnt → Inv i at7 → (∀ (at7' : Int), Inv (i + 1) at7' → rc op1 args2 a3 at7' ((i + 1 : Nat) : Int) = res) → zz23_b3 rc zz23_a3 op1 args2 a3 at7 (i : Int) = res)
  (he : ∀ (rc : Int → Y4 → Y7 → Int → Int → Z3) (at7 : Int), Inv cnt at7 → zz23_b3 rc zz23_a3 op1 args2 a3 at7 (cnt : Int) = res)
  (i0 : Nat) (hi : i0 ≤ cnt) (at7 : Int) (h0 : Inv i0 at7) : zz23_F3 big op1 args2 a3 at7 (i0 : Int) = res := by
  have key : ∀ (m i : Nat) (at7 : Int), i ≤ cnt → cnt < m + i → Inv i at7 → zz23_l3 big zz23_a3 m op1 args2 a3 at7 (i : Int) = res := by
    intro m
    induction m with
    | zero => intro i at7 h1 h2 h3; exact absurd h2 (by omega)
    | succ m ih =>
      intro i at7 h1 h2 h3
      rcases Nat.lt_or_ge i cnt with hlt | hge
      · exact hs _ i at7 hlt h3 (fun at7' h4 => ih (i + 1) at7' (by omega) (by omega) h4)
      · obtain rfl : i = cnt := by omega
        exact he _ at7 h3
  exact key big i0 at7 hi (by have := big_ge; omega) h0
theorem zz24_q3 {p1 : Y4} {a2 : Y7} (cnt : Nat) (Inv : Nat → Y4 → Prop) {Q : Z2 → Prop} (hn : cnt ≤ 500000000000)
  (hs : ∀ (rc : Y4 → Y7 → Y4 → Int → Z2) (i : Nat) (out5 : Y4), i < cnt → Inv i out5 → (∀ (out5' : Y4), Inv (i + 1) out5' → Q (rc p1 a2 out5' ((i + 1 : Nat) : Int))) → Q (zz24_b3 (zz24_F6 big rc zz24_a3) zz24_a3 p1 a2 out5 (i : Int)))
  (he : ∀ (rc : Y4 → Y7 → Y4 → Int → Z2) (out5 : Y4), Inv cnt out5 → Q (zz24_b3 (zz24_F6 big rc zz24_a3) zz24_a3 p1 a2 out5 (cnt : Int)))
  (i0 : Nat) (hi : i0 ≤ cnt) (out5 : Y4) (h0 : Inv i0 out5) : Q (zz24_F3 big p1 a2 out5 (i0 : Int)) := by
  have key : ∀ (m i : Nat) (out5 : Y4), i ≤ cnt → cnt < m + i → Inv i out5 → Q (zz24_l3 big zz24_a3 m p1 a2 out5 (i : Int)) := by
    intro m
    induction m with
    | zero => intro i out5 h1 h2 h3; exact absurd h2 (by omega)
    | succ m ih =>
      intro i out5 h1 h2 h3
      rcases Nat.lt_or_ge i cnt with hlt | hge
      · exact hs _ i out5 hlt h3 (fun out5' h4 => ih (i + 1) out5' (by omega) (by omega) h4)
      · obtain rfl : i = cnt := by omega
        exact he _ out5 h3
  exact key big i0 out5 hi (by have := big_ge; omega) h0
theorem zz24_q6 {rec : Y4 → Y7 → Y4 → Int → Z2} {k : Y4 → Z2} {p1 : Y4} {a2 : Y7} {op6 : Int} (cnt : Nat) (Inv : Nat → Y4 → Prop) {Q : Z2 → Prop} (hn : cnt ≤ 500000000000)
  (hs : ∀ (rc : Y4 → Y7 → Y4 → Int → Int → Z2) (i : Nat) (out5 : Y4), i < cnt → Inv i out5 → (∀ (out5' : Y4), Inv (i + 1) out5' → Q (rc p1 a2 out5' op6 ((i + 1 : Nat) : Int))) → Q (zz24_b6 (zz24_F10 big rc (zz24_a6 rec)) (zz24_a6 rec) p1 a2 out5 op6 (i : Int)))
  (he : ∀ (rc : Y4 → Y7 → Y4 → Int → Int → Z2) (out5 : Y4), Inv cnt out5 → Q (zz24_b6 (zz24_F10 big rc (zz24_a6 rec)) (zz24_a6 rec) p1 a2 out5 op6 (cnt : Int)))
  (i0 : Nat) (hi : i0 ≤ cnt) (out5 : Y4) (h0 : Inv i0 out5) : Q (zz24_F6 big rec k p1 a2 out5 op6 (i0 : Int)) := by
  have key : ∀ (m i : Nat) (out5 : Y4), i ≤ cnt → cnt < m + i → Inv i out5 → Q (zz24_l6 big (zz24_a6 rec) m p1 a2 out5 op6 (i : Int)) := by
    intro m
    induction m with
    | zero => intro i out5 h1 h2 h3; exact absurd h2 (by omega)
    | succ m ih =>
      intro i out5 h1 h2 h3
      rcases Nat.lt_or_ge i cnt with hlt | hge
      · exact hs _ i out5 hlt h3 (fun out5' h4 => ih (i + 1) out5' (by omega) (by omega) h4)
      · obtain rfl : i = cnt := by omega
        exact he _ out5 h3
  exact key big i0 out5 hi (by have := big_ge; omega) h0
theorem zz24_q10 {rec : Y4 → Y7 → Y4 → Int → Int → Z2} {k : Y4 → Y7 → Y4 → Int → Z2} {p1 : Y4} {a2 : Y7} {op6 : Int} {at7 : Int} {args8 : Y4} (cnt : Nat) (Inv : Nat → Y4 → Prop) {Q : Z2 → Prop} (hn : cnt ≤ 500000000000)
  (hs : ∀ (rc : Y4 → Y7 → Y4 → Int → Int → Y4 → Int → Z2) (i : Nat) (out5 : Y4), i < cnt → Inv i out5 → (∀ (out5' : Y4), Inv (i + 1) out5' → Q (rc p1 a2 out5' op6 at7 args8 ((i + 1 : Nat) : Int))) → Q (zz24_b10 rc (zz24_a10 rec) p1 a2 out5 op6 at7 args8 (i : Int)))
  (he : ∀ (rc : Y4 → Y7 → Y4 → Int → Int → Y4 → Int → Z2) (out5 : Y4), Inv cnt out5 → Q (zz24_b10 rc (zz24_a10 rec) p1 a2 out5 op6 at7 args8 (cnt : Int)))
  (i0 : Nat) (hi : i0 ≤ cnt) (out5 : Y4) (h0 : Inv i0 out5) : Q (zz24_F10 big rec k p1 a2 out5 op6 at7 args8 (i0 : Int)) := by
  have key : ∀ (m i : Nat) (out5 : Y4), i ≤ cnt → cnt < m + i → Inv i out5 → Q (zz24_l10 big (zz24_a10 rec) m p1 a2 out5 op6 at7 args8 (i : Int)) := by
    intro m
    induction m with
    | zero => intro i out5 h1 h2 h3; exact absurd h2 (by omega)
    | succ m ih =>
      intro i out5 h1 h2 h3
      rcases Nat.lt_or_ge i cnt with hlt | hge
      · exact hs _ i out5 hlt h3 (fun out5' h4 => ih (i + 1) out5' (by omega) (by omega) h4)
      · obtain rfl : i = cnt := by omega
        exact he _ out5 h3
  exact key big i0 out5 hi (by have := big_ge; omega) h0
theorem zz25_q2 {a2 : Y7} (cnt : Nat) (Inv : Nat → Y4 → Prop) {Q : Z2 → Prop} (hn : cnt ≤ 500000000000)
  (hs : ∀ (rc : Y4 → Y7 → Int → Z2) (i : Nat) (p1 : Y4), i < cnt → Inv i p1 → (∀ (p1' : Y4), Inv (i + 1) p1' → Q (rc p1' a2 ((i + 1 : Nat) : Int))) → Q (zz25_b2 rc zz25_a2 p1 a2 (i : Int)))
  (he : ∀ (rc : Y4 → Y7 → Int → Z2) (p1 : Y4), Inv cnt p1 → Q (zz25_b2 rc zz25_a2 p1 a2 (cnt : Int)))
  (i0 : Nat) (hi : i0 ≤ cnt) (p1 : Y4) (h0 : Inv i0 p1) : Q (zz25_F2 big p1 a2 (i0 : Int)) := by
  have key : ∀ (m i : Nat) (p1 : Y4), i ≤ cnt → cnt < m + i → Inv i p1 → Q (zz25_l2 big zz25_a2 m p1 a2 (i : Int)) := by
    intro m
    induction m with
    | zero => intro i p1 h1 h2 h3; exact absurd h2 (by omega)
    | succ m ih =>
      intro i p1 h1 h2 h3
      rcases Nat.lt_or_ge i cnt with hlt | hge
      · exact hs _ i p1 hlt h3 (fun p1' h4 => ih (i + 1) p1' (by omega) (by omega) h4)
      · obtain rfl : i = cnt := by omega
        exact he _ p1 h3
  exact key big i0 p1 hi (by have := big_ge; omega) h0
theorem zz27_h3 {p0 : Y4} (cnt : Nat) (Inv : Nat → Int → Prop) {res : Z3} (hn : cnt ≤ 500000000000)
  (hs : ∀ (rc : Y4 → Int → Int → Z3) (i : Nat) (n3 : Int), i < cnt → Inv i n3 → (∀ (n3' : Int), Inv (i + 1) n3' → rc p0 n3' ((i + 1 : Nat) : Int) = res) → zz27_b3 rc zz27_a3 p0 n3 (i : Int) = res)
  (he : ∀ (rc : Y4 → Int → Int → Z3) (n3 : Int), Inv cnt n3 → zz27_b3 rc zz27_a3 p0 n3 (cnt : Int) = res)
  (i0 : Nat) (hi : i0 ≤ cnt) (n3 : Int) (h0 : Inv i0 n3) : zz27_F3 big p0 n3 (i0 : Int) = res := by
  have key : ∀ (m i : Nat) (n3 : Int), i ≤ cnt → cnt < m + i → Inv i n3 → zz27_l3 big zz27_a3 m p0 n3 (i : Int) = res := by
    intro m
    induction m with
    | zero => intro i n3 h1 h2 h3; exact absurd h2 (by omega)
    | succ m ih =>
      intro i n3 h1 h2 h3
      rcases Nat.lt_or_ge i cnt with hlt | hge
      · exact hs _ i n3 hlt h3 (fun n3' h4 => ih (i + 1) n3' (by omega) (by omega) h4)
      · obtain rfl : i = cnt := by omega
        exact he _ n3 h3
  exact key big i0 n3 hi (by have := big_ge; omega) h0
theorem zz28_h2 {a0 : Y4} {b1 : Y4} (cnt : Nat) (Inv : Nat → Prop) {res : Z0} (hn : cnt ≤ 500000000000)
  (hs : ∀ (rc : Y4 → Y4 → Int → Z0) (i : Nat), i < cnt → Inv i → (Inv (i + 1) → rc a0 b1 ((i + 1 : Nat) : Int) = res) → zz28_b2 rc zz28_a2 a0 b1 (i : Int) = res)
  (he : ∀ (rc : Y4 → Y4 → Int → Z0), Inv cnt → zz28_b2 rc zz28_a2 a0 b1 (cnt : Int) = res)
  (i0 : Nat) (hi : i0 ≤ cnt) (h0 : Inv i0) : zz28_F2 big a0 b1 (i0 : Int) = res := by
  have key : ∀ (m i : Nat), i ≤ cnt → cnt < m + i → Inv i → zz28_l2 big zz28_a2 m a0 b1 (i : Int) = res := by
    intro m
    induction m with
    | zero => intro i h1 h2 h3; exact absurd h2 (by omega)
    | succ m ih =>
      intro i h1 h2 h3
      rcases Nat.lt_or_ge i cnt with hlt | hge
      · exact hs _ i hlt h3 (fun h4 => ih (i + 1) (by omega) (by omega) h4)
      · obtain rfl : i = cnt := by omega
        exact he _ h3
  exact key big i0 hi (by have := big_ge; omega) h0
theorem zz29_h4 {a0 : Y4} {b1 : Y4} (cnt : Nat) (Inv : Nat → Prop) {res : Z0} (hn : cnt ≤ 500000000000)
  (hs : ∀ (rc : Y4 → Y4 → Int → Z0) (i : Nat), i < cnt → Inv i → (Inv (i + 1) → rc a0 b1 ((i + 1 : Nat) : Int) = res) → zz29_b4 rc zz29_a4 a0 b1 (i : Int) = res)
  (he : ∀ (rc : Y4 → Y4 → Int → Z0), Inv cnt → zz29_b4 rc zz29_a4 a0 b1 (cnt : Int) = res)
  (i0 : Nat) (hi : i0 ≤ cnt) (h0 : Inv i0) : zz29_F4 big a0 b1 (i0 : Int) = res := by
  have key : ∀ (m i : Nat), i ≤ cnt → cnt < m + i → Inv i → zz29_l4 big zz29_a4 m a0 b1 (i : Int) = res := by
    intro m
    induction m with
    | zero => intro i h1 h2 h3; exact absurd h2 (by omega)
    | succ m ih =>
      intro i h1 h2 h3
      rcases Nat.lt_or_ge i cnt with hlt | hge
      · exact hs _ i hlt h3 (fun h4 => ih (i + 1) (by omega) (by omega) h4)
      · obtain rfl : i = cnt := by omega
        exact he _ h3
  exact key big i0 hi (by have := big_ge; omega) h0
theorem zz30_h2 {list0 : Y3} {p1 : Y4} (cnt : Nat) (Inv : Nat → Prop) {res : Option Y2} (hn : cnt ≤ 500000000000)
  (hs : ∀ (rc : Y3 → Y4 → Int → Option Y2) (i : Nat), i < cnt → Inv i → (Inv (i + 1) → rc list0 p1 ((i + 1 : Nat) : Int) = res) → zz30_b2 rc zz30_a2 list0 p1 (i : Int) = res)
  (he : ∀ (rc : Y3 → Y4 → Int → Option Y2), Inv cnt → zz30_b2 rc zz30_a2 list0 p1 (cnt : Int) = res)
  (i0 : Nat) (hi : i0 ≤ cnt) (h0 : Inv i0) : zz30_F2 big list0 p1 (i0 : Int) = res := by
  have key : ∀ (m i : Nat), i ≤ cnt → cnt < m + i → Inv i → zz30_l2 big zz30_a2 m list0 p1 (i : Int) = res := by
    intro m
    induction m with
    | zero => intro i h1 h2 h3; exact absurd h2 (by omega)
    | succ m ih =>
      intro i h1 h2 h3
      rcases Nat.lt_or_ge i cnt with hlt | hge
      · exact hs _ i hlt h3 (fun h4 => ih (i + 1) (by omega) (by omega) h4)
      · obtain rfl : i = cnt := by omega
        exact he _ h3
  exact key big i0 hi (by have := big_ge; omega) h0
theorem zz31_h3 {q1 : Y4} (cnt : Nat) (Inv : Nat → Y4 → Prop) {res : Z2} (hn : cnt ≤ 500000000000)
  (hs : ∀ (rc : Y4 → Y4 → Int → Z2) (i : Nat) (out5 : Y4), i < cnt → Inv i out5 → (∀ (out5' : Y4), Inv (i + 1) out5' → rc q1 out5' ((i + 1 : Nat) : Int) = res) → zz31_b3 rc zz31_a3 q1 out5 (i : Int) = res)
  (he : ∀ (rc : Y4 → Y4 → Int → Z2) (out5 : Y4), Inv cnt out5 → zz31_b3 rc zz31_a3 q1 out5 (cnt : Int) = res)
  (i0 : Nat) (hi : i0 ≤ cnt) (out5 : Y4) (h0 : Inv i0 out5) : zz31_F3 big q1 out5 (i0 : Int) = res := by
  have key : ∀ (m i : Nat) (out5 : Y4), i ≤ cnt → cnt < m + i → Inv i out5 → zz31_l3 big zz31_a3 m q1 out5 (i : Int) = res := by
    intro m
    induction m with
    | zero => intro i out5 h1 h2 h3; exact absurd h2 (by omega)
    | succ m ih =>
      intro i out5 h1 h2 h3
      rcases Nat.lt_or_ge i cnt with hlt | hge
      · exact hs _ i out5 hlt h3 (fun out5' h4 => ih (i + 1) out5' (by omega) (by omega) h4)
      · obtain rfl : i = cnt := by omega
        exact he _ out5 h3
  exact key big i0 out5 hi (by have := big_ge; omega) h0
theorem zz32_h3 {most1 : Int} {a2 : Y7} (cnt : Nat) (Inv : Nat → Y3 → Prop) {res : Option Y2} (hn : cnt ≤ 500000000000)
  (hs : ∀ (rc : Int → Y7 → Y3 → Int → Option Y2) (i : Nat) (principal5 : Y3), i < cnt → Inv i principal5 → (∀ (principal5' : Y3), Inv (i + 1) principal5' → rc most1 a2 principal5' ((i + 1 : Nat) : Int) = res) → zz32_b3 (zz32_F6 big rc (zz32_a3 (zz32_F12 big))) (zz32_a3 (zz32_F12 big)) most1 a2 principal5 (i : Int) = res)
  (he : ∀ (rc : Int → Y7 → Y3 → Int → Option Y2) (principal5 : Y3), Inv cnt principal5 → zz32_b3 (zz32_F6 big rc (zz32_a3 (zz32_F12 big))) (zz32_a3 (zz32_F12 big)) most1 a2 principal5 (cnt : Int) = res)
  (i0 : Nat) (hi : i0 ≤ cnt) (principal5 : Y3) (h0 : Inv i0 principal5) : zz32_F3 big most1 a2 principal5 (i0 : Int) = res := by
  have key : ∀ (m i : Nat) (principal5 : Y3), i ≤ cnt → cnt < m + i → Inv i principal5 → zz32_l3 big (zz32_a3 (zz32_F12 big)) m most1 a2 principal5 (i : Int) = res := by
    intro m
    induction m with
    | zero => intro i principal5 h1 h2 h3; exact absurd h2 (by omega)
    | succ m ih =>
      intro i principal5 h1 h2 h3
      rcases Nat.lt_or_ge i cnt with hlt | hge
      · exact hs _ i principal5 hlt h3 (fun principal5' h4 => ih (i + 1) principal5' (by omega) (by omega) h4)
      · obtain rfl : i = cnt := by omega
        exact he _ principal5 h3
  exact key big i0 principal5 hi (by have := big_ge; omega) h0
theorem zz32_h6 {rec : Int → Y7 → Y3 → Int → Option Y2} {k : Int → Y7 → Y3 → Option Y2} {most1 : Int} {a2 : Y7} {x6 : Int} (cnt : Nat) (Inv : Nat → Y3 → Prop) {res : Option Y2} (hn : cnt ≤ 500000000000)
  (hs : ∀ (rc : Int → Y7 → Y3 → Int → Int → Option Y2) (i : Nat) (principal5 : Y3), i < cnt → Inv i principal5 → (∀ (principal5' : Y3), Inv (i + 1) principal5' → rc most1 a2 principal5' x6 ((i + 1 : Nat) : Int) = res) → zz32_b6 rc (zz32_a6 rec) most1 a2 principal5 x6 (i : Int) = res)
  (he : ∀ (rc : Int → Y7 → Y3 → Int → Int → Option Y2) (principal5 : Y3), Inv cnt principal5 → zz32_b6 rc (zz32_a6 rec) most1 a2 principal5 x6 (cnt : Int) = res)
  (i0 : Nat) (hi : i0 ≤ cnt) (principal5 : Y3) (h0 : Inv i0 principal5) : zz32_F6 big rec k most1 a2 principal5 x6 (i0 : Int) = res := by
  have key : ∀ (m i : Nat) (principal5 : Y3), i ≤ cnt → cnt < m + i → Inv i principal5 → zz32_l6 big (zz32_a6 rec) m most1 a2 principal5 x6 (i : Int) = res := by
    intro m
    induction m with
    | zero => intro i principal5 h1 h2 h3; exact absurd h2 (by omega)
    | succ m ih =>
      intro i principal5 h1 h2 h3
      rcases Nat.lt_or_ge i cnt with hlt | hge
      · exact hs _ i principal5 hlt h3 (fun principal5' h4 => ih (i + 1) principal5' (by omega) (by omega) h4)
      · obtain rfl : i = cnt := by omega
        exact he _ principal5 h3
  exact key big i0 principal5 hi (by have := big_ge; omega) h0
theorem zz32_h12 {most1 : Int} {principal5 : Y3} (cnt : Nat) (Inv : Nat → Y3 → Y3 → Prop) {res : Option Y2} (hn : cnt ≤ 500000000000)
  (hs : ∀ (rc : Int → Y3 → Y3 → Y3 → Int → Option Y2) (i : Nat) (out8 line9 : Y3), i < cnt → Inv i out8 line9 → (∀ (out8' : Y3) (line9' : Y3), Inv (i + 1) out8' line9' → rc most1 principal5 out8' line9' ((i + 1 : Nat) : Int) = res) → zz32_b12 (zz32_F15 big rc zz32_a12) zz32_a12 most1 principal5 out8 line9 (i : Int) = res)
  (he : ∀ (rc : Int → Y3 → Y3 → Y3 → Int → Option Y2) (out8 line9 : Y3), Inv cnt out8 line9 → zz32_b12 (zz32_F15 big rc zz32_a12) zz32_a12 most1 principal5 out8 line9 (cnt : Int) = res)
  (i0 : Nat) (hi : i0 ≤ cnt) (out8 line9 : Y3) (h0 : Inv i0 out8 line9) : zz32_F12 big most1 principal5 out8 line9 (i0 : Int) = res := by
  have key : ∀ (m i : Nat) (out8 line9 : Y3), i ≤ cnt → cnt < m + i → Inv i out8 line9 → zz32_l12 big zz32_a12 m most1 principal5 out8 line9 (i : Int) = res := by
    intro m
    induction m with
    | zero => intro i out8 line9 h1 h2 h3; exact absurd h2 (by omega)
    | succ m ih =>
      intro i out8 line9 h1 h2 h3
      rcases Nat.lt_or_ge i cnt with hlt | hge
      · exact hs _ i out8 line9 hlt h3 (fun out8' line9' h4 => ih (i + 1) out8' line9' (by omega) (by omega) h4)
      · obtain rfl : i = cnt := by omega
        exact he _ out8 line9 h3
  exact key big i0 out8 line9 hi (by have := big_ge; omega) h0
theorem zz32_h15 {rec : Int → Y3 → Y3 → Y3 → Int → Option Y2} {k : Y3 → Option Y2} {most1 : Int} {principal5 : Y3} {n10 : Int} {t46 : Int} {t47 : Int} {t48 : Bool} (cnt : Nat) (Inv : Nat → Y3 → Y3 → Prop) {res : Option Y2} (hn : cnt ≤ 500000000000)
  (hs : ∀ (rc : Int → Y3 → Y3 → Y3 → Int → Int → Int → Int → Bool → Option Y2) (i : Nat) (out8 line9 : Y3), i < cnt → Inv i out8 line9 → (∀ (out8' : Y3) (line9' : Y3), Inv (i + 1) out8' line9' → rc most1 principal5 out8' line9' n10 ((i + 1 : Nat) : Int) t46 t47 t48 = res) → zz32_b15 rc (zz32_a15 rec) most1 principal5 out8 line9 n10 (i : Int) t46 t47 t48 = res)
  (he : ∀ (rc : Int → Y3 → Y3 → Y3 → Int → Int → Int → Int → Bool → Option Y2) (out8 line9 : Y3), Inv cnt out8 line9 → zz32_b15 rc (zz32_a15 rec) most1 principal5 out8 line9 n10 (cnt : Int) t46 t47 t48 = res)
  (i0 : Nat) (hi : i0 ≤ cnt) (out8 line9 : Y3) (h0 : Inv i0 out8 line9) : zz32_F15 big rec k most1 principal5 out8 line9 n10 (i0 : Int) t46 t47 t48 = res := by
  have key : ∀ (m i : Nat) (out8 line9 : Y3), i ≤ cnt → cnt < m + i → Inv i out8 line9 → zz32_l15 big (zz32_a15 rec) m most1 principal5 out8 line9 n10 (i : Int) t46 t47 t48 = res := by
    intro m
    induction m with
    | zero => intro i out8 line9 h1 h2 h3; exact absurd h2 (by omega)
    | succ m ih =>
      intro i out8 line9 h1 h2 h3
      rcases Nat.lt_or_ge i cnt with hlt | hge
      · exact hs _ i out8 line9 hlt h3 (fun out8' line9' h4 => ih (i + 1) out8' line9' (by omega) (by omega) h4)
      · obtain rfl : i = cnt := by omega
        exact he _ out8 line9 h3
  exact key big i0 out8 line9 hi (by have := big_ge; omega) h0
theorem zz35_h3 {n0 : Int} {t8 : Int} (cnt : Nat) (Inv : Nat → Y5 → Prop) {res : Z6} (hn : cnt ≤ 500000000000)
  (hs : ∀ (rc : Int → Y5 → Int → Int → Z6) (i : Nat) (o3 : Y5), i < cnt → Inv i o3 → (∀ (o3' : Y5), Inv (i + 1) o3' → rc n0 o3' t8 ((i + 1 : Nat) : Int) = res) → zz35_b3 rc zz35_a3 n0 o3 t8 (i : Int) = res)
  (he : ∀ (rc : Int → Y5 → Int → Int → Z6) (o3 : Y5), Inv cnt o3 → zz35_b3 rc zz35_a3 n0 o3 t8 (cnt : Int) = res)
  (i0 : Nat) (hi : i0 ≤ cnt) (o3 : Y5) (h0 : Inv i0 o3) : zz35_F3 big n0 o3 t8 (i0 : Int) = res := by
  have key : ∀ (m i : Nat) (o3 : Y5), i ≤ cnt → cnt < m + i → Inv i o3 → zz35_l3 big zz35_a3 m n0 o3 t8 (i : Int) = res := by
    intro m
    induction m with
    | zero => intro i o3 h1 h2 h3; exact absurd h2 (by omega)
    | succ m ih =>
      intro i o3 h1 h2 h3
      rcases Nat.lt_or_ge i cnt with hlt | hge
      · exact hs _ i o3 hlt h3 (fun o3' h4 => ih (i + 1) o3' (by omega) (by omega) h4)
      · obtain rfl : i = cnt := by omega
        exact he _ o3 h3
  exact key big i0 o3 hi (by have := big_ge; omega) h0
theorem zz38_h2 {o0 : Y5} {t7 : Int} (cnt : Nat) (Inv : Nat → Prop) {res : Z0} (hn : cnt ≤ 500000000000)
  (hs : ∀ (rc : Y5 → Int → Int → Z0) (i : Nat), i < cnt → Inv i → (Inv (i + 1) → rc o0 t7 ((i + 1 : Nat) : Int) = res) → zz38_b2 (zz38_F7 big rc zz38_a2) zz38_a2 o0 t7 (i : Int) = res)
  (he : ∀ (rc : Y5 → Int → Int → Z0), Inv cnt → zz38_b2 (zz38_F7 big rc zz38_a2) zz38_a2 o0 t7 (cnt : Int) = res)
  (i0 : Nat) (hi : i0 ≤ cnt) (h0 : Inv i0) : zz38_F2 big o0 t7 (i0 : Int) = res := by
  have key : ∀ (m i : Nat), i ≤ cnt → cnt < m + i → Inv i → zz38_l2 big zz38_a2 m o0 t7 (i : Int) = res := by
    intro m
    induction m with
    | zero => intro i h1 h2 h3; exact absurd h2 (by omega)
    | succ m ih =>
      intro i h1 h2 h3
      rcases Nat.lt_or_ge i cnt with hlt | hge
      · exact hs _ i hlt h3 (fun h4 => ih (i + 1) (by omega) (by omega) h4)
      · obtain rfl : i = cnt := by omega
        exact he _ h3
  exact key big i0 hi (by have := big_ge; omega) h0
theorem zz38_h7 {rec : Y5 → Int → Int → Z0} {k : Z0} {o0 : Y5} {x3 : Int} {t7 : Int} {t8 : Int} {t20 : Int} (cnt : Nat) (Inv : Nat → Prop) {res : Z0} (hn : cnt ≤ 500000000000)
  (hs : ∀ (rc : Y5 → Int → Int → Int → Int → Int → Z0) (i : Nat), i < cnt → Inv i → (Inv (i + 1) → rc o0 x3 t7 t8 t20 ((i + 1 : Nat) : Int) = res) → zz38_b7 (zz38_F12 big rc (zz38_a7 rec)) (zz38_a7 rec) o0 x3 t7 t8 t20 (i : Int) = res)
  (he : ∀ (rc : Y5 → Int → Int → Int → Int → Int → Z0), Inv cnt → zz38_b7 (zz38_F12 big rc (zz38_a7 rec)) (zz38_a7 rec) o0 x3 t7 t8 t20 (cnt : Int) = res)
  (i0 : Nat) (hi : i0 ≤ cnt) (h0 : Inv i0) : zz38_F7 big rec k o0 x3 t7 t8 t20 (i0 : Int) = res := by
  have key : ∀ (m i : Nat), i ≤ cnt → cnt < m + i → Inv i → zz38_l7 big (zz38_a7 rec) m o0 x3 t7 t8 t20 (i : Int) = res := by
    intro m
    induction m with
    | zero => intro i h1 h2 h3; exact absurd h2 (by omega)
    | succ m ih =>
      intro i h1 h2 h3
      rcases Nat.lt_or_ge i cnt with hlt | hge
      · exact hs _ i hlt h3 (fun h4 => ih (i + 1) (by omega) (by omega) h4)
      · obtain rfl : i = cnt := by omega
        exact he _ h3
  exact key big i0 hi (by have := big_ge; omega) h0
theorem zz38_h12 {rec : Y5 → Int → Int → Int → Int → Int → Z0} {k : Y5 → Int → Int → Z0} {o0 : Y5} {x3 : Int} {y4 : Int} {t7 : Int} {t8 : Int} {t20 : Int} {t21 : Int} {t46 : Int} (cnt : Nat) (Inv : Nat → Prop) {res : Z0} (hn : cnt ≤ 500000000000)
  (hs : ∀ (rc : Y5 → Int → Int → Int → Int → Int → Int → Int → Int → Z0) (i : Nat), i < cnt → Inv i → (Inv (i + 1) → rc o0 x3 y4 t7 t8 t20 t21 t46 ((i + 1 : Nat) : Int) = res) → zz38_b12 rc (zz38_a12 rec) o0 x3 y4 t7 t8 t20 t21 t46 (i : Int) = res)
  (he : ∀ (rc : Y5 → Int → Int → Int → Int → Int → Int → Int → Int → Z0), Inv cnt → zz38_b12 rc (zz38_a12 rec) o0 x3 y4 t7 t8 t20 t21 t46 (cnt : Int) = res)
  (i0 : Nat) (hi : i0 ≤ cnt) (h0 : Inv i0) : zz38_F12 big rec k o0 x3 y4 t7 t8 t20 t21 t46 (i0 : Int) = res := by
  have key : ∀ (m i : Nat), i ≤ cnt → cnt < m + i → Inv i → zz38_l12 big (zz38_a12 rec) m o0 x3 y4 t7 t8 t20 t21 t46 (i : Int) = res := by
    intro m
    induction m with
    | zero => intro i h1 h2 h3; exact absurd h2 (by omega)
    | succ m ih =>
      intro i h1 h2 h3
      rcases Nat.lt_or_ge i cnt with hlt | hge
      · exact hs _ i hlt h3 (fun h4 => ih (i + 1) (by omega) (by omega) h4)
      · obtain rfl : i = cnt := by omega
        exact he _ h3
  exact key big i0 hi (by have := big_ge; omega) h0
theorem zz39_h6 {n4 : Int} {t18 : Y3} {t19 : Int} (cnt : Nat) (Inv : Nat → Y5 → Prop) {res : Z5} (hn : cnt ≤ 500000000000)
  (hs : ∀ (rc : Int → Y5 → Y3 → Int → Int → Z5) (i : Nat) (o5 : Y5), i < cnt → Inv i o5 → (∀ (o5' : Y5), Inv (i + 1) o5' → rc n4 o5' t18 t19 ((i + 1 : Nat) : Int) = res) → zz39_b6 (zz39_F11 big rc zz39_a6) zz39_a6 n4 o5 t18 t19 (i : Int) = res)
  (he : ∀ (rc : Int → Y5 → Y3 → Int → Int → Z5) (o5 : Y5), Inv cnt o5 → zz39_b6 (zz39_F11 big rc zz39_a6) zz39_a6 n4 o5 t18 t19 (cnt : Int) = res)
  (i0 : Nat) (hi : i0 ≤ cnt) (o5 : Y5) (h0 : Inv i0 o5) : zz39_F6 big n4 o5 t18 t19 (i0 : Int) = res := by
  have key : ∀ (m i : Nat) (o5 : Y5), i ≤ cnt → cnt < m + i → Inv i o5 → zz39_l6 big zz39_a6 m n4 o5 t18 t19 (i : Int) = res := by
    intro m
    induction m with
    | zero => intro i o5 h1 h2 h3; exact absurd h2 (by omega)
    | succ m ih =>
      intro i o5 h1 h2 h3
      rcases Nat.lt_or_ge i cnt with hlt | hge
      · exact hs _ i o5 hlt h3 (fun o5' h4 => ih (i + 1) o5' (by omega) (by omega) h4)
      · obtain rfl : i = cnt := by omega
        exact he _ o5 h3
  exact key big i0 o5 hi (by have := big_ge; omega) h0
theorem zz39_h11 {rec : Int → Y5 → Y3 → Int → Int → Z5} {k : Y5 → Z5} {n4 : Int} {x6 : Int} {t18 : Y3} {t19 : Int} {t20 : Int} {t29 : Y4} {t30 : Int} {t31 : Bool} {t32 : Bool} {t34 : Y4} {t35 : Int} (cnt : Nat) (Inv : Nat → Y5 → Prop) {res : Z5} (hn : cnt ≤ 500000000000)
  (hs : ∀ (rc : Int → Y5 → Int → Y3 → Int → Int → Y4 → Int → Bool → Bool → Y4 → Int → Int → Z5) (i : Nat) (o5 : Y5), i < cnt → Inv i o5 → (∀ (o5' : Y5), Inv (i + 1) o5' → rc n4 o5' x6 t18 t19 t20 t29 t30 t31 t32 t34 t35 ((i + 1 : Nat) : Int) = res) → zz39_b11 rc (zz39_a11 rec) n4 o5 x6 t18 t19 t20 t29 t30 t31 t32 t34 t35 (i : Int) = res)
  (he : ∀ (rc : Int → Y5 → Int → Y3 → Int → Int → Y4 → Int → Bool → Bool → Y4 → Int → Int → Z5) (o5 : Y5), Inv cnt o5 → zz39_b11 rc (zz39_a11 rec) n4 o5 x6 t18 t19 t20 t29 t30 t31 t32 t34 t35 (cnt : Int) = res)
  (i0 : Nat) (hi : i0 ≤ cnt) (o5 : Y5) (h0 : Inv i0 o5) : zz39_F11 big rec k n4 o5 x6 t18 t19 t20 t29 t30 t31 t32 t34 t35 (i0 : Int) = res := by
  have key : ∀ (m i : Nat) (o5 : Y5), i ≤ cnt → cnt < m + i → Inv i o5 → zz39_l11 big (zz39_a11 rec) m n4 o5 x6 t18 t19 t20 t29 t30 t31 t32 t34 t35 (i : Int) = res := by
    intro m
    induction m with
    | zero => intro i o5 h1 h2 h3; exact absurd h2 (by omega)
    | succ m ih =>
      intro i o5 h1 h2 h3
      rcases Nat.lt_or_ge i cnt with hlt | hge
      · exact hs _ i o5 hlt h3 (fun o5' h4 => ih (i + 1) o5' (by omega) (by omega) h4)
      · obtain rfl : i = cnt := by omega
        exact he _ o5 h3
  exact key big i0 o5 hi (by have := big_ge; omega) h0
theorem zz40_h2 {o0 : Y5} {list1 : Y4} {t10 : Y4} {t11 : Int} (cnt : Nat) (Inv : Nat → Prop) {res : Z3} (hn : cnt ≤ 500000000000)
  (hs : ∀ (rc : Y5 → Y4 → Y4 → Int → Int → Z3) (i : Nat), i < cnt → Inv i → (Inv (i + 1) → rc o0 list1 t10 t11 ((i + 1 : Nat) : Int) = res) → zz40_b2 (zz40_F6 big rc zz40_a2) zz40_a2 o0 list1 t10 t11 (i : Int) = res)
  (he : ∀ (rc : Y5 → Y4 → Y4 → Int → Int → Z3), Inv cnt → zz40_b2 (zz40_F6 big rc zz40_a2) zz40_a2 o0 list1 t10 t11 (cnt : Int) = res)
  (i0 : Nat) (hi : i0 ≤ cnt) (h0 : Inv i0) : zz40_F2 big o0 list1 t10 t11 (i0 : Int) = res := by
  have key : ∀ (m i : Nat), i ≤ cnt → cnt < m + i → Inv i → zz40_l2 big zz40_a2 m o0 list1 t10 t11 (i : Int) = res := by
    intro m
    induction m with
    | zero => intro i h1 h2 h3; exact absurd h2 (by omega)
    | succ m ih =>
      intro i h1 h2 h3
      rcases Nat.lt_or_ge i cnt with hlt | hge
      · exact hs _ i hlt h3 (fun h4 => ih (i + 1) (by omega) (by omega) h4)
      · obtain rfl : i = cnt := by omega
        exact he _ h3
  exact key big i0 hi (by have := big_ge; omega) h0
theorem zz40_h6 {rec : Y5 → Y4 → Y4 → Int → Int → Z3} {k : Z3} {o0 : Y5} {list1 : Y4} {x6 : Int} {t10 : Y4} {t11 : Int} {t12 : Int} {t16 : Y4} {t17 : Int} (cnt : Nat) (Inv : Nat → Bool → Prop) {res : Z3} (hn : cnt ≤ 500000000000)
  (hs : ∀ (rc : Y5 → Y4 → Int → Bool → Y4 → Int → Int → Y4 → Int → Int → Z3) (i : Nat) (top7 : Bool), i < cnt → Inv i top7 → (∀ (top7' : Bool), Inv (i + 1) top7' → rc o0 list1 x6 top7' t10 t11 t12 t16 t17 ((i + 1 : Nat) : Int) = res) → zz40_b6 rc (zz40_a6 rec) o0 list1 x6 top7 t10 t11 t12 t16 t17 (i : Int) = res)
  (he : ∀ (rc : Y5 → Y4 → Int → Bool → Y4 → Int → Int → Y4 → Int → Int → Z3) (top7 : Bool), Inv cnt top7 → zz40_b6 rc (zz40_a6 rec) o0 list1 x6 top7 t10 t11 t12 t16 t17 (cnt : Int) = res)
  (i0 : Nat) (hi : i0 ≤ cnt) (top7 : Bool) (h0 : Inv i0 top7) : zz40_F6 big rec k o0 list1 x6 top7 t10 t11 t12 t16 t17 (i0 : Int) = res := by
  have key : ∀ (m i : Nat) (top7 : Bool), i ≤ cnt → cnt < m + i → Inv i top7 → zz40_l6 big (zz40_a6 rec) m o0 list1 x6 top7 t10 t11 t12 t16 t17 (i : Int) = res := by
    intro m
    induction m with
    | zero => intro i top7 h1 h2 h3; exact absurd h2 (by omega)
    | succ m ih =>
      intro i top7 h1 h2 h3
      rcases Nat.lt_or_ge i cnt with hlt | hge
      · exact hs _ i top7 hlt h3 (fun top7' h4 => ih (i + 1) top7' (by omega) (by omega) h4)
      · obtain rfl : i = cnt := by omega
        exact he _ top7 h3
  exact key big i0 top7 hi (by have := big_ge; omega) h0
theorem zz42_h3 {so1 : (Y5 × Z11)} {t9 : Int} (cnt : Nat) (Inv : Nat → Y4 → Prop) {res : Z2} (hn : cnt ≤ 500000000000)
  (hs : ∀ (rc : (Y5 × Z11) → Y4 → Int → Int → Z2) (i : Nat) (list5 : Y4), i < cnt → Inv i list5 → (∀ (list5' : Y4), Inv (i + 1) list5' → rc so1 list5' t9 ((i + 1 : Nat) : Int) = res) → zz42_b3 rc zz42_a3 so1 list5 t9 (i : Int) = res)
  (he : ∀ (rc : (Y5 × Z11) → Y4 → Int → Int → Z2) (list5 : Y4), Inv cnt list5 → zz42_b3 rc zz42_a3 so1 list5 t9 (cnt : Int) = res)
  (i0 : Nat) (hi : i0 ≤ cnt) (list5 : Y4) (h0 : Inv i0 list5) : zz42_F3 big so1 list5 t9 (i0 : Int) = res := by
  have key : ∀ (m i : Nat) (list5 : Y4), i ≤ cnt → cnt < m + i → Inv i list5 → zz42_l3 big zz42_a3 m so1 list5 t9 (i : Int) = res := by
    intro m
    induction m with
    | zero => intro i list5 h1 h2 h3; exact absurd h2 (by omega)
    | succ m ih =>
      intro i list5 h1 h2 h3
      rcases Nat.lt_or_ge i cnt with hlt | hge
      · exact hs _ i list5 hlt h3 (fun list5' h4 => ih (i + 1) list5' (by omega) (by omega) h4)
      · obtain rfl : i = cnt := by omega
        exact he _ list5 h3
  exact key big i0 list5 hi (by have := big_ge; omega) h0
theorem zz43_h3 {o1 : Y5} {t11 : Int} (cnt : Nat) (Inv : Nat → Y3 → Prop) {res : Z1} (hn : cnt ≤ 500000000000)
  (hs : ∀ (rc : Y5 → Y3 → Int → Int → Z1) (i : Nat) (table4 : Y3), i < cnt → Inv i table4 → (∀ (table4' : Y3), Inv (i + 1) table4' → rc o1 table4' t11 ((i + 1 : Nat) : Int) = res) → zz43_b3 (zz43_F7 big rc zz43_a3) zz43_a3 o1 table4 t11 (i : Int) = res)
  (he : ∀ (rc : Y5 → Y3 → Int → Int → Z1) (table4 : Y3), Inv cnt table4 → zz43_b3 (zz43_F7 big rc zz43_a3) zz43_a3 o1 table4 t11 (cnt : Int) = res)
  (i0 : Nat) (hi : i0 ≤ cnt) (table4 : Y3) (h0 : Inv i0 table4) : zz43_F3 big o1 table4 t11 (i0 : Int) = res := by
  have key : ∀ (m i : Nat) (table4 : Y3), i ≤ cnt → cnt < m + i → Inv i table4 → zz43_l3 big zz43_a3 m o1 table4 t11 (i : Int) = res := by
    intro m
    induction m with
    | zero => intro i table4 h1 h2 h3; exact absurd h2 (by omega)
    | succ m ih =>
      intro i table4 h1 h2 h3
      rcases Nat.lt_or_ge i cnt with hlt | hge
      · exact hs _ i table4 hlt h3 (fun table4' h4 => ih (i + 1) table4' (by omega) (by omega) h4)
      · obtain rfl : i = cnt := by omega
        exact he _ table4 h3
  exact key big i0 table4 hi (by have := big_ge; omega) h0
theorem zz43_h7 {rec : Y5 → Y3 → Int → Int → Z1} {k : Y3 → Z1} {o1 : Y5} {table4 : Y3} {x5 : Int} {t11 : Int} {t12 : Int} {t17 : Int} (cnt : Nat) (Inv : Nat → Y4 → Prop) {res : Z1} (hn : cnt ≤ 500000000000)
  (hs : ∀ (rc : Y5 → Y3 → Int → Y4 → Int → Int → Int → Int → Z1) (i : Nat) (row6 : Y4), i < cnt → Inv i row6 → (∀ (row6' : Y4), Inv (i + 1) row6' → rc o1 table4 x5 row6' t11 t12 t17 ((i + 1 : Nat) : Int) = res) → zz43_b7 rc (zz43_a7 rec) o1 table4 x5 row6 t11 t12 t17 (i : Int) = res)
  (he : ∀ (rc : Y5 → Y3 → Int → Y4 → Int → Int → Int → Int → Z1) (row6 : Y4), Inv cnt row6 → zz43_b7 rc (zz43_a7 rec) o1 table4 x5 row6 t11 t12 t17 (cnt : Int) = res)
  (i0 : Nat) (hi : i0 ≤ cnt) (row6 : Y4) (h0 : Inv i0 row6) : zz43_F7 big rec k o1 table4 x5 row6 t11 t12 t17 (i0 : Int) = res := by
  have key : ∀ (m i : Nat) (row6 : Y4), i ≤ cnt → cnt < m + i → Inv i row6 → zz43_l7 big (zz43_a7 rec) m o1 table4 x5 row6 t11 t12 t17 (i : Int) = res := by
    intro m
    induction m with
    | zero => intro i row6 h1 h2 h3; exact absurd h2 (by omega)
    | succ m ih =>
      intro i row6 h1 h2 h3
      rcases Nat.lt_or_ge i cnt with hlt | hge
      · exact hs _ i row6 hlt h3 (fun row6' h4 => ih (i + 1) row6' (by omega) (by omega) h4)
      · obtain rfl : i = cnt := by omega
        exact he _ row6 h3
  exact key big i0 row6 hi (by have := big_ge; omega) h0
theorem zz44_h3 {o0 : Y5} {t10 : Int} (cnt : Nat) (Inv : Nat → Y5 → Prop) {res : Z6} (hn : cnt ≤ 500000000000)
  (hs : ∀ (rc : Y5 → Y5 → Int → Int → Z6) (i : Nat) (d3 : Y5), i < cnt → Inv i d3 → (∀ (d3' : Y5), Inv (i + 1) d3' → rc o0 d3' t10 ((i + 1 : Nat) : Int) = res) → zz44_b3 (zz44_F6 big rc zz44_a3) zz44_a3 o0 d3 t10 (i : Int) = res)
  (he : ∀ (rc : Y5 → Y5 → Int → Int → Z6) (d3 : Y5), Inv cnt d3 → zz44_b3 (zz44_F6 big rc zz44_a3) zz44_a3 o0 d3 t10 (cnt : Int) = res)
  (i0 : Nat) (hi : i0 ≤ cnt) (d3 : Y5) (h0 : Inv i0 d3) : zz44_F3 big o0 d3 t10 (i0 : Int) = res := by
  have key : ∀ (m i : Nat) (d3 : Y5), i ≤ cnt → cnt < m + i → Inv i d3 → zz44_l3 big zz44_a3 m o0 d3 t10 (i : Int) = res := by
    intro m
    induction m with
    | zero => intro i d3 h1 h2 h3; exact absurd h2 (by omega)
    | succ m ih =>
      intro i d3 h1 h2 h3
      rcases Nat.lt_or_ge i cnt with hlt | hge
      · exact hs _ i d3 hlt h3 (fun d3' h4 => ih (i + 1) d3' (by omega) (by omega) h4)
      · obtain rfl : i = cnt := by omega
        exact he _ d3 h3
  exact key big i0 d3 hi (by have := big_ge; omega) h0
theorem zz44_h6 {rec : Y5 → Y5 → Int → Int → Z6} {k : Y5 → Z6} {o0 : Y5} {x4 : Int} {t10 : Int} {t11 : Int} {t15 : Int} (cnt : Nat) (Inv : Nat → Y5 → Prop) {res : Z6} (hn : cnt ≤ 500000000000)
  (hs : ∀ (rc : Y5 → Y5 → Int → Int → Int → Int → Int → Z6) (i : Nat) (d3 : Y5), i < cnt → Inv i d3 → (∀ (d3' : Y5), Inv (i + 1) d3' → rc o0 d3' x4 t10 t11 t15 ((i + 1 : Nat) : Int) = res) → zz44_b6 rc (zz44_a6 rec) o0 d3 x4 t10 t11 t15 (i : Int) = res)
  (he : ∀ (rc : Y5 → Y5 → Int → Int → Int → Int → Int → Z6) (d3 : Y5), Inv cnt d3 → zz44_b6 rc (zz44_a6 rec) o0 d3 x4 t10 t11 t15 (cnt : Int) = res)
  (i0 : Nat) (hi : i0 ≤ cnt) (d3 : Y5) (h0 : Inv i0 d3) : zz44_F6 big rec k o0 d3 x4 t10 t11 t15 (i0 : Int) = res := by
  have key : ∀ (m i : Nat) (d3 : Y5), i ≤ cnt → cnt < m + i → Inv i d3 → zz44_l6 big (zz44_a6 rec) m o0 d3 x4 t10 t11 t15 (i : Int) = res := by
    intro m
    induction m with
    | zero => intro i d3 h1 h2 h3; exact absurd h2 (by omega)
    | succ m ih =>
      intro i d3 h1 h2 h3
      rcases Nat.lt_or_ge i cnt with hlt | hge
      · exact hs _ i d3 hlt h3 (fun d3' h4 => ih (i + 1) d3' (by omega) (by omega) h4)
      · obtain rfl : i = cnt := by omega
        exact he _ d3 h3
  exact key big i0 d3 hi (by have := big_ge; omega) h0
theorem zz47_h3 {t2 : Y6} {t7 : Y3} {t8 : Int} (cnt : Nat) (Inv : Nat → Y6 → Prop) {res : Z12} (hn : cnt ≤ 500000000000)
  (hs : ∀ (rc : Y6 → Y6 → Y3 → Int → Int → Z12) (i : Nat) (f3 : Y6), i < cnt → Inv i f3 → (∀ (f3' : Y6), Inv (i + 1) f3' → rc t2 f3' t7 t8 ((i + 1 : Nat) : Int) = res) → zz47_b3 rc zz47_a3 t2 f3 t7 t8 (i : Int) = res)
  (he : ∀ (rc : Y6 → Y6 → Y3 → Int → Int → Z12) (f3 : Y6), Inv cnt f3 → zz47_b3 rc zz47_a3 t2 f3 t7 t8 (cnt : Int) = res)
  (i0 : Nat) (hi : i0 ≤ cnt) (f3 : Y6) (h0 : Inv i0 f3) : zz47_F3 big t2 f3 t7 t8 (i0 : Int) = res := by
  have key : ∀ (m i : Nat) (f3 : Y6), i ≤ cnt → cnt < m + i → Inv i f3 → zz47_l3 big zz47_a3 m t2 f3 t7 t8 (i : Int) = res := by
    intro m
    induction m with
    | zero => intro i f3 h1 h2 h3; exact absurd h2 (by omega)
    | succ m ih =>
      intro i f3 h1 h2 h3
      rcases Nat.lt_or_ge i cnt with hlt | hge
      · exact hs _ i f3 hlt h3 (fun f3' h4 => ih (i + 1) f3' (by omega) (by omega) h4)
      · obtain rfl : i = cnt := by omega
        exact he _ f3 h3
  exact key big i0 f3 hi (by have := big_ge; omega) h0
theorem zz49_w2 {n0 : Int} (mu : Int → Int → Nat) (Inv : Int → Int → Prop) {res : Z3}
  (hs : ∀ (rc : Int → Int → Int → Z3) (k1 p5 : Int), Inv k1 p5 → (∀ (k1' : Int) (p5' : Int), Inv k1' p5' → mu k1' p5' < mu k1 p5 → rc n0 k1' p5' = res) → zz49_b2 rc zz49_a2 n0 k1 p5 = res)
  (k1 p5 : Int) (hm : mu k1 p5 ≤ 500000000000) (h0 : Inv k1 p5) : zz49_F2 big n0 k1 p5 = res := by
  have key : ∀ (m : Nat) (k1 p5 : Int), mu k1 p5 < m → Inv k1 p5 → zz49_l2 big zz49_a2 m n0 k1 p5 = res := by
    intro m
    induction m with
    | zero => intro k1 p5 h2 h3; exact absurd h2 (by omega)
    | succ m ih =>
      intro k1 p5 h2 h3
      exact hs _ k1 p5 h3 (fun k1' p5' h4 h5 => ih k1' p5' (by omega) h4)
  exact key big k1 p5 (by have := big_ge; omega) h0
theorem zz51_h4 {a1 : Y7} {t20 : Z13} {t21 : Int} (cnt : Nat) (Inv : Nat → Prop) {res : Z0} (hn : cnt ≤ 500000000000)
  (hs : ∀ (rc : Y7 → Z13 → Int → Int → Z0) (i : Nat), i < cnt → Inv i → (Inv (i + 1) → rc a1 t20 t21 ((i + 1 : Nat) : Int) = res) → zz51_b4 rc zz51_a4 a1 t20 t21 (i : Int) = res)
  (he : ∀ (rc : Y7 → Z13 → Int → Int → Z0), Inv cnt → zz51_b4 rc zz51_a4 a1 t20 t21 (cnt : Int) = res)
  (i0 : Nat) (hi : i0 ≤ cnt) (h0 : Inv i0) : zz51_F4 big a1 t20 t21 (i0 : Int) = res := by
  have key : ∀ (m i : Nat), i ≤ cnt → cnt < m + i → Inv i → zz51_l4 big zz51_a4 m a1 t20 t21 (i : Int) = res := by
    intro m
    induction m with
    | zero => intro i h1 h2 h3; exact absurd h2 (by omega)
    | succ m ih =>
      intro i h1 h2 h3
      rcases Nat.lt_or_ge i cnt with hlt | hge
      · exact hs _ i hlt h3 (fun h4 => ih (i + 1) (by omega) (by omega) h4)
      · obtain rfl : i = cnt := by omega
        exact he _ h3
  exact key big i0 hi (by have := big_ge; omega) h0
theorem zz52_h3 {t8 : Int} (cnt : Nat) (Inv : Nat → Y4 → Prop) {res : Z2} (hn : cnt ≤ 500000000000)
  (hs : ∀ (rc : Y4 → Int → Int → Z2) (i : Nat) (p3 : Y4), i < cnt → Inv i p3 → (∀ (p3' : Y4), Inv (i + 1) p3' → rc p3' t8 ((i + 1 : Nat) : Int) = res) → zz52_b3 rc zz52_a3 p3 t8 (i : Int) = res)
  (he : ∀ (rc : Y4 → Int → Int → Z2) (p3 : Y4), Inv cnt p3 → zz52_b3 rc zz52_a3 p3 t8 (cnt : Int) = res)
  (i0 : Nat) (hi : i0 ≤ cnt) (p3 : Y4) (h0 : Inv i0 p3) : zz52_F3 big p3 t8 (i0 : Int) = res := by
  have key : ∀ (m i : Nat) (p3 : Y4), i ≤ cnt → cnt < m + i → Inv i p3 → zz52_l3 big zz52_a3 m p3 t8 (i : Int) = res := by
    intro m
    induction m with
    | zero => intro i p3 h1 h2 h3; exact absurd h2 (by omega)
    | succ m ih =>
      intro i p3 h1 h2 h3
      rcases Nat.lt_or_ge i cnt with hlt | hge
      · exact hs _ i p3 hlt h3 (fun p3' h4 => ih (i + 1) p3' (by omega) (by omega) h4)
      · obtain rfl : i = cnt := by omega
        exact he _ p3 h3
  exact key big i0 p3 hi (by have := big_ge; omega) h0
theorem zz53_h7 {x1 : Int} {y2 : Int} {t25 : Int} (cnt : Nat) (Inv : Nat → Y4 → Prop) {res : Z4} (hn : cnt ≤ 500000000000)
  (hs : ∀ (rc : Y4 → Int → Int → Int → Int → Z4) (i : Nat) (p0 : Y4), i < cnt → Inv i p0 → (∀ (p0' : Y4), Inv (i + 1) p0' → rc p0' x1 y2 t25 ((i + 1 : Nat) : Int) = res) → zz53_b7 rc zz53_a7 p0 x1 y2 t25 (i : Int) = res)
  (he : ∀ (rc : Y4 → Int → Int → Int → Int → Z4) (p0 : Y4), Inv cnt p0 → zz53_b7 rc zz53_a7 p0 x1 y2 t25 (cnt : Int) = res)
  (i0 : Nat) (hi : i0 ≤ cnt) (p0 : Y4) (h0 : Inv i0 p0) : zz53_F7 big p0 x1 y2 t25 (i0 : Int) = res := by
  have key : ∀ (m i : Nat) (p0 : Y4), i ≤ cnt → cnt < m + i → Inv i p0 → zz53_l7 big zz53_a7 m p0 x1 y2 t25 (i : Int) = res := by
    intro m
    induction m with
    | zero => intro i p0 h1 h2 h3; exact absurd h2 (by omega)
    | succ m ih =>
      intro i p0 h1 h2 h3
      rcases Nat.lt_or_ge i cnt with hlt | hge
      · exact hs _ i p0 hlt h3 (fun p0' h4 => ih (i + 1) p0' (by omega) (by omega) h4)
      · obtain rfl : i = cnt := by omega
        exact he _ p0 h3
  exact key big i0 p0 hi (by have := big_ge; omega) h0
theorem zz54_v3 {a2 : Y7} (mu : Y4 → Bool → Bool → Nat) (Inv : Y4 → Bool → Bool → Prop) {Q : Z4 → Prop}
  (hs : ∀ (rc : Y4 → Y7 → Bool → Bool → Z4) (p1 : Y4) (was5 changed6 : Bool), Inv p1 was5 changed6 → (∀ (p1' : Y4) (was5' : Bool) (changed6' : Bool), Inv p1' was5' changed6' → mu p1' was5' changed6' < mu p1 was5 changed6 → Q (rc p1' a2 was5' changed6')) → Q (zz54_b3 (zz54_F6 big rc zz54_a3) zz54_a3 p1 a2 was5 changed6))
  (p1 : Y4) (was5 changed6 : Bool) (hm : mu p1 was5 changed6 ≤ 500000000000) (h0 : Inv p1 was5 changed6) : Q (zz54_F3 big p1 a2 was5 changed6) := by
  have key : ∀ (m : Nat) (p1 : Y4) (was5 changed6 : Bool), mu p1 was5 changed6 < m → Inv p1 was5 changed6 → Q (zz54_l3 big zz54_a3 m p1 a2 was5 changed6) := by
    intro m
    induction m with
    | zero => intro p1 was5 changed6 h2 h3; exact absurd h2 (by omega)
    | succ m ih =>
      intro p1 was5 changed6 h2 h3
      exact hs _ p1 was5 changed6 h3 (fun p1' was5' changed6' h4 h5 => ih p1' was5' changed6' (by omega) h4)
  exact key big p1 was5 changed6 (by have := big_ge; omega) h0
theorem zz54_q6 {rec : Y4 → Y7 → Bool → Bool → Z4} {k : Y4 → Bool → Z4} {a2 : Y7} {t16 : Z13} {t17 : Int} (cnt : Nat) (Inv : Nat → Y4 → Bool → Bool → Prop) {Q : Z4 → Prop} (hn : cnt ≤ 500000000000)
  (hs : ∀ (rc : Y4 → Y7 → Bool → Bool → Z13 → Int → Int → Z4) (i : Nat) (p1 : Y4) (was5 changed6 : Bool), i < cnt → Inv i p1 was5 changed6 → (∀ (p1' : Y4) (was5' : Bool) (changed6' : Bool), Inv (i + 1) p1' was5' changed6' → Q (rc p1' a2 was5' changed6' t16 t17 ((i + 1 : Nat) : Int))) → Q (zz54_b6 (zz54_F10 big rc (zz54_a6 rec)) (zz54_a6 rec) p1 a2 was5 changed6 t16 t17 (i : Int)))
  (he : ∀ (rc : Y4 → Y7 → Bool → Bool → Z13 → Int → Int → Z4) (p1 : Y4) (was5 changed6 : Bool), Inv cnt p1 was5 changed6 → Q (zz54_b6 (zz54_F10 big rc (zz54_a6 rec)) (zz54_a6 rec) p1 a2 was5 changed6 t16 t17 (cnt : Int)))
  (i0 : Nat) (hi : i0 ≤ cnt) (p1 : Y4) (was5 changed6 : Bool) (h0 : Inv i0 p1 was5 changed6) : Q (zz54_F6 big rec k p1 a2 was5 changed6 t16 t17 (i0 : Int)) := by
  have key : ∀ (m i : Nat) (p1 : Y4) (was5 changed6 : Bool), i ≤ cnt → cnt < m + i → Inv i p1 was5 changed6 → Q (zz54_l6 big (zz54_a6 rec) m p1 a2 was5 changed6 t16 t17 (i : Int)) := by
    intro m
    induction m with
    | zero => intro i p1 was5 changed6 h1 h2 h3; exact absurd h2 (by omega)
    | succ m ih =>
      intro i p1 was5 changed6 h1 h2 h3
      rcases Nat.lt_or_ge i cnt with hlt | hge
      · exact hs _ i p1 was5 changed6 hlt h3 (fun p1' was5' changed6' h4 => ih (i + 1) p1' was5' changed6' (by omega) (by omega) h4)
      · obtain rfl : i = cnt := by omega
        exact he _ p1 was5 changed6 h3
  exact key big i0 p1 was5 changed6 hi (by have := big_ge; omega) h0
theorem zz54_q10 {rec : Y4 → Y7 → Bool → Bool → Z13 → Int → Int → Z4} {k : Y4 → Y7 → Bool → Bool → Z4} {a2 : Y7} {f8 : Y6} {t16 : Z13} {t17 : Int} {t18 : Int} (cnt : Nat) (Inv : Nat → Y4 → Bool → Bool → Int → Prop) {Q : Z4 → Prop} (hn : cnt ≤ 500000000000)
  (hs : ∀ (rc : Y4 → Y7 → Bool → Bool → Y6 → Int → Int → Z13 → Int → Int → Z4) (i : Nat) (p1 : Y4) (was5 changed6 : Bool) (step9 : Int), i < cnt → Inv i p1 was5 changed6 step9 → (∀ (p1' : Y4) (was5' : Bool) (changed6' : Bool) (step9' : Int), Inv (i + 1) p1' was5' changed6' step9' → Q (rc p1' a2 was5' changed6' f8 step9' ((i + 1 : Nat) : Int) t16 t17 t18)) → Q (zz54_b10 (zz54_F13 big rc (zz54_a10 rec)) (zz54_a10 rec) p1 a2 was5 changed6 f8 step9 (i : Int) t16 t17 t18))
  (he : ∀ (rc : Y4 → Y7 → Bool → Bool → Y6 → Int → Int → Z13 → Int → Int → Z4) (p1 : Y4) (was5 changed6 : Bool) (step9 : Int), Inv cnt p1 was5 changed6 step9 → Q (zz54_b10 (zz54_F13 big rc (zz54_a10 rec)) (zz54_a10 rec) p1 a2 was5 changed6 f8 step9 (cnt : Int) t16 t17 t18))
  (i0 : Nat) (hi : i0 ≤ cnt) (p1 : Y4) (was5 changed6 : Bool) (step9 : Int) (h0 : Inv i0 p1 was5 changed6 step9) : Q (zz54_F10 big rec k p1 a2 was5 changed6 f8 step9 (i0 : Int) t16 t17 t18) := by
  have key : ∀ (m i : Nat) (p1 : Y4) (was5 changed6 : Bool) (step9 : Int), i ≤ cnt → cnt < m + i → Inv i p1 was5 changed6 step9 → Q (zz54_l10 big (zz54_a10 rec) m p1 a2 was5 changed6 f8 step9 (i : Int) t16 t17 t18) := by
    intro m
    induction m with
    | zero => intro i p1 was5 changed6 step9 h1 h2 h3; exact absurd h2 (by omega)
    | succ m ih =>
      intro i p1 was5 changed6 step9 h1 h2 h3
      rcases Nat.lt_or_ge i cnt with hlt | hge
      · exact hs _ i p1 was5 changed6 step9 hlt h3 (fun p1' was5' changed6' step9' h4 => ih (i + 1) p1' was5' changed6' step9' (by omega) (by omega) h4)
      · obtain rfl : i = cnt := by omega
        exact he _ p1 was5 changed6 step9 h3
  exact key big i0 p1 was5 changed6 step9 hi (by have := big_ge; omega) h0
theorem zz54_q13 {rec : Y4 → Y7 → Bool → Bool → Y6 → Int → Int → Z13 → Int → Int → Z4} {k : Y4 → Y7 → Bool → Bool → Z13 → Int → Int → Z4} {a2 : Y7} {f8 : Y6} {step9 : Int} {k10 : Int} {t16 : Z13} {t17 : Int} {t18 : Int} {t29 : Y4} {t30 : Int} (cnt : Nat) (Inv : Nat → Y4 → Bool → Bool → Prop) {Q : Z4 → Prop} (hn : cnt ≤ 500000000000)
  (hs : ∀ (rc : Y4 → Y7 → Bool → Bool → Y6 → Int → Int → Z13 → Int → Int → Y4 → Int → Int → Z4) (i : Nat) (p1 : Y4) (was5 changed6 : Bool), i < cnt → Inv i p1 was5 changed6 → (∀ (p1' : Y4) (was5' : Bool) (changed6' : Bool), Inv (i + 1) p1' was5' changed6' → Q (rc p1' a2 was5' changed6' f8 step9 k10 t16 t17 t18 t29 t30 ((i + 1 : Nat) : Int))) → Q (zz54_b13 rc (zz54_a13 rec) p1 a2 was5 changed6 f8 step9 k10 t16 t17 t18 t29 t30 (i : Int)))
  (he : ∀ (rc : Y4 → Y7 → Bool → Bool → Y6 → Int → Int → Z13 → Int → Int → Y4 → Int → Int → Z4) (p1 : Y4) (was5 changed6 : Bool), Inv cnt p1 was5 changed6 → Q (zz54_b13 rc (zz54_a13 rec) p1 a2 was5 changed6 f8 step9 k10 t16 t17 t18 t29 t30 (cnt : Int)))
  (i0 : Nat) (hi : i0 ≤ cnt) (p1 : Y4) (was5 changed6 : Bool) (h0 : Inv i0 p1 was5 changed6) : Q (zz54_F13 big rec k p1 a2 was5 changed6 f8 step9 k10 t16 t17 t18 t29 t30 (i0 : Int)) := by
  have key : ∀ (m i : Nat) (p1 : Y4) (was5 changed6 : Bool), i ≤ cnt → cnt < m + i → Inv i p1 was5 changed6 → Q (zz54_l13 big (zz54_a13 rec) m p1 a2 was5 changed6 f8 step9 k10 t16 t17 t18 t29 t30 (i : Int)) := by
    intro m
    induction m with
    | zero => intro i p1 was5 changed6 h1 h2 h3; exact absurd h2 (by omega)
    | succ m ih =>
      intro i p1 was5 changed6 h1 h2 h3
      rcases Nat.lt_or_ge i cnt with hlt | hge
      · exact hs _ i p1 was5 changed6 hlt h3 (fun p1' was5' changed6' h4 => ih (i + 1) p1' was5' changed6' (by omega) (by omega) h4)
      · obtain rfl : i = cnt := by omega
        exact he _ p1 was5 changed6 h3
  exact key big i0 p1 was5 changed6 hi (by have := big_ge; omega) h0
theorem zz55_h3 {a2 : Y7} {t11 : (List Z11)} {t12 : Int} (cnt : Nat) (Inv : Nat → Y4 → Prop) {res : Z2} (hn : cnt ≤ 500000000000)
  (hs : ∀ (rc : Y7 → Y4 → (List Z11) → Int → Int → Z2) (i : Nat) (p5 : Y4), i < cnt → Inv i p5 → (∀ (p5' : Y4), Inv (i + 1) p5' → rc a2 p5' t11 t12 ((i + 1 : Nat) : Int) = res) → zz55_b3 rc zz55_a3 a2 p5 t11 t12 (i : Int) = res)
  (he : ∀ (rc : Y7 → Y4 → (List Z11) → Int → Int → Z2) (p5 : Y4), Inv cnt p5 → zz55_b3 rc zz55_a3 a2 p5 t11 t12 (cnt : Int) = res)
  (i0 : Nat) (hi : i0 ≤ cnt) (p5 : Y4) (h0 : Inv i0 p5) : zz55_F3 big a2 p5 t11 t12 (i0 : Int) = res := by
  have key : ∀ (m i : Nat) (p5 : Y4), i ≤ cnt → cnt < m + i → Inv i p5 → zz55_l3 big zz55_a3 m a2 p5 t11 t12 (i : Int) = res := by
    intro m
    induction m with
    | zero => intro i p5 h1 h2 h3; exact absurd h2 (by omega)
    | succ m ih =>
      intro i p5 h1 h2 h3
      rcases Nat.lt_or_ge i cnt with hlt | hge
      · exact hs _ i p5 hlt h3 (fun p5' h4 => ih (i + 1) p5' (by omega) (by omega) h4)
      · obtain rfl : i = cnt := by omega
        exact he _ p5 h3
  exact key big i0 p5 hi (by have := big_ge; omega) h0
theorem zz56_h3 {t10 : Y4} {t11 : Int} (cnt : Nat) (Inv : Nat → Y4 → Prop) {res : Z10} (hn : cnt ≤ 500000000000)
  (hs : ∀ (rc : Y4 → Y4 → Int → Int → Z10) (i : Nat) (b3 : Y4), i < cnt → Inv i b3 → (∀ (b3' : Y4), Inv (i + 1) b3' → rc b3' t10 t11 ((i + 1 : Nat) : Int) = res) → zz56_b3 rc zz56_a3 b3 t10 t11 (i : Int) = res)
  (he : ∀ (rc : Y4 → Y4 → Int → Int → Z10) (b3 : Y4), Inv cnt b3 → zz56_b3 rc zz56_a3 b3 t10 t11 (cnt : Int) = res)
  (i0 : Nat) (hi : i0 ≤ cnt) (b3 : Y4) (h0 : Inv i0 b3) : zz56_F3 big b3 t10 t11 (i0 : Int) = res := by
  have key : ∀ (m i : Nat) (b3 : Y4), i ≤ cnt → cnt < m + i → Inv i b3 → zz56_l3 big zz56_a3 m b3 t10 t11 (i : Int) = res := by
    intro m
    induction m with
    | zero => intro i b3 h1 h2 h3; exact absurd h2 (by omega)
    | succ m ih =>
      intro i b3 h1 h2 h3
      rcases Nat.lt_or_ge i cnt with hlt | hge
      · exact hs _ i b3 hlt h3 (fun b3' h4 => ih (i + 1) b3' (by omega) (by omega) h4)
      · obtain rfl : i = cnt := by omega
        exact he _ b3 h3
  exact key big i0 b3 hi (by have := big_ge; omega) h0
theorem zz58_h3 {t10 : Y4} {t11 : Int} (cnt : Nat) (Inv : Nat → Y4 → Prop) {res : Z2} (hn : cnt ≤ 500000000000)
  (hs : ∀ (rc : Y4 → Y4 → Int → Int → Z2) (i : Nat) (r5 : Y4), i < cnt → Inv i r5 → (∀ (r5' : Y4), Inv (i + 1) r5' → rc r5' t10 t11 ((i + 1 : Nat) : Int) = res) → zz58_b3 rc zz58_a3 r5 t10 t11 (i : Int) = res)
  (he : ∀ (rc : Y4 → Y4 → Int → Int → Z2) (r5 : Y4), Inv cnt r5 → zz58_b3 rc zz58_a3 r5 t10 t11 (cnt : Int) = res)
  (i0 : Nat) (hi : i0 ≤ cnt) (r5 : Y4) (h0 : Inv i0 r5) : zz58_F3 big r5 t10 t11 (i0 : Int) = res := by
  have key : ∀ (m i : Nat) (r5 : Y4), i ≤ cnt → cnt < m + i → Inv i r5 → zz58_l3 big zz58_a3 m r5 t10 t11 (i : Int) = res := by
    intro m
    induction m with
    | zero => intro i r5 h1 h2 h3; exact absurd h2 (by omega)
    | succ m ih =>
      intro i r5 h1 h2 h3
      rcases Nat.lt_or_ge i cnt with hlt | hge
      · exact hs _ i r5 hlt h3 (fun r5' h4 => ih (i + 1) r5' (by omega) (by omega) h4)
      · obtain rfl : i = cnt := by omega
        exact he _ r5 h3
  exact key big i0 r5 hi (by have := big_ge; omega) h0
theorem zz59_h3 {a1 : Y7} (cnt : Nat) (Inv : Nat → Y3 → Prop) {res : Z1} (hn : cnt ≤ 500000000000)
  (hs : ∀ (rc : Y7 → Y3 → Int → Z1) (i : Nat) (principal4 : Y3), i < cnt → Inv i principal4 → (∀ (principal4' : Y3), Inv (i + 1) principal4' → rc a1 principal4' ((i + 1 : Nat) : Int) = res) → zz59_b3 (zz59_F6 big rc (zz59_a3 (zz59_F12 big))) (zz59_a3 (zz59_F12 big)) a1 principal4 (i : Int) = res)
  (he : ∀ (rc : Y7 → Y3 → Int → Z1) (principal4 : Y3), Inv cnt principal4 → zz59_b3 (zz59_F6 big rc (zz59_a3 (zz59_F12 big))) (zz59_a3 (zz59_F12 big)) a1 principal4 (cnt : Int) = res)
  (i0 : Nat) (hi : i0 ≤ cnt) (principal4 : Y3) (h0 : Inv i0 principal4) : zz59_F3 big a1 principal4 (i0 : Int) = res := by
  have key : ∀ (m i : Nat) (principal4 : Y3), i ≤ cnt → cnt < m + i → Inv i principal4 → zz59_l3 big (zz59_a3 (zz59_F12 big)) m a1 principal4 (i : Int) = res := by
    intro m
    induction m with
    | zero => intro i principal4 h1 h2 h3; exact absurd h2 (by omega)
    | succ m ih =>
      intro i principal4 h1 h2 h3
      rcases Nat.lt_or_ge i cnt with hlt | hge
      · exact hs _ i principal4 hlt h3 (fun principal4' h4 => ih (i + 1) principal4' (by omega) (by omega) h4)
      · obtain rfl : i = cnt := by omega
        exact he _ principal4 h3
  exact key big i0 principal4 hi (by have := big_ge; omega) h0
theorem zz59_h6 {rec : Y7 → Y3 → Int → Z1} {k : Y7 → Y3 → Z1} {a1 : Y7} {x5 : Int} (cnt : Nat) (Inv : Nat → Y3 → Prop) {res : Z1} (hn : cnt ≤ 500000000000)
  (hs : ∀ (rc : Y7 → Y3 → Int → Int → Z1) (i : Nat) (principal4 : Y3), i < cnt → Inv i principal4 → (∀ (principal4' : Y3), Inv (i + 1) principal4' → rc a1 principal4' x5 ((i + 1 : Nat) : Int) = res) → zz59_b6 rc (zz59_a6 rec) a1 principal4 x5 (i : Int) = res)
  (he : ∀ (rc : Y7 → Y3 → Int → Int → Z1) (principal4 : Y3), Inv cnt principal4 → zz59_b6 rc (zz59_a6 rec) a1 principal4 x5 (cnt : Int) = res)
  (i0 : Nat) (hi : i0 ≤ cnt) (principal4 : Y3) (h0 : Inv i0 principal4) : zz59_F6 big rec k a1 principal4 x5 (i0 : Int) = res := by
  have key : ∀ (m i : Nat) (principal4 : Y3), i ≤ cnt → cnt < m + i → Inv i principal4 → zz59_l6 big (zz59_a6 rec) m a1 principal4 x5 (i : Int) = res := by
    intro m
    induction m with
    | zero => intro i principal4 h1 h2 h3; exact absurd h2 (by omega)
    | succ m ih =>
      intro i principal4 h1 h2 h3
      rcases Nat.lt_or_ge i cnt with hlt | hge
      · exact hs _ i principal4 hlt h3 (fun principal4' h4 => ih (i + 1) principal4' (by omega) (by omega) h4)
      · obtain rfl : i = cnt := by omega
        exact he _ principal4 h3
  exact key big i0 principal4 hi (by have := big_ge; omega) h0
theorem zz59_h12 {principal4 : Y3} (cnt : Nat) (Inv : Nat → Y3 → Z7 → Prop) {res : Z1} (hn : cnt ≤ 500000000000)
  (hs : ∀ (rc : Y3 → Y3 → Z7 → Int → Z1) (i : Nat) (list7 : Y3) (seen8 : Z7), i < cnt → Inv i list7 seen8 → (∀ (list7' : Y3) (seen8' : Z7), Inv (i + 1) list7' seen8' → rc principal4 list7' seen8' ((i + 1 : Nat) : Int) = res) → zz59_b12 (zz59_F15 big rc zz59_a12) zz59_a12 principal4 list7 seen8 (i : Int) = res)
  (he : ∀ (rc : Y3 → Y3 → Z7 → Int → Z1) (list7 : Y3) (seen8 : Z7), Inv cnt list7 seen8 → zz59_b12 (zz59_F15 big rc zz59_a12) zz59_a12 principal4 list7 seen8 (cnt : Int) = res)
  (i0 : Nat) (hi : i0 ≤ cnt) (list7 : Y3) (seen8 : Z7) (h0 : Inv i0 list7 seen8) : zz59_F12 big principal4 list7 seen8 (i0 : Int) = res := by
  have key : ∀ (m i : Nat) (list7 : Y3) (seen8 : Z7), i ≤ cnt → cnt < m + i → Inv i list7 seen8 → zz59_l12 big zz59_a12 m principal4 list7 seen8 (i : Int) = res := by
    intro m
    induction m with
    | zero => intro i list7 seen8 h1 h2 h3; exact absurd h2 (by omega)
    | succ m ih =>
      intro i list7 seen8 h1 h2 h3
      rcases Nat.lt_or_ge i cnt with hlt | hge
      · exact hs _ i list7 seen8 hlt h3 (fun list7' seen8' h4 => ih (i + 1) list7' seen8' (by omega) (by omega) h4)
      · obtain rfl : i = cnt := by omega
        exact he _ list7 seen8 h3
  exact key big i0 list7 seen8 hi (by have := big_ge; omega) h0
theorem zz59_h15 {rec : Y3 → Y3 → Z7 → Int → Z1} {k : Y3 → Z1} {principal4 : Y3} {i9 : Int} {t55 : Int} (cnt : Nat) (Inv : Nat → Y3 → Z7 → Prop) {res : Z1} (hn : cnt ≤ 500000000000)
  (hs : ∀ (rc : Y3 → Y3 → Z7 → Int → Int → Int → Z1) (i : Nat) (list7 : Y3) (seen8 : Z7), i < cnt → Inv i list7 seen8 → (∀ (list7' : Y3) (seen8' : Z7), Inv (i + 1) list7' seen8' → rc principal4 list7' seen8' i9 t55 ((i + 1 : Nat) : Int) = res) → zz59_b15 rc (zz59_a15 rec) principal4 list7 seen8 i9 t55 (i : Int) = res)
  (he : ∀ (rc : Y3 → Y3 → Z7 → Int → Int → Int → Z1) (list7 : Y3) (seen8 : Z7), Inv cnt list7 seen8 → zz59_b15 rc (zz59_a15 rec) principal4 list7 seen8 i9 t55 (cnt : Int) = res)
  (i0 : Nat) (hi : i0 ≤ cnt) (list7 : Y3) (seen8 : Z7) (h0 : Inv i0 list7 seen8) : zz59_F15 big rec k principal4 list7 seen8 i9 t55 (i0 : Int) = res := by
  have key : ∀ (m i : Nat) (list7 : Y3) (seen8 : Z7), i ≤ cnt → cnt < m + i → Inv i list7 seen8 → zz59_l15 big (zz59_a15 rec) m principal4 list7 seen8 i9 t55 (i : Int) = res := by
    intro m
    induction m with
    | zero => intro i list7 seen8 h1 h2 h3; exact absurd h2 (by omega)
    | succ m ih =>
      intro i list7 seen8 h1 h2 h3
      rcases Nat.lt_or_ge i cnt with hlt | hge
      · exact hs _ i list7 seen8 hlt h3 (fun list7' seen8' h4 => ih (i + 1) list7' seen8' (by omega) (by omega) h4)
      · obtain rfl : i = cnt := by omega
        exact he _ list7 seen8 h3
  exact key big i0 list7 seen8 hi (by have := big_ge; omega) h0
end Go.Proofs.Ytlndlclemhfekaa
