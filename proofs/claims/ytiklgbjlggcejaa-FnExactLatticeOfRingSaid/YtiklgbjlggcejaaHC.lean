import Derived.Test.YtiklgbjlggcejaaPLib
import Derived.Test.YtiklgbjlggcejaaGC
set_option linter.unusedVariables false
namespace Go.Proofs.Ytiklgbjlggcejaa
open Go Go.Gx Go.Proofs

/-! rules for the loops -/
theorem zz6_h3 {a0 : (List Y6)} (cnt : Nat) (Inv : Nat → (List Y6) → Prop) {res : Option ((List Y6) × Unit)} (hn : cnt ≤ 500000000000)
  (hs : ∀ (rc : (List Y6) → (List Y6) → Int → Option ((List Y6) × Unit)) (i : Nat) (out3 : (List Y6)), i < cnt → Inv i out3 → (∀ (out3' : (List Y6)), Inv (i + 1) out3' → rc a0 out3' ((i + 1 : Nat) : Int) = res) → zz6_b3 rc zz6_a3 a0 out3 (i : Int) = res)
  (he : ∀ (rc : (List Y6) → (List Y6) → Int → Option ((List Y6) × Unit)) (out3 : (List Y6)), Inv cnt out3 → zz6_b3 rc zz6_a3 a0 out3 (cnt : Int) = res)
  (i0 : Nat) (hi : i0 ≤ cnt) (out3 : (List Y6)) (h0 : Inv i0 out3) : zz6_F3 big a0 out3 (i0 : Int) = res := by
  have key : ∀ (m i : Nat) (out3 : (List Y6)), i ≤ cnt → cnt < m + i → Inv i out3 → zz6_l3 big zz6_a3 m a0 out3 (i : Int) = res := by
    intro m
    induction m with
    | zero => intro i out3 h1 h2 h3; exact absurd h2 (by omega)
    | succ m ih =>
      intro i out3 h1 h2 h3
      rcases Nat.lt_or_ge i cnt with hlt | hge
      · exact hs _ i out3 hlt h3 (fun out3' h4 => ih (i + 1) out3' (by omega) (by omega) h4)
      · obtain rfl : i = cnt := by omega
        exact he _ out3 h3
  exact key big i0 out3 hi (by have := big_ge; omega) h0
theorem zz9_w2 {n0 : Int} (mu : Int → Int → Nat) (Inv : Int → Int → Prop) {res : Option (Int × Unit)}
  (hs : ∀ (rc : Int → Int → Int → Option (Int × Unit)) (k1 : Int) (out5 : Int), Inv k1 out5 → (∀ (k1' : Int) (out5' : Int), Inv k1' out5' → mu k1' out5' < mu k1 out5 → rc n0 k1' out5' = res) → zz9_b2 rc zz9_a2 n0 k1 out5 = res)
  (k1 : Int) (out5 : Int) (hm : mu k1 out5 ≤ 500000000000) (h0 : Inv k1 out5) : zz9_F2 big n0 k1 out5 = res := by
  have key : ∀ (m : Nat) (k1 : Int) (out5 : Int), mu k1 out5 < m → Inv k1 out5 → zz9_l2 big zz9_a2 m n0 k1 out5 = res := by
    intro m
    induction m with
    | zero => intro k1 out5 h2 h3; exact absurd h2 (by omega)
    | succ m ih =>
      intro k1 out5 h2 h3
      exact hs _ k1 out5 h3 (fun k1' out5' h4 h5 => ih k1' out5' (by omega) h4)
  exact key big k1 out5 (by have := big_ge; omega) h0
theorem zz10_h4 {n0 : Int} {op3 : Y6} (cnt : Nat) (Inv : Nat → Prop) {res : Option (Bool × Unit)} (hn : cnt ≤ 500000000000)
  (hs : ∀ (rc : Int → Y6 → Int → Option (Bool × Unit)) (i : Nat), i < cnt → Inv i → (Inv (i + 1) → rc n0 op3 ((i + 1 : Nat) : Int) = res) → zz10_b4 rc zz10_a4 n0 op3 (i : Int) = res)
  (he : ∀ (rc : Int → Y6 → Int → Option (Bool × Unit)), Inv cnt → zz10_b4 rc zz10_a4 n0 op3 (cnt : Int) = res)
  (i0 : Nat) (hi : i0 ≤ cnt) (h0 : Inv i0) : zz10_F4 big n0 op3 (i0 : Int) = res := by
  have key : ∀ (m i : Nat), i ≤ cnt → cnt < m + i → Inv i → zz10_l4 big zz10_a4 m n0 op3 (i : Int) = res := by
    intro m
    induction m with
    | zero => intro i h1 h2 h3; exact absurd h2 (by omega)
    | succ m ih =>
      intro i h1 h2 h3
      rcases Nat.lt_or_ge i cnt with hlt | hge
      · exact hs _ i hlt h3 (fun h4 => ih (i + 1) (by omega) (by omega) h4)
      · obtain rfl : i = cnt := by omega
        exact he _ h3
  exact key big i0 hi (by have := big_ge; omega) h0
theorem zz11_h4 {a1 : Y7} (cnt : Nat) (Inv : Nat → Prop) {res : Option (Bool × Unit)} (hn : cnt ≤ 500000000000)
  (hs : ∀ (rc : Y7 → Int → Option (Bool × Unit)) (i : Nat), i < cnt → Inv i → (Inv (i + 1) → rc a1 ((i + 1 : Nat) : Int) = res) → zz11_b4 rc zz11_a4 a1 (i : Int) = res)
  (he : ∀ (rc : Y7 → Int → Option (Bool × Unit)), Inv cnt → zz11_b4 rc zz11_a4 a1 (cnt : Int) = res)
  (i0 : Nat) (hi : i0 ≤ cnt) (h0 : Inv i0) : zz11_F4 big a1 (i0 : Int) = res := by
  have key : ∀ (m i : Nat), i ≤ cnt → cnt < m + i → Inv i → zz11_l4 big zz11_a4 m a1 (i : Int) = res := by
    intro m
    induction m with
    | zero => intro i h1 h2 h3; exact absurd h2 (by omega)
    | succ m ih =>
      intro i h1 h2 h3
      rcases Nat.lt_or_ge i cnt with hlt | hge
      · exact hs _ i hlt h3 (fun h4 => ih (i + 1) (by omega) (by omega) h4)
      · obtain rfl : i = cnt := by omega
        exact he _ h3
  exact key big i0 hi (by have := big_ge; omega) h0
theorem zz12_h3 {a1 : Y7} (cnt : Nat) (Inv : Nat → Y4 → Prop) {res : Option (Y4 × Unit)} (hn : cnt ≤ 500000000000)
  (hs : ∀ (rc : Y7 → Y4 → Int → Option (Y4 × Unit)) (i : Nat) (out3 : Y4), i < cnt → Inv i out3 → (∀ (out3' : Y4), Inv (i + 1) out3' → rc a1 out3' ((i + 1 : Nat) : Int) = res) → zz12_b3 rc zz12_a3 a1 out3 (i : Int) = res)
  (he : ∀ (rc : Y7 → Y4 → Int → Option (Y4 × Unit)) (out3 : Y4), Inv cnt out3 → zz12_b3 rc zz12_a3 a1 out3 (cnt : Int) = res)
  (i0 : Nat) (hi : i0 ≤ cnt) (out3 : Y4) (h0 : Inv i0 out3) : zz12_F3 big a1 out3 (i0 : Int) = res := by
  have key : ∀ (m i : Nat) (out3 : Y4), i ≤ cnt → cnt < m + i → Inv i out3 → zz12_l3 big zz12_a3 m a1 out3 (i : Int) = res := by
    intro m
    induction m with
    | zero => intro i out3 h1 h2 h3; exact absurd h2 (by omega)
    | succ m ih =>
      intro i out3 h1 h2 h3
      rcases Nat.lt_or_ge i cnt with hlt | hge
      · exact hs _ i out3 hlt h3 (fun out3' h4 => ih (i + 1) out3' (by omega) (by omega) h4)
      · obtain rfl : i = cnt := by omega
        exact he _ out3 h3
  exact key big i0 out3 hi (by have := big_ge; omega) h0
theorem zz13_h4 {a0 : Y4} {b1 : Y4} (cnt : Nat) (Inv : Nat → Prop) {res : Option (Bool × Unit)} (hn : cnt ≤ 500000000000)
  (hs : ∀ (rc : Y4 → Y4 → Int → Option (Bool × Unit)) (i : Nat), i < cnt → Inv i → (Inv (i + 1) → rc a0 b1 ((i + 1 : Nat) : Int) = res) → zz13_b4 rc zz13_a4 a0 b1 (i : Int) = res)
  (he : ∀ (rc : Y4 → Y4 → Int → Option (Bool × Unit)), Inv cnt → zz13_b4 rc zz13_a4 a0 b1 (cnt : Int) = res)
  (i0 : Nat) (hi : i0 ≤ cnt) (h0 : Inv i0) : zz13_F4 big a0 b1 (i0 : Int) = res := by
  have key : ∀ (m i : Nat), i ≤ cnt → cnt < m + i → Inv i → zz13_l4 big zz13_a4 m a0 b1 (i : Int) = res := by
    intro m
    induction m with
    | zero => intro i h1 h2 h3; exact absurd h2 (by omega)
    | succ m ih =>
      intro i h1 h2 h3
      rcases Nat.lt_or_ge i cnt with hlt | hge
      · exact hs _ i hlt h3 (fun h4 => ih (i + 1) (by omega) (by omega) h4)
      · obtain rfl : i = cnt := by omega
        exact he _ h3
  exact key big i0 hi (by have := big_ge; omega) h0
theorem zz14_h3 {op1 : Int} {args2 : Y4} {a3 : Y7} (cnt : Nat) (Inv : Nat → Int → Prop) {res : Option (Int × Unit)} (hn : cnt ≤ 500000000000)
  (hs : ∀ (rc : Int → Y4 → Y7 → Int → Int → Option (Int × Unit)) (i : Nat) (at7 : Int), i < cnt → Inv i at7 → (∀ (at7' : Int), Inv (i + 1) at7' → rc op1 args2 a3 at7' ((i + 1 : Nat) : Int) = res) → zz14_b3 rc zz14_a3 op1 args2 a3 at7 (i : Int) = res)
  (he : ∀ (rc : Int → Y4 → Y7 → Int → Int → Option (Int × Unit)) (at7 : Int), Inv cnt at7 → zz14_b3 rc zz14_a3 op1 args2 a3 at7 (cnt : Int) = res)
  (i0 : Nat) (hi : i0 ≤ cnt) (at7 : Int) (h0 : Inv i0 at7) : zz14_F3 big op1 args2 a3 at7 (i0 : Int) = res := by
  have key : ∀ (m i : Nat) (at7 : Int), i ≤ cnt → cnt < m + i → Inv i at7 → zz14_l3 big zz14_a3 m op1 args2 a3 at7 (i : Int) = res := by
    intro m
    induction m with
    | zero => intro i at7 h1 h2 h3; exact absurd h2 (by omega)
    | succ m ih =>
      intro i at7 h1 h2 h3
      rcases Nat.lt_or_ge i cnt with hlt | hge
      · exact hs _ i at7 hlt h3 (fun at7' h4 => ih (i + 1) at7' (by omega) (by omega) h4)
      · obtain rfl : i = cnt := by omega
        exact he _ at7 h3
  exact key big i0 at7 hi (by have := big_ge; omega) h0
theorem zz16_h2 {l0 : Y4} {n1 : Int} (cnt : Nat) (Inv : Nat → Prop) {res : Option (Bool × Unit)} (hn : cnt ≤ 500000000000)
  (hs : ∀ (rc : Y4 → Int → Int → Option (Bool × Unit)) (i : Nat), i < cnt → Inv i → (Inv (i + 1) → rc l0 n1 ((i + 1 : Nat) : Int) = res) → zz16_b2 rc zz16_a2 l0 n1 (i : Int) = res)
  (he : ∀ (rc : Y4 → Int → Int → Option (Bool × Unit)), Inv cnt → zz16_b2 rc zz16_a2 l0 n1 (cnt : Int) = res)
  (i0 : Nat) (hi : i0 ≤ cnt) (h0 : Inv i0) : zz16_F2 big l0 n1 (i0 : Int) = res := by
  have key : ∀ (m i : Nat), i ≤ cnt → cnt < m + i → Inv i → zz16_l2 big zz16_a2 m l0 n1 (i : Int) = res := by
    intro m
    induction m with
    | zero => intro i h1 h2 h3; exact absurd h2 (by omega)
    | succ m ih =>
      intro i h1 h2 h3
      rcases Nat.lt_or_ge i cnt with hlt | hge
      · exact hs _ i hlt h3 (fun h4 => ih (i + 1) (by omega) (by omega) h4)
      · obtain rfl : i = cnt := by omega
        exact he _ h3
  exact key big i0 hi (by have := big_ge; omega) h0
theorem zz17_h2 {x0 : Y4} {y1 : Y4} (cnt : Nat) (Inv : Nat → Prop) {res : Option (Bool × Unit)} (hn : cnt ≤ 500000000000)
  (hs : ∀ (rc : Y4 → Y4 → Int → Option (Bool × Unit)) (i : Nat), i < cnt → Inv i → (Inv (i + 1) → rc x0 y1 ((i + 1 : Nat) : Int) = res) → zz17_b2 rc zz17_a2 x0 y1 (i : Int) = res)
  (he : ∀ (rc : Y4 → Y4 → Int → Option (Bool × Unit)), Inv cnt → zz17_b2 rc zz17_a2 x0 y1 (cnt : Int) = res)
  (i0 : Nat) (hi : i0 ≤ cnt) (h0 : Inv i0) : zz17_F2 big x0 y1 (i0 : Int) = res := by
  have key : ∀ (m i : Nat), i ≤ cnt → cnt < m + i → Inv i → zz17_l2 big zz17_a2 m x0 y1 (i : Int) = res := by
    intro m
    induction m with
    | zero => intro i h1 h2 h3; exact absurd h2 (by omega)
    | succ m ih =>
      intro i h1 h2 h3
      rcases Nat.lt_or_ge i cnt with hlt | hge
      · exact hs _ i hlt h3 (fun h4 => ih (i + 1) (by omega) (by omega) h4)
      · obtain rfl : i = cnt := by omega
        exact he _ h3
  exact key big i0 hi (by have := big_ge; omega) h0
theorem zz18_h5 {p1 : Y2} {n3 : Int} (cnt : Nat) (Inv : Nat → Prop) {res : Option (Bool × Unit)} (hn : cnt ≤ 500000000000)
  (hs : ∀ (rc : Y2 → Int → Int → Option (Bool × Unit)) (i : Nat), i < cnt → Inv i → (Inv (i + 1) → rc p1 n3 ((i + 1 : Nat) : Int) = res) → zz18_b5 rc (zz18_a5 (zz18_F10 big)) p1 n3 (i : Int) = res)
  (he : ∀ (rc : Y2 → Int → Int → Option (Bool × Unit)), Inv cnt → zz18_b5 rc (zz18_a5 (zz18_F10 big)) p1 n3 (cnt : Int) = res)
  (i0 : Nat) (hi : i0 ≤ cnt) (h0 : Inv i0) : zz18_F5 big p1 n3 (i0 : Int) = res := by
  have key : ∀ (m i : Nat), i ≤ cnt → cnt < m + i → Inv i → zz18_l5 big (zz18_a5 (zz18_F10 big)) m p1 n3 (i : Int) = res := by
    intro m
    induction m with
    | zero => intro i h1 h2 h3; exact absurd h2 (by omega)
    | succ m ih =>
      intro i h1 h2 h3
      rcases Nat.lt_or_ge i cnt with hlt | hge
      · exact hs _ i hlt h3 (fun h4 => ih (i + 1) (by omega) (by omega) h4)
      · obtain rfl : i = cnt := by omega
        exact he _ h3
  exact key big i0 hi (by have := big_ge; omega) h0
theorem zz18_h10 {p1 : Y2} {n3 : Int} (cnt : Nat) (Inv : Nat → Prop) {res : Option (Bool × Unit)} (hn : cnt ≤ 500000000000)
  (hs : ∀ (rc : Y2 → Int → Int → Option (Bool × Unit)) (i : Nat), i < cnt → Inv i → (Inv (i + 1) → rc p1 n3 ((i + 1 : Nat) : Int) = res) → zz18_b10 (zz18_F13 big rc zz18_a10) zz18_a10 p1 n3 (i : Int) = res)
  (he : ∀ (rc : Y2 → Int → Int → Option (Bool × Unit)), Inv cnt → zz18_b10 (zz18_F13 big rc zz18_a10) zz18_a10 p1 n3 (cnt : Int) = res)
  (i0 : Nat) (hi : i0 ≤ cnt) (h0 : Inv i0) : zz18_F10 big p1 n3 (i0 : Int) = res := by
  have key : ∀ (m i : Nat), i ≤ cnt → cnt < m + i → Inv i → zz18_l10 big zz18_a10 m p1 n3 (i : Int) = res := by
    intro m
    induction m with
    | zero => intro i h1 h2 h3; exact absurd h2 (by omega)
    | succ m ih =>
      intro i h1 h2 h3
      rcases Nat.lt_or_ge i cnt with hlt | hge
      · exact hs _ i hlt h3 (fun h4 => ih (i + 1) (by omega) (by omega) h4)
      · obtain rfl : i = cnt := by omega
        exact he _ h3
  exact key big i0 hi (by have := big_ge; omega) h0
theorem zz18_h13 {rec : Y2 → Int → Int → Option (Bool × Unit)} {k : Option (Bool × Unit)} {p1 : Y2} {n3 : Int} {x5 : Int} (cnt : Nat) (Inv : Nat → Prop) {res : Option (Bool × Unit)} (hn : cnt ≤ 500000000000)
  (hs : ∀ (rc : Y2 → Int → Int → Int → Option (Bool × Unit)) (i : Nat), i < cnt → Inv i → (Inv (i + 1) → rc p1 n3 x5 ((i + 1 : Nat) : Int) = res) → zz18_b13 rc (zz18_a13 rec) p1 n3 x5 (i : Int) = res)
  (he : ∀ (rc : Y2 → Int → Int → Int → Option (Bool × Unit)), Inv cnt → zz18_b13 rc (zz18_a13 rec) p1 n3 x5 (cnt : Int) = res)
  (i0 : Nat) (hi : i0 ≤ cnt) (h0 : Inv i0) : zz18_F13 big rec k p1 n3 x5 (i0 : Int) = res := by
  have key : ∀ (m i : Nat), i ≤ cnt → cnt < m + i → Inv i → zz18_l13 big (zz18_a13 rec) m p1 n3 x5 (i : Int) = res := by
    intro m
    induction m with
    | zero => intro i h1 h2 h3; exact absurd h2 (by omega)
    | succ m ih =>
      intro i h1 h2 h3
      rcases Nat.lt_or_ge i cnt with hlt | hge
      · exact hs _ i hlt h3 (fun h4 => ih (i + 1) (by omega) (by omega) h4)
      · obtain rfl : i = cnt := by omega
        exact he _ h3
  exact key big i0 hi (by have := big_ge; omega) h0
theorem zz20_h3 {p1 : Y2} {t2 : Y2} (cnt : Nat) (Inv : Nat → Y2 → Prop) {res : Option (Y2 × Unit)} (hn : cnt ≤ 500000000000)
  (hs : ∀ (rc : Y2 → Y2 → Y2 → Int → Option (Y2 × Unit)) (i : Nat) (out3 : Y2), i < cnt → Inv i out3 → (∀ (out3' : Y2), Inv (i + 1) out3' → rc p1 t2 out3' ((i + 1 : Nat) : Int) = res) → zz20_b3 (zz20_F7 big rc zz20_a3) zz20_a3 p1 t2 out3 (i : Int) = res)
  (he : ∀ (rc : Y2 → Y2 → Y2 → Int → Option (Y2 × Unit)) (out3 : Y2), Inv cnt out3 → zz20_b3 (zz20_F7 big rc zz20_a3) zz20_a3 p1 t2 out3 (cnt : Int) = res)
  (i0 : Nat) (hi : i0 ≤ cnt) (out3 : Y2) (h0 : Inv i0 out3) : zz20_F3 big p1 t2 out3 (i0 : Int) = res := by
  have key : ∀ (m i : Nat) (out3 : Y2), i ≤ cnt → cnt < m + i → Inv i out3 → zz20_l3 big zz20_a3 m p1 t2 out3 (i : Int) = res := by
    intro m
    induction m with
    | zero => intro i out3 h1 h2 h3; exact absurd h2 (by omega)
    | succ m ih =>
      intro i out3 h1 h2 h3
      rcases Nat.lt_or_ge i cnt with hlt | hge
      · exact hs _ i out3 hlt h3 (fun out3' h4 => ih (i + 1) out3' (by omega) (by omega) h4)
      · obtain rfl : i = cnt := by omega
        exact he _ out3 h3
  exact key big i0 out3 hi (by have := big_ge; omega) h0
theorem zz20_h7 {rec : Y2 → Y2 → Y2 → Int → Option (Y2 × Unit)} {k : Y2 → Y2 → Option (Y2 × Unit)} {p1 : Y2} {t2 : Y2} {out3 : Y2} {x4 : Int} (cnt : Nat) (Inv : Nat → Y4 → Prop) {res : Option (Y2 × Unit)} (hn : cnt ≤ 500000000000)
  (hs : ∀ (rc : Y2 → Y2 → Y2 → Int → Y4 → Int → Option (Y2 × Unit)) (i : Nat) (below5 : Y4), i < cnt → Inv i below5 → (∀ (below5' : Y4), Inv (i + 1) below5' → rc p1 t2 out3 x4 below5' ((i + 1 : Nat) : Int) = res) → zz20_b7 rc (zz20_a7 rec) p1 t2 out3 x4 below5 (i : Int) = res)
  (he : ∀ (rc : Y2 → Y2 → Y2 → Int → Y4 → Int → Option (Y2 × Unit)) (below5 : Y4), Inv cnt below5 → zz20_b7 rc (zz20_a7 rec) p1 t2 out3 x4 below5 (cnt : Int) = res)
  (i0 : Nat) (hi : i0 ≤ cnt) (below5 : Y4) (h0 : Inv i0 below5) : zz20_F7 big rec k p1 t2 out3 x4 below5 (i0 : Int) = res := by
  have key : ∀ (m i : Nat) (below5 : Y4), i ≤ cnt → cnt < m + i → Inv i below5 → zz20_l7 big (zz20_a7 rec) m p1 t2 out3 x4 below5 (i : Int) = res := by
    intro m
    induction m with
    | zero => intro i below5 h1 h2 h3; exact absurd h2 (by omega)
    | succ m ih =>
      intro i below5 h1 h2 h3
      rcases Nat.lt_or_ge i cnt with hlt | hge
      · exact hs _ i below5 hlt h3 (fun below5' h4 => ih (i + 1) below5' (by omega) (by omega) h4)
      · obtain rfl : i = cnt := by omega
        exact he _ below5 h3
  exact key big i0 below5 hi (by have := big_ge; omega) h0
theorem zz21_h3 {some1 : Y4} {p2 : Y2} (cnt : Nat) (Inv : Nat → Y4 → Prop) {res : Option (Int × Unit)} (hn : cnt ≤ 500000000000)
  (hs : ∀ (rc : Y4 → Y2 → Y4 → Int → Option (Int × Unit)) (i : Nat) (low5 : Y4), i < cnt → Inv i low5 → (∀ (low5' : Y4), Inv (i + 1) low5' → rc some1 p2 low5' ((i + 1 : Nat) : Int) = res) → zz21_b3 (zz21_F7 big rc (zz21_a3 (zz21_F13 big))) (zz21_a3 (zz21_F13 big)) some1 p2 low5 (i : Int) = res)
  (he : ∀ (rc : Y4 → Y2 → Y4 → Int → Option (Int × Unit)) (low5 : Y4), Inv cnt low5 → zz21_b3 (zz21_F7 big rc (zz21_a3 (zz21_F13 big))) (zz21_a3 (zz21_F13 big)) some1 p2 low5 (cnt : Int) = res)
  (i0 : Nat) (hi : i0 ≤ cnt) (low5 : Y4) (h0 : Inv i0 low5) : zz21_F3 big some1 p2 low5 (i0 : Int) = res := by
  have key : ∀ (m i : Nat) (low5 : Y4), i ≤ cnt → cnt < m + i → Inv i low5 → zz21_l3 big (zz21_a3 (zz21_F13 big)) m some1 p2 low5 (i : Int) = res := by
    intro m
    induction m with
    | zero => intro i low5 h1 h2 h3; exact absurd h2 (by omega)
    | succ m ih =>
      intro i low5 h1 h2 h3
      rcases Nat.lt_or_ge i cnt with hlt | hge
      · exact hs _ i low5 hlt h3 (fun low5' h4 => ih (i + 1) low5' (by omega) (by omega) h4)
      · obtain rfl : i = cnt := by omega
        exact he _ low5 h3
  exact key big i0 low5 hi (by have := big_ge; omega) h0
theorem zz21_h7 {rec : Y4 → Y2 → Y4 → Int → Option (Int × Unit)} {k : Y2 → Y4 → Option (Int × Unit)} {some1 : Y4} {p2 : Y2} {low5 : Y4} {z6 : Int} (cnt : Nat) (Inv : Nat → Bool → Prop) {res : Option (Int × Unit)} (hn : cnt ≤ 500000000000)
  (hs : ∀ (rc : Y4 → Y2 → Y4 → Int → Bool → Int → Option (Int × Unit)) (i : Nat) (all7 : Bool), i < cnt → Inv i all7 → (∀ (all7' : Bool), Inv (i + 1) all7' → rc some1 p2 low5 z6 all7' ((i + 1 : Nat) : Int) = res) → zz21_b7 rc (zz21_a7 rec) some1 p2 low5 z6 all7 (i : Int) = res)
  (he : ∀ (rc : Y4 → Y2 → Y4 → Int → Bool → Int → Option (Int × Unit)) (all7 : Bool), Inv cnt all7 → zz21_b7 rc (zz21_a7 rec) some1 p2 low5 z6 all7 (cnt : Int) = res)
  (i0 : Nat) (hi : i0 ≤ cnt) (all7 : Bool) (h0 : Inv i0 all7) : zz21_F7 big rec k some1 p2 low5 z6 all7 (i0 : Int) = res := by
  have key : ∀ (m i : Nat) (all7 : Bool), i ≤ cnt → cnt < m + i → Inv i all7 → zz21_l7 big (zz21_a7 rec) m some1 p2 low5 z6 all7 (i : Int) = res := by
    intro m
    induction m with
    | zero => intro i all7 h1 h2 h3; exact absurd h2 (by omega)
    | succ m ih =>
      intro i all7 h1 h2 h3
      rcases Nat.lt_or_ge i cnt with hlt | hge
      · exact hs _ i all7 hlt h3 (fun all7' h4 => ih (i + 1) all7' (by omega) (by omega) h4)
      · obtain rfl : i = cnt := by omega
        exact he _ all7 h3
  exact key big i0 all7 hi (by have := big_ge; omega) h0
theorem zz21_h13 {p2 : Y2} {low5 : Y4} (cnt : Nat) (Inv : Nat → Prop) {res : Option (Int × Unit)} (hn : cnt ≤ 500000000000)
  (hs : ∀ (rc : Y2 → Y4 → Int → Option (Int × Unit)) (i : Nat), i < cnt → Inv i → (Inv (i + 1) → rc p2 low5 ((i + 1 : Nat) : Int) = res) → zz21_b13 rc zz21_a13 p2 low5 (i : Int) = res)
  (he : ∀ (rc : Y2 → Y4 → Int → Option (Int × Unit)), Inv cnt → zz21_b13 rc zz21_a13 p2 low5 (cnt : Int) = res)
  (i0 : Nat) (hi : i0 ≤ cnt) (h0 : Inv i0) : zz21_F13 big p2 low5 (i0 : Int) = res := by
  have key : ∀ (m i : Nat), i ≤ cnt → cnt < m + i → Inv i → zz21_l13 big zz21_a13 m p2 low5 (i : Int) = res := by
    intro m
    induction m with
    | zero => intro i h1 h2 h3; exact absurd h2 (by omega)
    | succ m ih =>
      intro i h1 h2 h3
      rcases Nat.lt_or_ge i cnt with hlt | hge
      · exact hs _ i hlt h3 (fun h4 => ih (i + 1) (by omega) (by omega) h4)
      · obtain rfl : i = cnt := by omega
        exact he _ h3
  exact key big i0 hi (by have := big_ge; omega) h0
theorem zz22_h5 {p1 : Y2} {dual3 : Y2} (cnt : Nat) (Inv : Nat → Prop) {res : Option (Bool × Unit)} (hn : cnt ≤ 500000000000)
  (hs : ∀ (rc : Y2 → Y2 → Int → Option (Bool × Unit)) (i : Nat), i < cnt → Inv i → (Inv (i + 1) → rc p1 dual3 ((i + 1 : Nat) : Int) = res) → zz22_b5 (zz22_F8 big rc zz22_a5) zz22_a5 p1 dual3 (i : Int) = res)
  (he : ∀ (rc : Y2 → Y2 → Int → Option (Bool × Unit)), Inv cnt → zz22_b5 (zz22_F8 big rc zz22_a5) zz22_a5 p1 dual3 (cnt : Int) = res)
  (i0 : Nat) (hi : i0 ≤ cnt) (h0 : Inv i0) : zz22_F5 big p1 dual3 (i0 : Int) = res := by
  have key : ∀ (m i : Nat), i ≤ cnt → cnt < m + i → Inv i → zz22_l5 big zz22_a5 m p1 dual3 (i : Int) = res := by
    intro m
    induction m with
    | zero => intro i h1 h2 h3; exact absurd h2 (by omega)
    | succ m ih =>
      intro i h1 h2 h3
      rcases Nat.lt_or_ge i cnt with hlt | hge
      · exact hs _ i hlt h3 (fun h4 => ih (i + 1) (by omega) (by omega) h4)
      · obtain rfl : i = cnt := by omega
        exact he _ h3
  exact key big i0 hi (by have := big_ge; omega) h0
theorem zz22_h8 {rec : Y2 → Y2 → Int → Option (Bool × Unit)} {k : Option (Bool × Unit)} {p1 : Y2} {dual3 : Y2} {x4 : Int} (cnt : Nat) (Inv : Nat → Prop) {res : Option (Bool × Unit)} (hn : cnt ≤ 500000000000)
  (hs : ∀ (rc : Y2 → Y2 → Int → Int → Option (Bool × Unit)) (i : Nat), i < cnt → Inv i → (Inv (i + 1) → rc p1 dual3 x4 ((i + 1 : Nat) : Int) = res) → zz22_b8 rc (zz22_a8 rec) p1 dual3 x4 (i : Int) = res)
  (he : ∀ (rc : Y2 → Y2 → Int → Int → Option (Bool × Unit)), Inv cnt → zz22_b8 rc (zz22_a8 rec) p1 dual3 x4 (cnt : Int) = res)
  (i0 : Nat) (hi : i0 ≤ cnt) (h0 : Inv i0) : zz22_F8 big rec k p1 dual3 x4 (i0 : Int) = res := by
  have key : ∀ (m i : Nat), i ≤ cnt → cnt < m + i → Inv i → zz22_l8 big (zz22_a8 rec) m p1 dual3 x4 (i : Int) = res := by
    intro m
    induction m with
    | zero => intro i h1 h2 h3; exact absurd h2 (by omega)
    | succ m ih =>
      intro i h1 h2 h3
      rcases Nat.lt_or_ge i cnt with hlt | hge
      · exact hs _ i hlt h3 (fun h4 => ih (i + 1) (by omega) (by omega) h4)
      · obtain rfl : i = cnt := by omega
        exact he _ h3
  exact key big i0 hi (by have := big_ge; omega) h0
theorem zz25_q3 {p1 : Y2} {n4 : Int} (cnt : Nat) (Inv : Nat → Prop) {Q : Option ((Y4 × (Bool × Unit)) × Unit) → Prop} (hn : cnt ≤ 500000000000)
  (hs : ∀ (rc : Y2 → Int → Int → Option ((Y4 × (Bool × Unit)) × Unit)) (i : Nat), i < cnt → Inv i → (Inv (i + 1) → Q (rc p1 n4 ((i + 1 : Nat) : Int))) → Q (zz25_b3 (zz25_F6 big rc zz25_a3) zz25_a3 p1 n4 (i : Int)))
  (he : ∀ (rc : Y2 → Int → Int → Option ((Y4 × (Bool × Unit)) × Unit)), Inv cnt → Q (zz25_b3 (zz25_F6 big rc zz25_a3) zz25_a3 p1 n4 (cnt : Int)))
  (i0 : Nat) (hi : i0 ≤ cnt) (h0 : Inv i0) : Q (zz25_F3 big p1 n4 (i0 : Int)) := by
  have key : ∀ (m i : Nat), i ≤ cnt → cnt < m + i → Inv i → Q (zz25_l3 big zz25_a3 m p1 n4 (i : Int)) := by
    intro m
    induction m with
    | zero => intro i h1 h2 h3; exact absurd h2 (by omega)
    | succ m ih =>
      intro i h1 h2 h3
      rcases Nat.lt_or_ge i cnt with hlt | hge
      · exact hs _ i hlt h3 (fun h4 => ih (i + 1) (by omega) (by omega) h4)
      · obtain rfl : i = cnt := by omega
        exact he _ h3
  exact key big i0 hi (by have := big_ge; omega) h0
theorem zz25_q6 {rec : Y2 → Int → Int → Option ((Y4 × (Bool × Unit)) × Unit)} {k : Option ((Y4 × (Bool × Unit)) × Unit)} {p1 : Y2} {n4 : Int} {x5 : Int} (cnt : Nat) (Inv : Nat → Prop) {Q : Option ((Y4 × (Bool × Unit)) × Unit) → Prop} (hn : cnt ≤ 500000000000)
  (hs : ∀ (rc : Y2 → Int → Int → Int → Option ((Y4 × (Bool × Unit)) × Unit)) (i : Nat), i < cnt → Inv i → (Inv (i + 1) → Q (rc p1 n4 x5 ((i + 1 : Nat) : Int))) → Q (zz25_b6 (zz25_F9 big rc (zz25_a6 rec)) (zz25_a6 rec) p1 n4 x5 (i : Int)))
  (he : ∀ (rc : Y2 → Int → Int → Int → Option ((Y4 × (Bool × Unit)) × Unit)), Inv cnt → Q (zz25_b6 (zz25_F9 big rc (zz25_a6 rec)) (zz25_a6 rec) p1 n4 x5 (cnt : Int)))
  (i0 : Nat) (hi : i0 ≤ cnt) (h0 : Inv i0) : Q (zz25_F6 big rec k p1 n4 x5 (i0 : Int)) := by
  have key : ∀ (m i : Nat), i ≤ cnt → cnt < m + i → Inv i → Q (zz25_l6 big (zz25_a6 rec) m p1 n4 x5 (i : Int)) := by
    intro m
    induction m with
    | zero => intro i h1 h2 h3; exact absurd h2 (by omega)
    | succ m ih =>
      intro i h1 h2 h3
      rcases Nat.lt_or_ge i cnt with hlt | hge
      · exact hs _ i hlt h3 (fun h4 => ih (i + 1) (by omega) (by omega) h4)
      · obtain rfl : i = cnt := by omega
        exact he _ h3
  exact key big i0 hi (by have := big_ge; omega) h0
theorem zz25_q9 {rec : Y2 → Int → Int → Int → Option ((Y4 × (Bool × Unit)) × Unit)} {k : Y2 → Int → Int → Option ((Y4 × (Bool × Unit)) × Unit)} {p1 : Y2} {n4 : Int} {x5 : Int} {y6 : Int} (cnt : Nat) (Inv : Nat → Prop) {Q : Option ((Y4 × (Bool × Unit)) × Unit) → Prop} (hn : cnt ≤ 500000000000)
  (hs : ∀ (rc : Y2 → Int → Int → Int → Int → Option ((Y4 × (Bool × Unit)) × Unit)) (i : Nat), i < cnt → Inv i → (Inv (i + 1) → Q (rc p1 n4 x5 y6 ((i + 1 : Nat) : Int))) → Q (zz25_b9 rc (zz25_a9 rec) p1 n4 x5 y6 (i : Int)))
  (he : ∀ (rc : Y2 → Int → Int → Int → Int → Option ((Y4 × (Bool × Unit)) × Unit)), Inv cnt → Q (zz25_b9 rc (zz25_a9 rec) p1 n4 x5 y6 (cnt : Int)))
  (i0 : Nat) (hi : i0 ≤ cnt) (h0 : Inv i0) : Q (zz25_F9 big rec k p1 n4 x5 y6 (i0 : Int)) := by
  have key : ∀ (m i : Nat), i ≤ cnt → cnt < m + i → Inv i → Q (zz25_l9 big (zz25_a9 rec) m p1 n4 x5 y6 (i : Int)) := by
    intro m
    induction m with
    | zero => intro i h1 h2 h3; exact absurd h2 (by omega)
    | succ m ih =>
      intro i h1 h2 h3
      rcases Nat.lt_or_ge i cnt with hlt | hge
      · exact hs _ i hlt h3 (fun h4 => ih (i + 1) (by omega) (by omega) h4)
      · obtain rfl : i = cnt := by omega
        exact he _ h3
  exact key big i0 hi (by have := big_ge; omega) h0
theorem zz29_h3 {x1 : Int} {y2 : Int} {z3 : Int} {p4 : Y2} (cnt : Nat) (Inv : Nat → Y4 → Prop) {res : Option (Y4 × Unit)} (hn : cnt ≤ 500000000000)
  (hs : ∀ (rc : Int → Int → Int → Y2 → Y4 → Int → Option (Y4 × Unit)) (i : Nat) (out9 : Y4), i < cnt → Inv i out9 → (∀ (out9' : Y4), Inv (i + 1) out9' → rc x1 y2 z3 p4 out9' ((i + 1 : Nat) : Int) = res) → zz29_b3 rc zz29_a3 x1 y2 z3 p4 out9 (i : Int) = res)
  (he : ∀ (rc : Int → Int → Int → Y2 → Y4 → Int → Option (Y4 × Unit)) (out9 : Y4), Inv cnt out9 → zz29_b3 rc zz29_a3 x1 y2 z3 p4 out9 (cnt : Int) = res)
  (i0 : Nat) (hi : i0 ≤ cnt) (out9 : Y4) (h0 : Inv i0 out9) : zz29_F3 big x1 y2 z3 p4 out9 (i0 : Int) = res := by
  have key : ∀ (m i : Nat) (out9 : Y4), i ≤ cnt → cnt < m + i → Inv i out9 → zz29_l3 big zz29_a3 m x1 y2 z3 p4 out9 (i : Int) = res := by
    intro m
    induction m with
    | zero => intro i out9 h1 h2 h3; exact absurd h2 (by omega)
    | succ m ih =>
      intro i out9 h1 h2 h3
      rcases Nat.lt_or_ge i cnt with hlt | hge
      · exact hs _ i out9 hlt h3 (fun out9' h4 => ih (i + 1) out9' (by omega) (by omega) h4)
      · obtain rfl : i = cnt := by omega
        exact he _ out9 h3
  exact key big i0 out9 hi (by have := big_ge; omega) h0
theorem zz30_h3 {p1 : Y2} (cnt : Nat) (Inv : Nat → Y4 → Prop) {res : Option (Y4 × Unit)} (hn : cnt ≤ 500000000000)
  (hs : ∀ (rc : Y2 → Y4 → Int → Option (Y4 × Unit)) (i : Nat) (out3 : Y4), i < cnt → Inv i out3 → (∀ (out3' : Y4), Inv (i + 1) out3' → rc p1 out3' ((i + 1 : Nat) : Int) = res) → zz30_b3 rc zz30_a3 p1 out3 (i : Int) = res)
  (he : ∀ (rc : Y2 → Y4 → Int → Option (Y4 × Unit)) (out3 : Y4), Inv cnt out3 → zz30_b3 rc zz30_a3 p1 out3 (cnt : Int) = res)
  (i0 : Nat) (hi : i0 ≤ cnt) (out3 : Y4) (h0 : Inv i0 out3) : zz30_F3 big p1 out3 (i0 : Int) = res := by
  have key : ∀ (m i : Nat) (out3 : Y4), i ≤ cnt → cnt < m + i → Inv i out3 → zz30_l3 big zz30_a3 m p1 out3 (i : Int) = res := by
    intro m
    induction m with
    | zero => intro i out3 h1 h2 h3; exact absurd h2 (by omega)
    | succ m ih =>
      intro i out3 h1 h2 h3
      rcases Nat.lt_or_ge i cnt with hlt | hge
      · exact hs _ i out3 hlt h3 (fun out3' h4 => ih (i + 1) out3' (by omega) (by omega) h4)
      · obtain rfl : i = cnt := by omega
        exact he _ out3 h3
  exact key big i0 out3 hi (by have := big_ge; omega) h0
theorem zz32_h3 {p1 : Y2} (cnt : Nat) (Inv : Nat → Y4 → Prop) {res : Option (Y4 × Unit)} (hn : cnt ≤ 500000000000)
  (hs : ∀ (rc : Y2 → Y4 → Int → Option (Y4 × Unit)) (i : Nat) (out3 : Y4), i < cnt → Inv i out3 → (∀ (out3' : Y4), Inv (i + 1) out3' → rc p1 out3' ((i + 1 : Nat) : Int) = res) → zz32_b3 rc zz32_a3 p1 out3 (i : Int) = res)
  (he : ∀ (rc : Y2 → Y4 → Int → Option (Y4 × Unit)) (out3 : Y4), Inv cnt out3 → zz32_b3 rc zz32_a3 p1 out3 (cnt : Int) = res)
  (i0 : Nat) (hi : i0 ≤ cnt) (out3 : Y4) (h0 : Inv i0 out3) : zz32_F3 big p1 out3 (i0 : Int) = res := by
  have key : ∀ (m i : Nat) (out3 : Y4), i ≤ cnt → cnt < m + i → Inv i out3 → zz32_l3 big zz32_a3 m p1 out3 (i : Int) = res := by
    intro m
    induction m with
    | zero => intro i out3 h1 h2 h3; exact absurd h2 (by omega)
    | succ m ih =>
      intro i out3 h1 h2 h3
      rcases Nat.lt_or_ge i cnt with hlt | hge
      · exact hs _ i out3 hlt h3 (fun out3' h4 => ih (i + 1) out3' (by omega) (by omega) h4)
      · obtain rfl : i = cnt := by omega
        exact he _ out3 h3
  exact key big i0 out3 hi (by have := big_ge; omega) h0
theorem zz34_h4 {p1 : Y2} {t2 : Y7} {n3 : Int} {not4 : Y4} (cnt : Nat) (Inv : Nat → Y6 → Y6 → Prop) {res : Option (Y7 × Unit)} (hn : cnt ≤ 500000000000)
  (hs : ∀ (rc : Y2 → Y7 → Int → Y4 → Y6 → Y6 → Int → Option (Y7 × Unit)) (i : Nat) (sum5 : Y6) (meet6 : Y6), i < cnt → Inv i sum5 meet6 → (∀ (sum5' : Y6) (meet6' : Y6), Inv (i + 1) sum5' meet6' → rc p1 t2 n3 not4 sum5' meet6' ((i + 1 : Nat) : Int) = res) → zz34_b4 (zz34_F7 big rc zz34_a4) zz34_a4 p1 t2 n3 not4 sum5 meet6 (i : Int) = res)
  (he : ∀ (rc : Y2 → Y7 → Int → Y4 → Y6 → Y6 → Int → Option (Y7 × Unit)) (sum5 : Y6) (meet6 : Y6), Inv cnt sum5 meet6 → zz34_b4 (zz34_F7 big rc zz34_a4) zz34_a4 p1 t2 n3 not4 sum5 meet6 (cnt : Int) = res)
  (i0 : Nat) (hi : i0 ≤ cnt) (sum5 : Y6) (meet6 : Y6) (h0 : Inv i0 sum5 meet6) : zz34_F4 big p1 t2 n3 not4 sum5 meet6 (i0 : Int) = res := by
  have key : ∀ (m i : Nat) (sum5 : Y6) (meet6 : Y6), i ≤ cnt → cnt < m + i → Inv i sum5 meet6 → zz34_l4 big zz34_a4 m p1 t2 n3 not4 sum5 meet6 (i : Int) = res := by
    intro m
    induction m with
    | zero => intro i sum5 meet6 h1 h2 h3; exact absurd h2 (by omega)
    | succ m ih =>
      intro i sum5 meet6 h1 h2 h3
      rcases Nat.lt_or_ge i cnt with hlt | hge
      · exact hs _ i sum5 meet6 hlt h3 (fun sum5' meet6' h4 => ih (i + 1) sum5' meet6' (by omega) (by omega) h4)
      · obtain rfl : i = cnt := by omega
        exact he _ sum5 meet6 h3
  exact key big i0 sum5 meet6 hi (by have := big_ge; omega) h0
theorem zz34_h7 {rec : Y2 → Y7 → Int → Y4 → Y6 → Y6 → Int → Option (Y7 × Unit)} {k : Y7 → Int → Y6 → Y6 → Option (Y7 × Unit)} {p1 : Y2} {t2 : Y7} {n3 : Int} {not4 : Y4} {x7 : Int} (cnt : Nat) (Inv : Nat → Y6 → Y6 → Prop) {res : Option (Y7 × Unit)} (hn : cnt ≤ 500000000000)
  (hs : ∀ (rc : Y2 → Y7 → Int → Y4 → Y6 → Y6 → Int → Int → Option (Y7 × Unit)) (i : Nat) (sum5 : Y6) (meet6 : Y6), i < cnt → Inv i sum5 meet6 → (∀ (sum5' : Y6) (meet6' : Y6), Inv (i + 1) sum5' meet6' → rc p1 t2 n3 not4 sum5' meet6' x7 ((i + 1 : Nat) : Int) = res) → zz34_b7 rc (zz34_a7 rec) p1 t2 n3 not4 sum5 meet6 x7 (i : Int) = res)
  (he : ∀ (rc : Y2 → Y7 → Int → Y4 → Y6 → Y6 → Int → Int → Option (Y7 × Unit)) (sum5 : Y6) (meet6 : Y6), Inv cnt sum5 meet6 → zz34_b7 rc (zz34_a7 rec) p1 t2 n3 not4 sum5 meet6 x7 (cnt : Int) = res)
  (i0 : Nat) (hi : i0 ≤ cnt) (sum5 : Y6) (meet6 : Y6) (h0 : Inv i0 sum5 meet6) : zz34_F7 big rec k p1 t2 n3 not4 sum5 meet6 x7 (i0 : Int) = res := by
  have key : ∀ (m i : Nat) (sum5 : Y6) (meet6 : Y6), i ≤ cnt → cnt < m + i → Inv i sum5 meet6 → zz34_l7 big (zz34_a7 rec) m p1 t2 n3 not4 sum5 meet6 x7 (i : Int) = res := by
    intro m
    induction m with
    | zero => intro i sum5 meet6 h1 h2 h3; exact absurd h2 (by omega)
    | succ m ih =>
      intro i sum5 meet6 h1 h2 h3
      rcases Nat.lt_or_ge i cnt with hlt | hge
      · exact hs _ i sum5 meet6 hlt h3 (fun sum5' meet6' h4 => ih (i + 1) sum5' meet6' (by omega) (by omega) h4)
      · obtain rfl : i = cnt := by omega
        exact he _ sum5 meet6 h3
  exact key big i0 sum5 meet6 hi (by have := big_ge; omega) h0
theorem zz35_h5 {a1 : Y7} {t2 : Y2} (cnt : Nat) (Inv : Nat → Y2 → Prop) {res : Option ((Y2 × (Bool × Unit)) × Unit)} (hn : cnt ≤ 500000000000)
  (hs : ∀ (rc : Y7 → Y2 → Y2 → Int → Option ((Y2 × (Bool × Unit)) × Unit)) (i : Nat) (p4 : Y2), i < cnt → Inv i p4 → (∀ (p4' : Y2), Inv (i + 1) p4' → rc a1 t2 p4' ((i + 1 : Nat) : Int) = res) → zz35_b5 (zz35_F9 big rc zz35_a5) zz35_a5 a1 t2 p4 (i : Int) = res)
  (he : ∀ (rc : Y7 → Y2 → Y2 → Int → Option ((Y2 × (Bool × Unit)) × Unit)) (p4 : Y2), Inv cnt p4 → zz35_b5 (zz35_F9 big rc zz35_a5) zz35_a5 a1 t2 p4 (cnt : Int) = res)
  (i0 : Nat) (hi : i0 ≤ cnt) (p4 : Y2) (h0 : Inv i0 p4) : zz35_F5 big a1 t2 p4 (i0 : Int) = res := by
  have key : ∀ (m i : Nat) (p4 : Y2), i ≤ cnt → cnt < m + i → Inv i p4 → zz35_l5 big zz35_a5 m a1 t2 p4 (i : Int) = res := by
    intro m
    induction m with
    | zero => intro i p4 h1 h2 h3; exact absurd h2 (by omega)
    | succ m ih =>
      intro i p4 h1 h2 h3
      rcases Nat.lt_or_ge i cnt with hlt | hge
      · exact hs _ i p4 hlt h3 (fun p4' h4 => ih (i + 1) p4' (by omega) (by omega) h4)
      · obtain rfl : i = cnt := by omega
        exact he _ p4 h3
  exact key big i0 p4 hi (by have := big_ge; omega) h0
theorem zz35_h9 {rec : Y7 → Y2 → Y2 → Int → Option ((Y2 × (Bool × Unit)) × Unit)} {k : Y7 → Y2 → Y2 → Option ((Y2 × (Bool × Unit)) × Unit)} {a1 : Y7} {t2 : Y2} {p4 : Y2} {y5 : Int} (cnt : Nat) (Inv : Nat → Y4 → Prop) {res : Option ((Y2 × (Bool × Unit)) × Unit)} (hn : cnt ≤ 500000000000)
  (hs : ∀ (rc : Y7 → Y2 → Y2 → Int → Y4 → Int → Option ((Y2 × (Bool × Unit)) × Unit)) (i : Nat) (below6 : Y4), i < cnt → Inv i below6 → (∀ (below6' : Y4), Inv (i + 1) below6' → rc a1 t2 p4 y5 below6' ((i + 1 : Nat) : Int) = res) → zz35_b9 rc (zz35_a9 rec) a1 t2 p4 y5 below6 (i : Int) = res)
  (he : ∀ (rc : Y7 → Y2 → Y2 → Int → Y4 → Int → Option ((Y2 × (Bool × Unit)) × Unit)) (below6 : Y4), Inv cnt below6 → zz35_b9 rc (zz35_a9 rec) a1 t2 p4 y5 below6 (cnt : Int) = res)
  (i0 : Nat) (hi : i0 ≤ cnt) (below6 : Y4) (h0 : Inv i0 below6) : zz35_F9 big rec k a1 t2 p4 y5 below6 (i0 : Int) = res := by
  have key : ∀ (m i : Nat) (below6 : Y4), i ≤ cnt → cnt < m + i → Inv i below6 → zz35_l9 big (zz35_a9 rec) m a1 t2 p4 y5 below6 (i : Int) = res := by
    intro m
    induction m with
    | zero => intro i below6 h1 h2 h3; exact absurd h2 (by omega)
    | succ m ih =>
      intro i below6 h1 h2 h3
      rcases Nat.lt_or_ge i cnt with hlt | hge
      · exact hs _ i below6 hlt h3 (fun below6' h4 => ih (i + 1) below6' (by omega) (by omega) h4)
      · obtain rfl : i = cnt := by omega
        exact he _ below6 h3
  exact key big i0 below6 hi (by have := big_ge; omega) h0
theorem zz36_w2 {n0 : Int} (mu : Int → Int → Nat) (Inv : Int → Int → Prop) {res : Option (Int × Unit)}
  (hs : ∀ (rc : Int → Int → Int → Option (Int × Unit)) (k1 : Int) (p5 : Int), Inv k1 p5 → (∀ (k1' : Int) (p5' : Int), Inv k1' p5' → mu k1' p5' < mu k1 p5 → rc n0 k1' p5' = res) → zz36_b2 rc zz36_a2 n0 k1 p5 = res)
  (k1 : Int) (p5 : Int) (hm : mu k1 p5 ≤ 500000000000) (h0 : Inv k1 p5) : zz36_F2 big n0 k1 p5 = res := by
  have key : ∀ (m : Nat) (k1 : Int) (p5 : Int), mu k1 p5 < m → Inv k1 p5 → zz36_l2 big zz36_a2 m n0 k1 p5 = res := by
    intro m
    induction m with
    | zero => intro k1 p5 h2 h3; exact absurd h2 (by omega)
    | succ m ih =>
      intro k1 p5 h2 h3
      exact hs _ k1 p5 h3 (fun k1' p5' h4 h5 => ih k1' p5' (by omega) h4)
  exact key big k1 p5 (by have := big_ge; omega) h0
theorem zz39_h4 {a1 : Y7} {t20 : (List Y6)} {t21 : Int} (cnt : Nat) (Inv : Nat → Prop) {res : Option (Bool × Unit)} (hn : cnt ≤ 500000000000)
  (hs : ∀ (rc : Y7 → (List Y6) → Int → Int → Option (Bool × Unit)) (i : Nat), i < cnt → Inv i → (Inv (i + 1) → rc a1 t20 t21 ((i + 1 : Nat) : Int) = res) → zz39_b4 rc zz39_a4 a1 t20 t21 (i : Int) = res)
  (he : ∀ (rc : Y7 → (List Y6) → Int → Int → Option (Bool × Unit)), Inv cnt → zz39_b4 rc zz39_a4 a1 t20 t21 (cnt : Int) = res)
  (i0 : Nat) (hi : i0 ≤ cnt) (h0 : Inv i0) : zz39_F4 big a1 t20 t21 (i0 : Int) = res := by
  have key : ∀ (m i : Nat), i ≤ cnt → cnt < m + i → Inv i → zz39_l4 big zz39_a4 m a1 t20 t21 (i : Int) = res := by
    intro m
    induction m with
    | zero => intro i h1 h2 h3; exact absurd h2 (by omega)
    | succ m ih =>
      intro i h1 h2 h3
      rcases Nat.lt_or_ge i cnt with hlt | hge
      · exact hs _ i hlt h3 (fun h4 => ih (i + 1) (by omega) (by omega) h4)
      · obtain rfl : i = cnt := by omega
        exact he _ h3
  exact key big i0 hi (by have := big_ge; omega) h0
theorem zz40_h3 {t8 : (List Y6)} {t9 : Int} (cnt : Nat) (Inv : Nat → Y4 → Prop) {res : Option (Y4 × Unit)} (hn : cnt ≤ 500000000000)
  (hs : ∀ (rc : Y4 → (List Y6) → Int → Int → Option (Y4 × Unit)) (i : Nat) (list3 : Y4), i < cnt → Inv i list3 → (∀ (list3' : Y4), Inv (i + 1) list3' → rc list3' t8 t9 ((i + 1 : Nat) : Int) = res) → zz40_b3 rc zz40_a3 list3 t8 t9 (i : Int) = res)
  (he : ∀ (rc : Y4 → (List Y6) → Int → Int → Option (Y4 × Unit)) (list3 : Y4), Inv cnt list3 → zz40_b3 rc zz40_a3 list3 t8 t9 (cnt : Int) = res)
  (i0 : Nat) (hi : i0 ≤ cnt) (list3 : Y4) (h0 : Inv i0 list3) : zz40_F3 big list3 t8 t9 (i0 : Int) = res := by
  have key : ∀ (m i : Nat) (list3 : Y4), i ≤ cnt → cnt < m + i → Inv i list3 → zz40_l3 big zz40_a3 m list3 t8 t9 (i : Int) = res := by
    intro m
    induction m with
    | zero => intro i list3 h1 h2 h3; exact absurd h2 (by omega)
    | succ m ih =>
      intro i list3 h1 h2 h3
      rcases Nat.lt_or_ge i cnt with hlt | hge
      · exact hs _ i list3 hlt h3 (fun list3' h4 => ih (i + 1) list3' (by omega) (by omega) h4)
      · obtain rfl : i = cnt := by omega
        exact he _ list3 h3
  exact key big i0 list3 hi (by have := big_ge; omega) h0
theorem zz41_h4 {b1 : Y4} {t12 : Y4} {t13 : Int} (cnt : Nat) (Inv : Nat → Prop) {res : Option (Bool × Unit)} (hn : cnt ≤ 500000000000)
  (hs : ∀ (rc : Y4 → Y4 → Int → Int → Option (Bool × Unit)) (i : Nat), i < cnt → Inv i → (Inv (i + 1) → rc b1 t12 t13 ((i + 1 : Nat) : Int) = res) → zz41_b4 rc zz41_a4 b1 t12 t13 (i : Int) = res)
  (he : ∀ (rc : Y4 → Y4 → Int → Int → Option (Bool × Unit)), Inv cnt → zz41_b4 rc zz41_a4 b1 t12 t13 (cnt : Int) = res)
  (i0 : Nat) (hi : i0 ≤ cnt) (h0 : Inv i0) : zz41_F4 big b1 t12 t13 (i0 : Int) = res := by
  have key : ∀ (m i : Nat), i ≤ cnt → cnt < m + i → Inv i → zz41_l4 big zz41_a4 m b1 t12 t13 (i : Int) = res := by
    intro m
    induction m with
    | zero => intro i h1 h2 h3; exact absurd h2 (by omega)
    | succ m ih =>
      intro i h1 h2 h3
      rcases Nat.lt_or_ge i cnt with hlt | hge
      · exact hs _ i hlt h3 (fun h4 => ih (i + 1) (by omega) (by omega) h4)
      · obtain rfl : i = cnt := by omega
        exact he _ h3
  exact key big i0 hi (by have := big_ge; omega) h0
theorem zz42_h3 {n0 : Int} {t8 : Int} (cnt : Nat) (Inv : Nat → Y5 → Prop) {res : Option (Y5 × Unit)} (hn : cnt ≤ 500000000000)
  (hs : ∀ (rc : Int → Y5 → Int → Int → Option (Y5 × Unit)) (i : Nat) (o3 : Y5), i < cnt → Inv i o3 → (∀ (o3' : Y5), Inv (i + 1) o3' → rc n0 o3' t8 ((i + 1 : Nat) : Int) = res) → zz42_b3 rc zz42_a3 n0 o3 t8 (i : Int) = res)
  (he : ∀ (rc : Int → Y5 → Int → Int → Option (Y5 × Unit)) (o3 : Y5), Inv cnt o3 → zz42_b3 rc zz42_a3 n0 o3 t8 (cnt : Int) = res)
  (i0 : Nat) (hi : i0 ≤ cnt) (o3 : Y5) (h0 : Inv i0 o3) : zz42_F3 big n0 o3 t8 (i0 : Int) = res := by
  have key : ∀ (m i : Nat) (o3 : Y5), i ≤ cnt → cnt < m + i → Inv i o3 → zz42_l3 big zz42_a3 m n0 o3 t8 (i : Int) = res := by
    intro m
    induction m with
    | zero => intro i o3 h1 h2 h3; exact absurd h2 (by omega)
    | succ m ih =>
      intro i o3 h1 h2 h3
      rcases Nat.lt_or_ge i cnt with hlt | hge
      · exact hs _ i o3 hlt h3 (fun o3' h4 => ih (i + 1) o3' (by omega) (by omega) h4)
      · obtain rfl : i = cnt := by omega
        exact he _ o3 h3
  exact key big i0 o3 hi (by have := big_ge; omega) h0
theorem zz43_h3 {n0 : Int} {table1 : Y4} {t11 : Int} (cnt : Nat) (Inv : Nat → Y5 → Prop) {res : Option (Y5 × Unit)} (hn : cnt ≤ 500000000000)
  (hs : ∀ (rc : Int → Y4 → Y5 → Int → Int → Option (Y5 × Unit)) (i : Nat) (o5 : Y5), i < cnt → Inv i o5 → (∀ (o5' : Y5), Inv (i + 1) o5' → rc n0 table1 o5' t11 ((i + 1 : Nat) : Int) = res) → zz43_b3 (zz43_F6 big rc zz43_a3) zz43_a3 n0 table1 o5 t11 (i : Int) = res)
  (he : ∀ (rc : Int → Y4 → Y5 → Int → Int → Option (Y5 × Unit)) (o5 : Y5), Inv cnt o5 → zz43_b3 (zz43_F6 big rc zz43_a3) zz43_a3 n0 table1 o5 t11 (cnt : Int) = res)
  (i0 : Nat) (hi : i0 ≤ cnt) (o5 : Y5) (h0 : Inv i0 o5) : zz43_F3 big n0 table1 o5 t11 (i0 : Int) = res := by
  have key : ∀ (m i : Nat) (o5 : Y5), i ≤ cnt → cnt < m + i → Inv i o5 → zz43_l3 big zz43_a3 m n0 table1 o5 t11 (i : Int) = res := by
    intro m
    induction m with
    | zero => intro i o5 h1 h2 h3; exact absurd h2 (by omega)
    | succ m ih =>
      intro i o5 h1 h2 h3
      rcases Nat.lt_or_ge i cnt with hlt | hge
      · exact hs _ i o5 hlt h3 (fun o5' h4 => ih (i + 1) o5' (by omega) (by omega) h4)
      · obtain rfl : i = cnt := by omega
        exact he _ o5 h3
  exact key big i0 o5 hi (by have := big_ge; omega) h0
theorem zz43_h6 {rec : Int → Y4 → Y5 → Int → Int → Option (Y5 × Unit)} {k : Y5 → Option (Y5 × Unit)} {n0 : Int} {table1 : Y4} {x6 : Int} {t11 : Int} {t12 : Int} {t16 : Int} (cnt : Nat) (Inv : Nat → Y5 → Prop) {res : Option (Y5 × Unit)} (hn : cnt ≤ 500000000000)
  (hs : ∀ (rc : Int → Y4 → Y5 → Int → Int → Int → Int → Int → Option (Y5 × Unit)) (i : Nat) (o5 : Y5), i < cnt → Inv i o5 → (∀ (o5' : Y5), Inv (i + 1) o5' → rc n0 table1 o5' x6 t11 t12 t16 ((i + 1 : Nat) : Int) = res) → zz43_b6 rc (zz43_a6 rec) n0 table1 o5 x6 t11 t12 t16 (i : Int) = res)
  (he : ∀ (rc : Int → Y4 → Y5 → Int → Int → Int → Int → Int → Option (Y5 × Unit)) (o5 : Y5), Inv cnt o5 → zz43_b6 rc (zz43_a6 rec) n0 table1 o5 x6 t11 t12 t16 (cnt : Int) = res)
  (i0 : Nat) (hi : i0 ≤ cnt) (o5 : Y5) (h0 : Inv i0 o5) : zz43_F6 big rec k n0 table1 o5 x6 t11 t12 t16 (i0 : Int) = res := by
  have key : ∀ (m i : Nat) (o5 : Y5), i ≤ cnt → cnt < m + i → Inv i o5 → zz43_l6 big (zz43_a6 rec) m n0 table1 o5 x6 t11 t12 t16 (i : Int) = res := by
    intro m
    induction m with
    | zero => intro i o5 h1 h2 h3; exact absurd h2 (by omega)
    | succ m ih =>
      intro i o5 h1 h2 h3
      rcases Nat.lt_or_ge i cnt with hlt | hge
      · exact hs _ i o5 hlt h3 (fun o5' h4 => ih (i + 1) o5' (by omega) (by omega) h4)
      · obtain rfl : i = cnt := by omega
        exact he _ o5 h3
  exact key big i0 o5 hi (by have := big_ge; omega) h0
theorem zz44_h3 {o0 : Y5} {t2 : Y2} {t10 : Int} (cnt : Nat) (Inv : Nat → Y2 → Prop) {res : Option (Y2 × Unit)} (hn : cnt ≤ 500000000000)
  (hs : ∀ (rc : Y5 → Y2 → Y2 → Int → Int → Option (Y2 × Unit)) (i : Nat) (p3 : Y2), i < cnt → Inv i p3 → (∀ (p3' : Y2), Inv (i + 1) p3' → rc o0 t2 p3' t10 ((i + 1 : Nat) : Int) = res) → zz44_b3 (zz44_F7 big rc zz44_a3) zz44_a3 o0 t2 p3 t10 (i : Int) = res)
  (he : ∀ (rc : Y5 → Y2 → Y2 → Int → Int → Option (Y2 × Unit)) (p3 : Y2), Inv cnt p3 → zz44_b3 (zz44_F7 big rc zz44_a3) zz44_a3 o0 t2 p3 t10 (cnt : Int) = res)
  (i0 : Nat) (hi : i0 ≤ cnt) (p3 : Y2) (h0 : Inv i0 p3) : zz44_F3 big o0 t2 p3 t10 (i0 : Int) = res := by
  have key : ∀ (m i : Nat) (p3 : Y2), i ≤ cnt → cnt < m + i → Inv i p3 → zz44_l3 big zz44_a3 m o0 t2 p3 t10 (i : Int) = res := by
    intro m
    induction m with
    | zero => intro i p3 h1 h2 h3; exact absurd h2 (by omega)
    | succ m ih =>
      intro i p3 h1 h2 h3
      rcases Nat.lt_or_ge i cnt with hlt | hge
      · exact hs _ i p3 hlt h3 (fun p3' h4 => ih (i + 1) p3' (by omega) (by omega) h4)
      · obtain rfl : i = cnt := by omega
        exact he _ p3 h3
  exact key big i0 p3 hi (by have := big_ge; omega) h0
theorem zz44_h7 {rec : Y5 → Y2 → Y2 → Int → Int → Option (Y2 × Unit)} {k : Y2 → Y2 → Option (Y2 × Unit)} {o0 : Y5} {t2 : Y2} {p3 : Y2} {x4 : Int} {t10 : Int} {t11 : Int} {t16 : Int} (cnt : Nat) (Inv : Nat → Y4 → Prop) {res : Option (Y2 × Unit)} (hn : cnt ≤ 500000000000)
  (hs : ∀ (rc : Y5 → Y2 → Y2 → Int → Y4 → Int → Int → Int → Int → Option (Y2 × Unit)) (i : Nat) (list5 : Y4), i < cnt → Inv i list5 → (∀ (list5' : Y4), Inv (i + 1) list5' → rc o0 t2 p3 x4 list5' t10 t11 t16 ((i + 1 : Nat) : Int) = res) → zz44_b7 rc (zz44_a7 rec) o0 t2 p3 x4 list5 t10 t11 t16 (i : Int) = res)
  (he : ∀ (rc : Y5 → Y2 → Y2 → Int → Y4 → Int → Int → Int → Int → Option (Y2 × Unit)) (list5 : Y4), Inv cnt list5 → zz44_b7 rc (zz44_a7 rec) o0 t2 p3 x4 list5 t10 t11 t16 (cnt : Int) = res)
  (i0 : Nat) (hi : i0 ≤ cnt) (list5 : Y4) (h0 : Inv i0 list5) : zz44_F7 big rec k o0 t2 p3 x4 list5 t10 t11 t16 (i0 : Int) = res := by
  have key : ∀ (m i : Nat) (list5 : Y4), i ≤ cnt → cnt < m + i → Inv i list5 → zz44_l7 big (zz44_a7 rec) m o0 t2 p3 x4 list5 t10 t11 t16 (i : Int) = res := by
    intro m
    induction m with
    | zero => intro i list5 h1 h2 h3; exact absurd h2 (by omega)
    | succ m ih =>
      intro i list5 h1 h2 h3
      rcases Nat.lt_or_ge i cnt with hlt | hge
      · exact hs _ i list5 hlt h3 (fun list5' h4 => ih (i + 1) list5' (by omega) (by omega) h4)
      · obtain rfl : i = cnt := by omega
        exact he _ list5 h3
  exact key big i0 list5 hi (by have := big_ge; omega) h0
theorem zz46_h2 {o0 : Y5} {t7 : Int} (cnt : Nat) (Inv : Nat → Prop) {res : Option (Bool × Unit)} (hn : cnt ≤ 500000000000)
  (hs : ∀ (rc : Y5 → Int → Int → Option (Bool × Unit)) (i : Nat), i < cnt → Inv i → (Inv (i + 1) → rc o0 t7 ((i + 1 : Nat) : Int) = res) → zz46_b2 (zz46_F7 big rc zz46_a2) zz46_a2 o0 t7 (i : Int) = res)
  (he : ∀ (rc : Y5 → Int → Int → Option (Bool × Unit)), Inv cnt → zz46_b2 (zz46_F7 big rc zz46_a2) zz46_a2 o0 t7 (cnt : Int) = res)
  (i0 : Nat) (hi : i0 ≤ cnt) (h0 : Inv i0) : zz46_F2 big o0 t7 (i0 : Int) = res := by
  have key : ∀ (m i : Nat), i ≤ cnt → cnt < m + i → Inv i → zz46_l2 big zz46_a2 m o0 t7 (i : Int) = res := by
    intro m
    induction m with
    | zero => intro i h1 h2 h3; exact absurd h2 (by omega)
    | succ m ih =>
      intro i h1 h2 h3
      rcases Nat.lt_or_ge i cnt with hlt | hge
      · exact hs _ i hlt h3 (fun h4 => ih (i + 1) (by omega) (by omega) h4)
      · obtain rfl : i = cnt := by omega
        exact he _ h3
  exact key big i0 hi (by have := big_ge; omega) h0
theorem zz46_h7 {rec : Y5 → Int → Int → Option (Bool × Unit)} {k : Option (Bool × Unit)} {o0 : Y5} {x3 : Int} {t7 : Int} {t8 : Int} {t20 : Int} (cnt : Nat) (Inv : Nat → Prop) {res : Option (Bool × Unit)} (hn : cnt ≤ 500000000000)
  (hs : ∀ (rc : Y5 → Int → Int → Int → Int → Int → Option (Bool × Unit)) (i : Nat), i < cnt → Inv i → (Inv (i + 1) → rc o0 x3 t7 t8 t20 ((i + 1 : Nat) : Int) = res) → zz46_b7 (zz46_F12 big rc (zz46_a7 rec)) (zz46_a7 rec) o0 x3 t7 t8 t20 (i : Int) = res)
  (he : ∀ (rc : Y5 → Int → Int → Int → Int → Int → Option (Bool × Unit)), Inv cnt → zz46_b7 (zz46_F12 big rc (zz46_a7 rec)) (zz46_a7 rec) o0 x3 t7 t8 t20 (cnt : Int) = res)
  (i0 : Nat) (hi : i0 ≤ cnt) (h0 : Inv i0) : zz46_F7 big rec k o0 x3 t7 t8 t20 (i0 : Int) = res := by
  have key : ∀ (m i : Nat), i ≤ cnt → cnt < m + i → Inv i → zz46_l7 big (zz46_a7 rec) m o0 x3 t7 t8 t20 (i : Int) = res := by
    intro m
    induction m with
    | zero => intro i h1 h2 h3; exact absurd h2 (by omega)
    | succ m ih =>
      intro i h1 h2 h3
      rcases Nat.lt_or_ge i cnt with hlt | hge
      · exact hs _ i hlt h3 (fun h4 => ih (i + 1) (by omega) (by omega) h4)
      · obtain rfl : i = cnt := by omega
        exact he _ h3
  exact key big i0 hi (by have := big_ge; omega) h0
theorem zz46_h12 {rec : Y5 → Int → Int → Int → Int → Int → Option (Bool × Unit)} {k : Y5 → Int → Int → Option (Bool × Unit)} {o0 : Y5} {x3 : Int} {y4 : Int} {t7 : Int} {t8 : Int} {t20 : Int} {t21 : Int} {t46 : Int} (cnt : Nat) (Inv : Nat → Prop) {res : Option (Bool × Unit)} (hn : cnt ≤ 500000000000)
  (hs : ∀ (rc : Y5 → Int → Int → Int → Int → Int → Int → Int → Int → Option (Bool × Unit)) (i : Nat), i < cnt → Inv i → (Inv (i + 1) → rc o0 x3 y4 t7 t8 t20 t21 t46 ((i + 1 : Nat) : Int) = res) → zz46_b12 rc (zz46_a12 rec) o0 x3 y4 t7 t8 t20 t21 t46 (i : Int) = res)
  (he : ∀ (rc : Y5 → Int → Int → Int → Int → Int → Int → Int → Int → Option (Bool × Unit)), Inv cnt → zz46_b12 rc (zz46_a12 rec) o0 x3 y4 t7 t8 t20 t21 t46 (cnt : Int) = res)
  (i0 : Nat) (hi : i0 ≤ cnt) (h0 : Inv i0) : zz46_F12 big rec k o0 x3 y4 t7 t8 t20 t21 t46 (i0 : Int) = res := by
  have key : ∀ (m i : Nat), i ≤ cnt → cnt < m + i → Inv i → zz46_l12 big (zz46_a12 rec) m o0 x3 y4 t7 t8 t20 t21 t46 (i : Int) = res := by
    intro m
    induction m with
    | zero => intro i h1 h2 h3; exact absurd h2 (by omega)
    | succ m ih =>
      intro i h1 h2 h3
      rcases Nat.lt_or_ge i cnt with hlt | hge
      · exact hs _ i hlt h3 (fun h4 => ih (i + 1) (by omega) (by omega) h4)
      · obtain rfl : i = cnt := by omega
        exact he _ h3
  exact key big i0 hi (by have := big_ge; omega) h0
theorem zz47_h6 {n4 : Int} {t18 : Y3} {t19 : Int} (cnt : Nat) (Inv : Nat → Y5 → Prop) {res : Option ((Y5 × (Bool × Unit)) × Unit)} (hn : cnt ≤ 500000000000)
  (hs : ∀ (rc : Int → Y5 → Y3 → Int → Int → Option ((Y5 × (Bool × Unit)) × Unit)) (i : Nat) (o5 : Y5), i < cnt → Inv i o5 → (∀ (o5' : Y5), Inv (i + 1) o5' → rc n4 o5' t18 t19 ((i + 1 : Nat) : Int) = res) → zz47_b6 (zz47_F11 big rc zz47_a6) zz47_a6 n4 o5 t18 t19 (i : Int) = res)
  (he : ∀ (rc : Int → Y5 → Y3 → Int → Int → Option ((Y5 × (Bool × Unit)) × Unit)) (o5 : Y5), Inv cnt o5 → zz47_b6 (zz47_F11 big rc zz47_a6) zz47_a6 n4 o5 t18 t19 (cnt : Int) = res)
  (i0 : Nat) (hi : i0 ≤ cnt) (o5 : Y5) (h0 : Inv i0 o5) : zz47_F6 big n4 o5 t18 t19 (i0 : Int) = res := by
  have key : ∀ (m i : Nat) (o5 : Y5), i ≤ cnt → cnt < m + i → Inv i o5 → zz47_l6 big zz47_a6 m n4 o5 t18 t19 (i : Int) = res := by
    intro m
    induction m with
    | zero => intro i o5 h1 h2 h3; exact absurd h2 (by omega)
    | succ m ih =>
      intro i o5 h1 h2 h3
      rcases Nat.lt_or_ge i cnt with hlt | hge
      · exact hs _ i o5 hlt h3 (fun o5' h4 => ih (i + 1) o5' (by omega) (by omega) h4)
      · obtain rfl : i = cnt := by omega
        exact he _ o5 h3
  exact key big i0 o5 hi (by have := big_ge; omega) h0
theorem zz47_h11 {rec : Int → Y5 → Y3 → Int → Int → Option ((Y5 × (Bool × Unit)) × Unit)} {k : Y5 → Option ((Y5 × (Bool × Unit)) × Unit)} {n4 : Int} {x6 : Int} {t18 : Y3} {t19 : Int} {t20 : Int} {t29 : Y4} {t30 : Int} {t31 : Bool} {t32 : Bool} {t34 : Y4} {t35 : Int} (cnt : Nat) (Inv : Nat → Y5 → Prop) {res : Option ((Y5 × (Bool × Unit)) × Unit)} (hn : cnt ≤ 500000000000)
  (hs : ∀ (rc : Int → Y5 → Int → Y3 → Int → Int → Y4 → Int → Bool → Bool → Y4 → Int → Int → Option ((Y5 × (Bool × Unit)) × Unit)) (i : Nat) (o5 : Y5), i < cnt → Inv i o5 → (∀ (o5' : Y5), Inv (i + 1) o5' → rc n4 o5' x6 t18 t19 t20 t29 t30 t31 t32 t34 t35 ((i + 1 : Nat) : Int) = res) → zz47_b11 rc (zz47_a11 rec) n4 o5 x6 t18 t19 t20 t29 t30 t31 t32 t34 t35 (i : Int) = res)
  (he : ∀ (rc : Int → Y5 → Int → Y3 → Int → Int → Y4 → Int → Bool → Bool → Y4 → Int → Int → Option ((Y5 × (Bool × Unit)) × Unit)) (o5 : Y5), Inv cnt o5 → zz47_b11 rc (zz47_a11 rec) n4 o5 x6 t18 t19 t20 t29 t30 t31 t32 t34 t35 (cnt : Int) = res)
  (i0 : Nat) (hi : i0 ≤ cnt) (o5 : Y5) (h0 : Inv i0 o5) : zz47_F11 big rec k n4 o5 x6 t18 t19 t20 t29 t30 t31 t32 t34 t35 (i0 : Int) = res := by
  have key : ∀ (m i : Nat) (o5 : Y5), i ≤ cnt → cnt < m + i → Inv i o5 → zz47_l11 big (zz47_a11 rec) m n4 o5 x6 t18 t19 t20 t29 t30 t31 t32 t34 t35 (i : Int) = res := by
    intro m
    induction m with
    | zero => intro i o5 h1 h2 h3; exact absurd h2 (by omega)
    | succ m ih =>
      intro i o5 h1 h2 h3
      rcases Nat.lt_or_ge i cnt with hlt | hge
      · exact hs _ i o5 hlt h3 (fun o5' h4 => ih (i + 1) o5' (by omega) (by omega) h4)
      · obtain rfl : i = cnt := by omega
        exact he _ o5 h3
  exact key big i0 o5 hi (by have := big_ge; omega) h0
theorem zz48_h2 {o0 : Y5} {list1 : Y4} {t10 : Y4} {t11 : Int} (cnt : Nat) (Inv : Nat → Prop) {res : Option (Int × Unit)} (hn : cnt ≤ 500000000000)
  (hs : ∀ (rc : Y5 → Y4 → Y4 → Int → Int → Option (Int × Unit)) (i : Nat), i < cnt → Inv i → (Inv (i + 1) → rc o0 list1 t10 t11 ((i + 1 : Nat) : Int) = res) → zz48_b2 (zz48_F6 big rc zz48_a2) zz48_a2 o0 list1 t10 t11 (i : Int) = res)
  (he : ∀ (rc : Y5 → Y4 → Y4 → Int → Int → Option (Int × Unit)), Inv cnt → zz48_b2 (zz48_F6 big rc zz48_a2) zz48_a2 o0 list1 t10 t11 (cnt : Int) = res)
  (i0 : Nat) (hi : i0 ≤ cnt) (h0 : Inv i0) : zz48_F2 big o0 list1 t10 t11 (i0 : Int) = res := by
  have key : ∀ (m i : Nat), i ≤ cnt → cnt < m + i → Inv i → zz48_l2 big zz48_a2 m o0 list1 t10 t11 (i : Int) = res := by
    intro m
    induction m with
    | zero => intro i h1 h2 h3; exact absurd h2 (by omega)
    | succ m ih =>
      intro i h1 h2 h3
      rcases Nat.lt_or_ge i cnt with hlt | hge
      · exact hs _ i hlt h3 (fun h4 => ih (i + 1) (by omega) (by omega) h4)
      · obtain rfl : i = cnt := by omega
        exact he _ h3
  exact key big i0 hi (by have := big_ge; omega) h0
theorem zz48_h6 {rec : Y5 → Y4 → Y4 → Int → Int → Option (Int × Unit)} {k : Option (Int × Unit)} {o0 : Y5} {list1 : Y4} {x6 : Int} {t10 : Y4} {t11 : Int} {t12 : Int} {t16 : Y4} {t17 : Int} (cnt : Nat) (Inv : Nat → Bool → Prop) {res : Option (Int × Unit)} (hn : cnt ≤ 500000000000)
  (hs : ∀ (rc : Y5 → Y4 → Int → Bool → Y4 → Int → Int → Y4 → Int → Int → Option (Int × Unit)) (i : Nat) (top7 : Bool), i < cnt → Inv i top7 → (∀ (top7' : Bool), Inv (i + 1) top7' → rc o0 list1 x6 top7' t10 t11 t12 t16 t17 ((i + 1 : Nat) : Int) = res) → zz48_b6 rc (zz48_a6 rec) o0 list1 x6 top7 t10 t11 t12 t16 t17 (i : Int) = res)
  (he : ∀ (rc : Y5 → Y4 → Int → Bool → Y4 → Int → Int → Y4 → Int → Int → Option (Int × Unit)) (top7 : Bool), Inv cnt top7 → zz48_b6 rc (zz48_a6 rec) o0 list1 x6 top7 t10 t11 t12 t16 t17 (cnt : Int) = res)
  (i0 : Nat) (hi : i0 ≤ cnt) (top7 : Bool) (h0 : Inv i0 top7) : zz48_F6 big rec k o0 list1 x6 top7 t10 t11 t12 t16 t17 (i0 : Int) = res := by
  have key : ∀ (m i : Nat) (top7 : Bool), i ≤ cnt → cnt < m + i → Inv i top7 → zz48_l6 big (zz48_a6 rec) m o0 list1 x6 top7 t10 t11 t12 t16 t17 (i : Int) = res := by
    intro m
    induction m with
    | zero => intro i top7 h1 h2 h3; exact absurd h2 (by omega)
    | succ m ih =>
      intro i top7 h1 h2 h3
      rcases Nat.lt_or_ge i cnt with hlt | hge
      · exact hs _ i top7 hlt h3 (fun top7' h4 => ih (i + 1) top7' (by omega) (by omega) h4)
      · obtain rfl : i = cnt := by omega
        exact he _ top7 h3
  exact key big i0 top7 hi (by have := big_ge; omega) h0
theorem zz50_h3 {so1 : (Y5 × (Int × (Int × Unit)))} {t9 : Int} (cnt : Nat) (Inv : Nat → Y4 → Prop) {res : Option (Y4 × Unit)} (hn : cnt ≤ 500000000000)
  (hs : ∀ (rc : (Y5 × (Int × (Int × Unit))) → Y4 → Int → Int → Option (Y4 × Unit)) (i : Nat) (list5 : Y4), i < cnt → Inv i list5 → (∀ (list5' : Y4), Inv (i + 1) list5' → rc so1 list5' t9 ((i + 1 : Nat) : Int) = res) → zz50_b3 rc zz50_a3 so1 list5 t9 (i : Int) = res)
  (he : ∀ (rc : (Y5 × (Int × (Int × Unit))) → Y4 → Int → Int → Option (Y4 × Unit)) (list5 : Y4), Inv cnt list5 → zz50_b3 rc zz50_a3 so1 list5 t9 (cnt : Int) = res)
  (i0 : Nat) (hi : i0 ≤ cnt) (list5 : Y4) (h0 : Inv i0 list5) : zz50_F3 big so1 list5 t9 (i0 : Int) = res := by
  have key : ∀ (m i : Nat) (list5 : Y4), i ≤ cnt → cnt < m + i → Inv i list5 → zz50_l3 big zz50_a3 m so1 list5 t9 (i : Int) = res := by
    intro m
    induction m with
    | zero => intro i list5 h1 h2 h3; exact absurd h2 (by omega)
    | succ m ih =>
      intro i list5 h1 h2 h3
      rcases Nat.lt_or_ge i cnt with hlt | hge
      · exact hs _ i list5 hlt h3 (fun list5' h4 => ih (i + 1) list5' (by omega) (by omega) h4)
      · obtain rfl : i = cnt := by omega
        exact he _ list5 h3
  exact key big i0 list5 hi (by have := big_ge; omega) h0
theorem zz51_h3 {o1 : Y5} {t11 : Int} (cnt : Nat) (Inv : Nat → Y3 → Prop) {res : Option ((Y3 × (Bool × Unit)) × Unit)} (hn : cnt ≤ 500000000000)
  (hs : ∀ (rc : Y5 → Y3 → Int → Int → Option ((Y3 × (Bool × Unit)) × Unit)) (i : Nat) (table4 : Y3), i < cnt → Inv i table4 → (∀ (table4' : Y3), Inv (i + 1) table4' → rc o1 table4' t11 ((i + 1 : Nat) : Int) = res) → zz51_b3 (zz51_F7 big rc zz51_a3) zz51_a3 o1 table4 t11 (i : Int) = res)
  (he : ∀ (rc : Y5 → Y3 → Int → Int → Option ((Y3 × (Bool × Unit)) × Unit)) (table4 : Y3), Inv cnt table4 → zz51_b3 (zz51_F7 big rc zz51_a3) zz51_a3 o1 table4 t11 (cnt : Int) = res)
  (i0 : Nat) (hi : i0 ≤ cnt) (table4 : Y3) (h0 : Inv i0 table4) : zz51_F3 big o1 table4 t11 (i0 : Int) = res := by
  have key : ∀ (m i : Nat) (table4 : Y3), i ≤ cnt → cnt < m + i → Inv i table4 → zz51_l3 big zz51_a3 m o1 table4 t11 (i : Int) = res := by
    intro m
    induction m with
    | zero => intro i table4 h1 h2 h3; exact absurd h2 (by omega)
    | succ m ih =>
      intro i table4 h1 h2 h3
      rcases Nat.lt_or_ge i cnt with hlt | hge
      · exact hs _ i table4 hlt h3 (fun table4' h4 => ih (i + 1) table4' (by omega) (by omega) h4)
      · obtain rfl : i = cnt := by omega
        exact he _ table4 h3
  exact key big i0 table4 hi (by have := big_ge; omega) h0
theorem zz51_h7 {rec : Y5 → Y3 → Int → Int → Option ((Y3 × (Bool × Unit)) × Unit)} {k : Y3 → Option ((Y3 × (Bool × Unit)) × Unit)} {o1 : Y5} {table4 : Y3} {x5 : Int} {t11 : Int} {t12 : Int} {t17 : Int} (cnt : Nat) (Inv : Nat → Y4 → Prop) {res : Option ((Y3 × (Bool × Unit)) × Unit)} (hn : cnt ≤ 500000000000)
  (hs : ∀ (rc : Y5 → Y3 → Int → Y4 → Int → Int → Int → Int → Option ((Y3 × (Bool × Unit)) × Unit)) (i : Nat) (row6 : Y4), i < cnt → Inv i row6 → (∀ (row6' : Y4), Inv (i + 1) row6' → rc o1 table4 x5 row6' t11 t12 t17 ((i + 1 : Nat) : Int) = res) → zz51_b7 rc (zz51_a7 rec) o1 table4 x5 row6 t11 t12 t17 (i : Int) = res)
  (he : ∀ (rc : Y5 → Y3 → Int → Y4 → Int → Int → Int → Int → Option ((Y3 × (Bool × Unit)) × Unit)) (row6 : Y4), Inv cnt row6 → zz51_b7 rc (zz51_a7 rec) o1 table4 x5 row6 t11 t12 t17 (cnt : Int) = res)
  (i0 : Nat) (hi : i0 ≤ cnt) (row6 : Y4) (h0 : Inv i0 row6) : zz51_F7 big rec k o1 table4 x5 row6 t11 t12 t17 (i0 : Int) = res := by
  have key : ∀ (m i : Nat) (row6 : Y4), i ≤ cnt → cnt < m + i → Inv i row6 → zz51_l7 big (zz51_a7 rec) m o1 table4 x5 row6 t11 t12 t17 (i : Int) = res := by
    intro m
    induction m with
    | zero => intro i row6 h1 h2 h3; exact absurd h2 (by omega)
    | succ m ih =>
      intro i row6 h1 h2 h3
      rcases Nat.lt_or_ge i cnt with hlt | hge
      · exact hs _ i row6 hlt h3 (fun row6' h4 => ih (i + 1) row6' (by omega) (by omega) h4)
      · obtain rfl : i = cnt := by omega
        exact he _ row6 h3
  exact key big i0 row6 hi (by have := big_ge; omega) h0
theorem zz52_h3 {o0 : Y5} {t10 : Int} (cnt : Nat) (Inv : Nat → Y5 → Prop) {res : Option (Y5 × Unit)} (hn : cnt ≤ 500000000000)
  (hs : ∀ (rc : Y5 → Y5 → Int → Int → Option (Y5 × Unit)) (i : Nat) (d3 : Y5), i < cnt → Inv i d3 → (∀ (d3' : Y5), Inv (i + 1) d3' → rc o0 d3' t10 ((i + 1 : Nat) : Int) = res) → zz52_b3 (zz52_F6 big rc zz52_a3) zz52_a3 o0 d3 t10 (i : Int) = res)
  (he : ∀ (rc : Y5 → Y5 → Int → Int → Option (Y5 × Unit)) (d3 : Y5), Inv cnt d3 → zz52_b3 (zz52_F6 big rc zz52_a3) zz52_a3 o0 d3 t10 (cnt : Int) = res)
  (i0 : Nat) (hi : i0 ≤ cnt) (d3 : Y5) (h0 : Inv i0 d3) : zz52_F3 big o0 d3 t10 (i0 : Int) = res := by
  have key : ∀ (m i : Nat) (d3 : Y5), i ≤ cnt → cnt < m + i → Inv i d3 → zz52_l3 big zz52_a3 m o0 d3 t10 (i : Int) = res := by
    intro m
    induction m with
    | zero => intro i d3 h1 h2 h3; exact absurd h2 (by omega)
    | succ m ih =>
      intro i d3 h1 h2 h3
      rcases Nat.lt_or_ge i cnt with hlt | hge
      · exact hs _ i d3 hlt h3 (fun d3' h4 => ih (i + 1) d3' (by omega) (by omega) h4)
      · obtain rfl : i = cnt := by omega
        exact he _ d3 h3
  exact key big i0 d3 hi (by have := big_ge; omega) h0
theorem zz52_h6 {rec : Y5 → Y5 → Int → Int → Option (Y5 × Unit)} {k : Y5 → Option (Y5 × Unit)} {o0 : Y5} {x4 : Int} {t10 : Int} {t11 : Int} {t15 : Int} (cnt : Nat) (Inv : Nat → Y5 → Prop) {res : Option (Y5 × Unit)} (hn : cnt ≤ 500000000000)
  (hs : ∀ (rc : Y5 → Y5 → Int → Int → Int → Int → Int → Option (Y5 × Unit)) (i : Nat) (d3 : Y5), i < cnt → Inv i d3 → (∀ (d3' : Y5), Inv (i + 1) d3' → rc o0 d3' x4 t10 t11 t15 ((i + 1 : Nat) : Int) = res) → zz52_b6 rc (zz52_a6 rec) o0 d3 x4 t10 t11 t15 (i : Int) = res)
  (he : ∀ (rc : Y5 → Y5 → Int → Int → Int → Int → Int → Option (Y5 × Unit)) (d3 : Y5), Inv cnt d3 → zz52_b6 rc (zz52_a6 rec) o0 d3 x4 t10 t11 t15 (cnt : Int) = res)
  (i0 : Nat) (hi : i0 ≤ cnt) (d3 : Y5) (h0 : Inv i0 d3) : zz52_F6 big rec k o0 d3 x4 t10 t11 t15 (i0 : Int) = res := by
  have key : ∀ (m i : Nat) (d3 : Y5), i ≤ cnt → cnt < m + i → Inv i d3 → zz52_l6 big (zz52_a6 rec) m o0 d3 x4 t10 t11 t15 (i : Int) = res := by
    intro m
    induction m with
    | zero => intro i d3 h1 h2 h3; exact absurd h2 (by omega)
    | succ m ih =>
      intro i d3 h1 h2 h3
      rcases Nat.lt_or_ge i cnt with hlt | hge
      · exact hs _ i d3 hlt h3 (fun d3' h4 => ih (i + 1) d3' (by omega) (by omega) h4)
      · obtain rfl : i = cnt := by omega
        exact he _ d3 h3
  exact key big i0 d3 hi (by have := big_ge; omega) h0
theorem zz54_q2 {l0 : Y1} {t10 : Int} (cnt : Nat) (Inv : Nat → Prop) {Q : Option ((Option Y4) × Unit) → Prop} (hn : cnt ≤ 500000000000)
  (hs : ∀ (rc : Y1 → Int → Int → Option ((Option Y4) × Unit)) (i : Nat), i < cnt → Inv i → (Inv (i + 1) → Q (rc l0 t10 ((i + 1 : Nat) : Int))) → Q (zz54_b2 (zz54_F5 big rc zz54_a2) zz54_a2 l0 t10 (i : Int)))
  (he : ∀ (rc : Y1 → Int → Int → Option ((Option Y4) × Unit)), Inv cnt → Q (zz54_b2 (zz54_F5 big rc zz54_a2) zz54_a2 l0 t10 (cnt : Int)))
  (i0 : Nat) (hi : i0 ≤ cnt) (h0 : Inv i0) : Q (zz54_F2 big l0 t10 (i0 : Int)) := by
  have key : ∀ (m i : Nat), i ≤ cnt → cnt < m + i → Inv i → Q (zz54_l2 big zz54_a2 m l0 t10 (i : Int)) := by
    intro m
    induction m with
    | zero => intro i h1 h2 h3; exact absurd h2 (by omega)
    | succ m ih =>
      intro i h1 h2 h3
      rcases Nat.lt_or_ge i cnt with hlt | hge
      · exact hs _ i hlt h3 (fun h4 => ih (i + 1) (by omega) (by omega) h4)
      · obtain rfl : i = cnt := by omega
        exact he _ h3
  exact key big i0 hi (by have := big_ge; omega) h0
theorem zz54_q5 {rec : Y1 → Int → Int → Option ((Option Y4) × Unit)} {k : Option ((Option Y4) × Unit)} {l0 : Y1} {x3 : Int} {t10 : Int} {t11 : Int} {t18 : Int} (cnt : Nat) (Inv : Nat → Prop) {Q : Option ((Option Y4) × Unit) → Prop} (hn : cnt ≤ 500000000000)
  (hs : ∀ (rc : Y1 → Int → Int → Int → Int → Int → Option ((Option Y4) × Unit)) (i : Nat), i < cnt → Inv i → (Inv (i + 1) → Q (rc l0 x3 t10 t11 t18 ((i + 1 : Nat) : Int))) → Q (zz54_b5 (zz54_F8 big rc (zz54_a5 rec)) (zz54_a5 rec) l0 x3 t10 t11 t18 (i : Int)))
  (he : ∀ (rc : Y1 → Int → Int → Int → Int → Int → Option ((Option Y4) × Unit)), Inv cnt → Q (zz54_b5 (zz54_F8 big rc (zz54_a5 rec)) (zz54_a5 rec) l0 x3 t10 t11 t18 (cnt : Int)))
  (i0 : Nat) (hi : i0 ≤ cnt) (h0 : Inv i0) : Q (zz54_F5 big rec k l0 x3 t10 t11 t18 (i0 : Int)) := by
  have key : ∀ (m i : Nat), i ≤ cnt → cnt < m + i → Inv i → Q (zz54_l5 big (zz54_a5 rec) m l0 x3 t10 t11 t18 (i : Int)) := by
    intro m
    induction m with
    | zero => intro i h1 h2 h3; exact absurd h2 (by omega)
    | succ m ih =>
      intro i h1 h2 h3
      rcases Nat.lt_or_ge i cnt with hlt | hge
      · exact hs _ i hlt h3 (fun h4 => ih (i + 1) (by omega) (by omega) h4)
      · obtain rfl : i = cnt := by omega
        exact he _ h3
  exact key big i0 hi (by have := big_ge; omega) h0
theorem zz54_q8 {rec : Y1 → Int → Int → Int → Int → Int → Option ((Option Y4) × Unit)} {k : Y1 → Int → Int → Option ((Option Y4) × Unit)} {l0 : Y1} {x3 : Int} {y4 : Int} {t10 : Int} {t11 : Int} {t18 : Int} {t19 : Int} {t26 : Int} (cnt : Nat) (Inv : Nat → Prop) {Q : Option ((Option Y4) × Unit) → Prop} (hn : cnt ≤ 500000000000)
  (hs : ∀ (rc : Y1 → Int → Int → Int → Int → Int → Int → Int → Int → Option ((Option Y4) × Unit)) (i : Nat), i < cnt → Inv i → (Inv (i + 1) → Q (rc l0 x3 y4 t10 t11 t18 t19 t26 ((i + 1 : Nat) : Int))) → Q (zz54_b8 rc (zz54_a8 rec) l0 x3 y4 t10 t11 t18 t19 t26 (i : Int)))
  (he : ∀ (rc : Y1 → Int → Int → Int → Int → Int → Int → Int → Int → Option ((Option Y4) × Unit)), Inv cnt → Q (zz54_b8 rc (zz54_a8 rec) l0 x3 y4 t10 t11 t18 t19 t26 (cnt : Int)))
  (i0 : Nat) (hi : i0 ≤ cnt) (h0 : Inv i0) : Q (zz54_F8 big rec k l0 x3 y4 t10 t11 t18 t19 t26 (i0 : Int)) := by
  have key : ∀ (m i : Nat), i ≤ cnt → cnt < m + i → Inv i → Q (zz54_l8 big (zz54_a8 rec) m l0 x3 y4 t10 t11 t18 t19 t26 (i : Int)) := by
    intro m
    induction m with
    | zero => intro i h1 h2 h3; exact absurd h2 (by omega)
    | succ m ih =>
      intro i h1 h2 h3
      rcases Nat.lt_or_ge i cnt with hlt | hge
      · exact hs _ i hlt h3 (fun h4 => ih (i + 1) (by omega) (by omega) h4)
      · obtain rfl : i = cnt := by omega
        exact he _ h3
  exact key big i0 hi (by have := big_ge; omega) h0
theorem zz56_h3 {l0 : Y1} {t9 : Int} (cnt : Nat) (Inv : Nat → Int → Prop) {res : Option (Int × Unit)} (hn : cnt ≤ 500000000000)
  (hs : ∀ (rc : Y1 → Int → Int → Int → Option (Int × Unit)) (i : Nat) (b3 : Int), i < cnt → Inv i b3 → (∀ (b3' : Int), Inv (i + 1) b3' → rc l0 b3' t9 ((i + 1 : Nat) : Int) = res) → zz56_b3 rc zz56_a3 l0 b3 t9 (i : Int) = res)
  (he : ∀ (rc : Y1 → Int → Int → Int → Option (Int × Unit)) (b3 : Int), Inv cnt b3 → zz56_b3 rc zz56_a3 l0 b3 t9 (cnt : Int) = res)
  (i0 : Nat) (hi : i0 ≤ cnt) (b3 : Int) (h0 : Inv i0 b3) : zz56_F3 big l0 b3 t9 (i0 : Int) = res := by
  have key : ∀ (m i : Nat) (b3 : Int), i ≤ cnt → cnt < m + i → Inv i b3 → zz56_l3 big zz56_a3 m l0 b3 t9 (i : Int) = res := by
    intro m
    induction m with
    | zero => intro i b3 h1 h2 h3; exact absurd h2 (by omega)
    | succ m ih =>
      intro i b3 h1 h2 h3
      rcases Nat.lt_or_ge i cnt with hlt | hge
      · exact hs _ i b3 hlt h3 (fun b3' h4 => ih (i + 1) b3' (by omega) (by omega) h4)
      · obtain rfl : i = cnt := by omega
        exact he _ b3 h3
  exact key big i0 b3 hi (by have := big_ge; omega) h0
theorem zz57_h3 {l0 : Y1} {t9 : Int} (cnt : Nat) (Inv : Nat → Int → Prop) {res : Option (Int × Unit)} (hn : cnt ≤ 500000000000)
  (hs : ∀ (rc : Y1 → Int → Int → Int → Option (Int × Unit)) (i : Nat) (t3 : Int), i < cnt → Inv i t3 → (∀ (t3' : Int), Inv (i + 1) t3' → rc l0 t3' t9 ((i + 1 : Nat) : Int) = res) → zz57_b3 rc zz57_a3 l0 t3 t9 (i : Int) = res)
  (he : ∀ (rc : Y1 → Int → Int → Int → Option (Int × Unit)) (t3 : Int), Inv cnt t3 → zz57_b3 rc zz57_a3 l0 t3 t9 (cnt : Int) = res)
  (i0 : Nat) (hi : i0 ≤ cnt) (t3 : Int) (h0 : Inv i0 t3) : zz57_F3 big l0 t3 t9 (i0 : Int) = res := by
  have key : ∀ (m i : Nat) (t3 : Int), i ≤ cnt → cnt < m + i → Inv i t3 → zz57_l3 big zz57_a3 m l0 t3 t9 (i : Int) = res := by
    intro m
    induction m with
    | zero => intro i t3 h1 h2 h3; exact absurd h2 (by omega)
    | succ m ih =>
      intro i t3 h1 h2 h3
      rcases Nat.lt_or_ge i cnt with hlt | hge
      · exact hs _ i t3 hlt h3 (fun t3' h4 => ih (i + 1) t3' (by omega) (by omega) h4)
      · obtain rfl : i = cnt := by omega
        exact he _ t3 h3
  exact key big i0 t3 hi (by have := big_ge; omega) h0
theorem zz59_h3 {so1 : (Y1 × (Int × (Int × (Int × Unit))))} {t9 : Int} (cnt : Nat) (Inv : Nat → Y4 → Prop) {res : Option (Y4 × Unit)} (hn : cnt ≤ 500000000000)
  (hs : ∀ (rc : (Y1 × (Int × (Int × (Int × Unit)))) → Y4 → Int → Int → Option (Y4 × Unit)) (i : Nat) (list5 : Y4), i < cnt → Inv i list5 → (∀ (list5' : Y4), Inv (i + 1) list5' → rc so1 list5' t9 ((i + 1 : Nat) : Int) = res) → zz59_b3 rc zz59_a3 so1 list5 t9 (i : Int) = res)
  (he : ∀ (rc : (Y1 × (Int × (Int × (Int × Unit)))) → Y4 → Int → Int → Option (Y4 × Unit)) (list5 : Y4), Inv cnt list5 → zz59_b3 rc zz59_a3 so1 list5 t9 (cnt : Int) = res)
  (i0 : Nat) (hi : i0 ≤ cnt) (list5 : Y4) (h0 : Inv i0 list5) : zz59_F3 big so1 list5 t9 (i0 : Int) = res := by
  have key : ∀ (m i : Nat) (list5 : Y4), i ≤ cnt → cnt < m + i → Inv i list5 → zz59_l3 big zz59_a3 m so1 list5 t9 (i : Int) = res := by
    intro m
    induction m with
    | zero => intro i list5 h1 h2 h3; exact absurd h2 (by omega)
    | succ m ih =>
      intro i list5 h1 h2 h3
      rcases Nat.lt_or_ge i cnt with hlt | hge
      · exact hs _ i list5 hlt h3 (fun list5' h4 => ih (i + 1) list5' (by omega) (by omega) h4)
      · obtain rfl : i = cnt := by omega
        exact he _ list5 h3
  exact key big i0 list5 hi (by have := big_ge; omega) h0
theorem zz63_h3 {so1 : (Y1 × Unit)} {t9 : Int} (cnt : Nat) (Inv : Nat → Y4 → Prop) {res : Option (Y4 × Unit)} (hn : cnt ≤ 500000000000)
  (hs : ∀ (rc : (Y1 × Unit) → Y4 → Int → Int → Option (Y4 × Unit)) (i : Nat) (list5 : Y4), i < cnt → Inv i list5 → (∀ (list5' : Y4), Inv (i + 1) list5' → rc so1 list5' t9 ((i + 1 : Nat) : Int) = res) → zz63_b3 rc zz63_a3 so1 list5 t9 (i : Int) = res)
  (he : ∀ (rc : (Y1 × Unit) → Y4 → Int → Int → Option (Y4 × Unit)) (list5 : Y4), Inv cnt list5 → zz63_b3 rc zz63_a3 so1 list5 t9 (cnt : Int) = res)
  (i0 : Nat) (hi : i0 ≤ cnt) (list5 : Y4) (h0 : Inv i0 list5) : zz63_F3 big so1 list5 t9 (i0 : Int) = res := by
  have key : ∀ (m i : Nat) (list5 : Y4), i ≤ cnt → cnt < m + i → Inv i list5 → zz63_l3 big zz63_a3 m so1 list5 t9 (i : Int) = res := by
    intro m
    induction m with
    | zero => intro i list5 h1 h2 h3; exact absurd h2 (by omega)
    | succ m ih =>
      intro i list5 h1 h2 h3
      rcases Nat.lt_or_ge i cnt with hlt | hge
      · exact hs _ i list5 hlt h3 (fun list5' h4 => ih (i + 1) list5' (by omega) (by omega) h4)
      · obtain rfl : i = cnt := by omega
        exact he _ list5 h3
  exact key big i0 list5 hi (by have := big_ge; omega) h0
theorem zz67_h3 {l0 : Y1} {t10 : Int} (cnt : Nat) (Inv : Nat → Y4 → Prop) {res : Option (Y4 × Unit)} (hn : cnt ≤ 500000000000)
  (hs : ∀ (rc : Y1 → Y4 → Int → Int → Option (Y4 × Unit)) (i : Nat) (list3 : Y4), i < cnt → Inv i list3 → (∀ (list3' : Y4), Inv (i + 1) list3' → rc l0 list3' t10 ((i + 1 : Nat) : Int) = res) → zz67_b3 rc zz67_a3 l0 list3 t10 (i : Int) = res)
  (he : ∀ (rc : Y1 → Y4 → Int → Int → Option (Y4 × Unit)) (list3 : Y4), Inv cnt list3 → zz67_b3 rc zz67_a3 l0 list3 t10 (cnt : Int) = res)
  (i0 : Nat) (hi : i0 ≤ cnt) (list3 : Y4) (h0 : Inv i0 list3) : zz67_F3 big l0 list3 t10 (i0 : Int) = res := by
  have key : ∀ (m i : Nat) (list3 : Y4), i ≤ cnt → cnt < m + i → Inv i list3 → zz67_l3 big zz67_a3 m l0 list3 t10 (i : Int) = res := by
    intro m
    induction m with
    | zero => intro i list3 h1 h2 h3; exact absurd h2 (by omega)
    | succ m ih =>
      intro i list3 h1 h2 h3
      rcases Nat.lt_or_ge i cnt with hlt | hge
      · exact hs _ i list3 hlt h3 (fun list3' h4 => ih (i + 1) list3' (by omega) (by omega) h4)
      · obtain rfl : i = cnt := by omega
        exact he _ list3 h3
  exact key big i0 list3 hi (by have := big_ge; omega) h0
theorem zz68_h4 {l0 : Y1} {not3 : Y4} {t15 : Int} (cnt : Nat) (Inv : Nat → Y3 → Prop) {res : Option Y2} (hn : cnt ≤ 500000000000)
  (hs : ∀ (rc : Y1 → Y4 → Y3 → Int → Int → Option Y2) (i : Nat) (table4 : Y3), i < cnt → Inv i table4 → (∀ (table4' : Y3), Inv (i + 1) table4' → rc l0 not3 table4' t15 ((i + 1 : Nat) : Int) = res) → zz68_b4 (zz68_F8 big rc zz68_a4) zz68_a4 l0 not3 table4 t15 (i : Int) = res)
  (he : ∀ (rc : Y1 → Y4 → Y3 → Int → Int → Option Y2) (table4 : Y3), Inv cnt table4 → zz68_b4 (zz68_F8 big rc zz68_a4) zz68_a4 l0 not3 table4 t15 (cnt : Int) = res)
  (i0 : Nat) (hi : i0 ≤ cnt) (table4 : Y3) (h0 : Inv i0 table4) : zz68_F4 big l0 not3 table4 t15 (i0 : Int) = res := by
  have key : ∀ (m i : Nat) (table4 : Y3), i ≤ cnt → cnt < m + i → Inv i table4 → zz68_l4 big zz68_a4 m l0 not3 table4 t15 (i : Int) = res := by
    intro m
    induction m with
    | zero => intro i table4 h1 h2 h3; exact absurd h2 (by omega)
    | succ m ih =>
      intro i table4 h1 h2 h3
      rcases Nat.lt_or_ge i cnt with hlt | hge
      · exact hs _ i table4 hlt h3 (fun table4' h4 => ih (i + 1) table4' (by omega) (by omega) h4)
      · obtain rfl : i = cnt := by omega
        exact he _ table4 h3
  exact key big i0 table4 hi (by have := big_ge; omega) h0
theorem zz68_h8 {rec : Y1 → Y4 → Y3 → Int → Int → Option Y2} {k : Y3 → Option Y2} {l0 : Y1} {not3 : Y4} {table4 : Y3} {x5 : Int} {t15 : Int} {t16 : Int} {t24 : Int} (cnt : Nat) (Inv : Nat → Y4 → Prop) {res : Option Y2} (hn : cnt ≤ 500000000000)
  (hs : ∀ (rc : Y1 → Y4 → Y3 → Int → Y4 → Int → Int → Int → Int → Option Y2) (i : Nat) (row6 : Y4), i < cnt → Inv i row6 → (∀ (row6' : Y4), Inv (i + 1) row6' → rc l0 not3 table4 x5 row6' t15 t16 t24 ((i + 1 : Nat) : Int) = res) → zz68_b8 rc (zz68_a8 rec) l0 not3 table4 x5 row6 t15 t16 t24 (i : Int) = res)
  (he : ∀ (rc : Y1 → Y4 → Y3 → Int → Y4 → Int → Int → Int → Int → Option Y2) (row6 : Y4), Inv cnt row6 → zz68_b8 rc (zz68_a8 rec) l0 not3 table4 x5 row6 t15 t16 t24 (cnt : Int) = res)
  (i0 : Nat) (hi : i0 ≤ cnt) (row6 : Y4) (h0 : Inv i0 row6) : zz68_F8 big rec k l0 not3 table4 x5 row6 t15 t16 t24 (i0 : Int) = res := by
  have key : ∀ (m i : Nat) (row6 : Y4), i ≤ cnt → cnt < m + i → Inv i row6 → zz68_l8 big (zz68_a8 rec) m l0 not3 table4 x5 row6 t15 t16 t24 (i : Int) = res := by
    intro m
    induction m with
    | zero => intro i row6 h1 h2 h3; exact absurd h2 (by omega)
    | succ m ih =>
      intro i row6 h1 h2 h3
      rcases Nat.lt_or_ge i cnt with hlt | hge
      · exact hs _ i row6 hlt h3 (fun row6' h4 => ih (i + 1) row6' (by omega) (by omega) h4)
      · obtain rfl : i = cnt := by omega
        exact he _ row6 h3
  exact key big i0 row6 hi (by have := big_ge; omega) h0
theorem zz69_h3 {t2 : Y6} {t7 : Y3} {t8 : Int} (cnt : Nat) (Inv : Nat → Y6 → Prop) {res : Option (Y6 × Unit)} (hn : cnt ≤ 500000000000)
  (hs : ∀ (rc : Y6 → Y6 → Y3 → Int → Int → Option (Y6 × Unit)) (i : Nat) (f3 : Y6), i < cnt → Inv i f3 → (∀ (f3' : Y6), Inv (i + 1) f3' → rc t2 f3' t7 t8 ((i + 1 : Nat) : Int) = res) → zz69_b3 rc zz69_a3 t2 f3 t7 t8 (i : Int) = res)
  (he : ∀ (rc : Y6 → Y6 → Y3 → Int → Int → Option (Y6 × Unit)) (f3 : Y6), Inv cnt f3 → zz69_b3 rc zz69_a3 t2 f3 t7 t8 (cnt : Int) = res)
  (i0 : Nat) (hi : i0 ≤ cnt) (f3 : Y6) (h0 : Inv i0 f3) : zz69_F3 big t2 f3 t7 t8 (i0 : Int) = res := by
  have key : ∀ (m i : Nat) (f3 : Y6), i ≤ cnt → cnt < m + i → Inv i f3 → zz69_l3 big zz69_a3 m t2 f3 t7 t8 (i : Int) = res := by
    intro m
    induction m with
    | zero => intro i f3 h1 h2 h3; exact absurd h2 (by omega)
    | succ m ih =>
      intro i f3 h1 h2 h3
      rcases Nat.lt_or_ge i cnt with hlt | hge
      · exact hs _ i f3 hlt h3 (fun f3' h4 => ih (i + 1) f3' (by omega) (by omega) h4)
      · obtain rfl : i = cnt := by omega
        exact he _ f3 h3
  exact key big i0 f3 hi (by have := big_ge; omega) h0
theorem zz71_h4 {b3 : Y7} {t22 : (List Y6)} {t23 : Int} (cnt : Nat) (Inv : Nat → Prop) {res : Option (Bool × Unit)} (hn : cnt ≤ 500000000000)
  (hs : ∀ (rc : Y7 → (List Y6) → Int → Int → Option (Bool × Unit)) (i : Nat), i < cnt → Inv i → (Inv (i + 1) → rc b3 t22 t23 ((i + 1 : Nat) : Int) = res) → zz71_b4 rc zz71_a4 b3 t22 t23 (i : Int) = res)
  (he : ∀ (rc : Y7 → (List Y6) → Int → Int → Option (Bool × Unit)), Inv cnt → zz71_b4 rc zz71_a4 b3 t22 t23 (cnt : Int) = res)
  (i0 : Nat) (hi : i0 ≤ cnt) (h0 : Inv i0) : zz71_F4 big b3 t22 t23 (i0 : Int) = res := by
  have key : ∀ (m i : Nat), i ≤ cnt → cnt < m + i → Inv i → zz71_l4 big zz71_a4 m b3 t22 t23 (i : Int) = res := by
    intro m
    induction m with
    | zero => intro i h1 h2 h3; exact absurd h2 (by omega)
    | succ m ih =>
      intro i h1 h2 h3
      rcases Nat.lt_or_ge i cnt with hlt | hge
      · exact hs _ i hlt h3 (fun h4 => ih (i + 1) (by omega) (by omega) h4)
      · obtain rfl : i = cnt := by omega
        exact he _ h3
  exact key big i0 hi (by have := big_ge; omega) h0
theorem zz77_h4 {a0 : (List Y6)} {b1 : (List Y6)} (cnt : Nat) (Inv : Nat → Prop) {res : Option (Bool × Unit)} (hn : cnt ≤ 500000000000)
  (hs : ∀ (rc : (List Y6) → (List Y6) → Int → Option (Bool × Unit)) (i : Nat), i < cnt → Inv i → (Inv (i + 1) → rc a0 b1 ((i + 1 : Nat) : Int) = res) → zz77_b4 rc zz77_a4 a0 b1 (i : Int) = res)
  (he : ∀ (rc : (List Y6) → (List Y6) → Int → Option (Bool × Unit)), Inv cnt → zz77_b4 rc zz77_a4 a0 b1 (cnt : Int) = res)
  (i0 : Nat) (hi : i0 ≤ cnt) (h0 : Inv i0) : zz77_F4 big a0 b1 (i0 : Int) = res := by
  have key : ∀ (m i : Nat), i ≤ cnt → cnt < m + i → Inv i → zz77_l4 big zz77_a4 m a0 b1 (i : Int) = res := by
    intro m
    induction m with
    | zero => intro i h1 h2 h3; exact absurd h2 (by omega)
    | succ m ih =>
      intro i h1 h2 h3
      rcases Nat.lt_or_ge i cnt with hlt | hge
      · exact hs _ i hlt h3 (fun h4 => ih (i + 1) (by omega) (by omega) h4)
      · obtain rfl : i = cnt := by omega
        exact he _ h3
  exact key big i0 hi (by have := big_ge; omega) h0
theorem zz80_h2 (cnt : Nat) (Inv : Nat → (List Y6) → Int → Prop) {res : Option Y7} (hn : cnt ≤ 500000000000)
  (hs : ∀ (rc : (List Y6) → Int → Int → Option Y7) (i : Nat) (a0 : (List Y6)) (k1 : Int), i < cnt → Inv i a0 k1 → (∀ (a0' : (List Y6)) (k1' : Int), Inv (i + 1) a0' k1' → rc a0' k1' ((i + 1 : Nat) : Int) = res) → zz80_b2 rc zz80_a2 a0 k1 (i : Int) = res)
  (he : ∀ (rc : (List Y6) → Int → Int → Option Y7) (a0 : (List Y6)) (k1 : Int), Inv cnt a0 k1 → zz80_b2 rc zz80_a2 a0 k1 (cnt : Int) = res)
  (i0 : Nat) (hi : i0 ≤ cnt) (a0 : (List Y6)) (k1 : Int) (h0 : Inv i0 a0 k1) : zz80_F2 big a0 k1 (i0 : Int) = res := by
  have key : ∀ (m i : Nat) (a0 : (List Y6)) (k1 : Int), i ≤ cnt → cnt < m + i → Inv i a0 k1 → zz80_l2 big zz80_a2 m a0 k1 (i : Int) = res := by
    intro m
    induction m with
    | zero => intro i a0 k1 h1 h2 h3; exact absurd h2 (by omega)
    | succ m ih =>
      intro i a0 k1 h1 h2 h3
      rcases Nat.lt_or_ge i cnt with hlt | hge
      · exact hs _ i a0 k1 hlt h3 (fun a0' k1' h4 => ih (i + 1) a0' k1' (by omega) (by omega) h4)
      · obtain rfl : i = cnt := by omega
        exact he _ a0 k1 h3
  exact key big i0 a0 k1 hi (by have := big_ge; omega) h0
end Go.Proofs.Ytiklgbjlggcejaa
