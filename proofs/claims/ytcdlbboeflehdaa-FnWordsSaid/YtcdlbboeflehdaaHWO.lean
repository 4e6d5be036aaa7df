import Derived.Test.YtcdlbboeflehdaaPLib
import Derived.Test.YtcdlbboeflehdaaGWO
set_option linter.unusedVariables false
namespace Go.Proofs.Ytcdlbboeflehdaa
open Go Go.Gx Go.Proofs

/-! rules for the loops -/
theorem zz36_q3 {n1 : Int} (cnt : Nat) (Inv : Nat → Z10 → Y4 → Prop) {Q : Z8 → Prop} (hn : cnt ≤ 500000000000)
  (hs : ∀ (rc : Z10 → Int → Y4 → Int → Z8) (i : Nat) (c0 : Z10) (out5 : Y4), i < cnt → Inv i c0 out5 → (∀ (c0' : Z10) (out5' : Y4), Inv (i + 1) c0' out5' → Q (rc c0' n1 out5' ((i + 1 : Nat) : Int))) → Q (zz36_b3 rc zz36_a3 c0 n1 out5 (i : Int)))
  (he : ∀ (rc : Z10 → Int → Y4 → Int → Z8) (c0 : Z10) (out5 : Y4), Inv cnt c0 out5 → Q (zz36_b3 rc zz36_a3 c0 n1 out5 (cnt : Int)))
  (i0 : Nat) (hi : i0 ≤ cnt) (c0 : Z10) (out5 : Y4) (h0 : Inv i0 c0 out5) : Q (zz36_F3 big c0 n1 out5 (i0 : Int)) := by
  have key : ∀ (m i : Nat) (c0 : Z10) (out5 : Y4), i ≤ cnt → cnt < m + i → Inv i c0 out5 → Q (zz36_l3 big zz36_a3 m c0 n1 out5 (i : Int)) := by
    intro m
    induction m with
    | zero => intro i c0 out5 h1 h2 h3; exact absurd h2 (by omega)
    | succ m ih =>
      intro i c0 out5 h1 h2 h3
      rcases Nat.lt_or_ge i cnt with hlt | hge
      · exact hs _ i c0 out5 hlt h3 (fun c0' out5' h4 => ih (i + 1) c0' out5' (by omega) (by omega) h4)
      · obtain rfl : i = cnt := by omega
        exact he _ c0 out5 h3
  exact key big i0 c0 out5 hi (by have := big_ge; omega) h0
theorem zz37_h2 {n0 : Int} {list1 : Y4} (cnt : Nat) (Inv : Nat → Prop) {res : Z1} (hn : cnt ≤ 500000000000)
  (hs : ∀ (rc : Int → Y4 → Int → Z1) (i : Nat), i < cnt → Inv i → (Inv (i + 1) → rc n0 list1 ((i + 1 : Nat) : Int) = res) → zz37_b2 rc zz37_a2 n0 list1 (i : Int) = res)
  (he : ∀ (rc : Int → Y4 → Int → Z1), Inv cnt → zz37_b2 rc zz37_a2 n0 list1 (cnt : Int) = res)
  (i0 : Nat) (hi : i0 ≤ cnt) (h0 : Inv i0) : zz37_F2 big n0 list1 (i0 : Int) = res := by
  have key : ∀ (m i : Nat), i ≤ cnt → cnt < m + i → Inv i → zz37_l2 big zz37_a2 m n0 list1 (i : Int) = res := by
    intro m
    induction m with
    | zero => intro i h1 h2 h3; exact absurd h2 (by omega)
    | succ m ih =>
      intro i h1 h2 h3
      rcases Nat.lt_or_ge i cnt with hlt | hge
      · exact hs _ i hlt h3 (fun h4 => ih (i + 1) (by omega) (by omega) h4)
      · obtain rfl : i = cnt := by omega
        exact he _ h3
  exact key big i0 hi (by have := big_ge; omega) h0
theorem zz37_q2 {n0 : Int} {list1 : Y4} (cnt : Nat) (Inv : Nat → Prop) {Q : Z1 → Prop} (hn : cnt ≤ 500000000000)
  (hs : ∀ (rc : Int → Y4 → Int → Z1) (i : Nat), i < cnt → Inv i → (Inv (i + 1) → Q (rc n0 list1 ((i + 1 : Nat) : Int))) → Q (zz37_b2 rc zz37_a2 n0 list1 (i : Int)))
  (he : ∀ (rc : Int → Y4 → Int → Z1), Inv cnt → Q (zz37_b2 rc zz37_a2 n0 list1 (cnt : Int)))
  (i0 : Nat) (hi : i0 ≤ cnt) (h0 : Inv i0) : Q (zz37_F2 big n0 list1 (i0 : Int)) := by
  have key : ∀ (m i : Nat), i ≤ cnt → cnt < m + i → Inv i → Q (zz37_l2 big zz37_a2 m n0 list1 (i : Int)) := by
    intro m
    induction m with
    | zero => intro i h1 h2 h3; exact absurd h2 (by omega)
    | succ m ih =>
      intro i h1 h2 h3
      rcases Nat.lt_or_ge i cnt with hlt | hge
      · exact hs _ i hlt h3 (fun h4 => ih (i + 1) (by omega) (by omega) h4)
      · obtain rfl : i = cnt := by omega
        exact he _ h3
  exact key big i0 hi (by have := big_ge; omega) h0
theorem zz38_q5 {l0 : Y4} {n1 : Int} (cnt : Nat) (Inv : Nat → (List Bool) → Prop) {Q : Z1 → Prop} (hn : cnt ≤ 500000000000)
  (hs : ∀ (rc : Y4 → Int → (List Bool) → Int → Z1) (i : Nat) (seen5 : (List Bool)), i < cnt → Inv i seen5 → (∀ (seen5' : (List Bool)), Inv (i + 1) seen5' → Q (rc l0 n1 seen5' ((i + 1 : Nat) : Int))) → Q (zz38_b5 rc zz38_a5 l0 n1 seen5 (i : Int)))
  (he : ∀ (rc : Y4 → Int → (List Bool) → Int → Z1) (seen5 : (List Bool)), Inv cnt seen5 → Q (zz38_b5 rc zz38_a5 l0 n1 seen5 (cnt : Int)))
  (i0 : Nat) (hi : i0 ≤ cnt) (seen5 : (List Bool)) (h0 : Inv i0 seen5) : Q (zz38_F5 big l0 n1 seen5 (i0 : Int)) := by
  have key : ∀ (m i : Nat) (seen5 : (List Bool)), i ≤ cnt → cnt < m + i → Inv i seen5 → Q (zz38_l5 big zz38_a5 m l0 n1 seen5 (i : Int)) := by
    intro m
    induction m with
    | zero => intro i seen5 h1 h2 h3; exact absurd h2 (by omega)
    | succ m ih =>
      intro i seen5 h1 h2 h3
      rcases Nat.lt_or_ge i cnt with hlt | hge
      · exact hs _ i seen5 hlt h3 (fun seen5' h4 => ih (i + 1) seen5' (by omega) (by omega) h4)
      · obtain rfl : i = cnt := by omega
        exact he _ seen5 h3
  exact key big i0 seen5 hi (by have := big_ge; omega) h0
theorem zz39_q3 {n0 : Int} {pairs1 : Z12} {t4 : Y2} (cnt : Nat) (Inv : Nat → Y5 → Prop) {Q : Z2 → Prop} (hn : cnt ≤ 500000000000)
  (hs : ∀ (rc : Int → Z12 → Y2 → Y5 → Int → Z2) (i : Nat) (leq5 : Y5), i < cnt → Inv i leq5 → (∀ (leq5' : Y5), Inv (i + 1) leq5' → Q (rc n0 pairs1 t4 leq5' ((i + 1 : Nat) : Int))) → Q (zz39_b3 rc (zz39_a3 (zz39_F9 big)) n0 pairs1 t4 leq5 (i : Int)))
  (he : ∀ (rc : Int → Z12 → Y2 → Y5 → Int → Z2) (leq5 : Y5), Inv cnt leq5 → Q (zz39_b3 rc (zz39_a3 (zz39_F9 big)) n0 pairs1 t4 leq5 (cnt : Int)))
  (i0 : Nat) (hi : i0 ≤ cnt) (leq5 : Y5) (h0 : Inv i0 leq5) : Q (zz39_F3 big n0 pairs1 t4 leq5 (i0 : Int)) := by
  have key : ∀ (m i : Nat) (leq5 : Y5), i ≤ cnt → cnt < m + i → Inv i leq5 → Q (zz39_l3 big (zz39_a3 (zz39_F9 big)) m n0 pairs1 t4 leq5 (i : Int)) := by
    intro m
    induction m with
    | zero => intro i leq5 h1 h2 h3; exact absurd h2 (by omega)
    | succ m ih =>
      intro i leq5 h1 h2 h3
      rcases Nat.lt_or_ge i cnt with hlt | hge
      · exact hs _ i leq5 hlt h3 (fun leq5' h4 => ih (i + 1) leq5' (by omega) (by omega) h4)
      · obtain rfl : i = cnt := by omega
        exact he _ leq5 h3
  exact key big i0 leq5 hi (by have := big_ge; omega) h0
theorem zz39_q9 {n0 : Int} {pairs1 : Z12} {t4 : Y2} (cnt : Nat) (Inv : Nat → Y5 → Prop) {Q : Z2 → Prop} (hn : cnt ≤ 500000000000)
  (hs : ∀ (rc : Int → Z12 → Y2 → Y5 → Int → Z2) (i : Nat) (leq5 : Y5), i < cnt → Inv i leq5 → (∀ (leq5' : Y5), Inv (i + 1) leq5' → Q (rc n0 pairs1 t4 leq5' ((i + 1 : Nat) : Int))) → Q (zz39_b9 rc (zz39_a9 (zz39_F13 big)) n0 pairs1 t4 leq5 (i : Int)))
  (he : ∀ (rc : Int → Z12 → Y2 → Y5 → Int → Z2) (leq5 : Y5), Inv cnt leq5 → Q (zz39_b9 rc (zz39_a9 (zz39_F13 big)) n0 pairs1 t4 leq5 (cnt : Int)))
  (i0 : Nat) (hi : i0 ≤ cnt) (leq5 : Y5) (h0 : Inv i0 leq5) : Q (zz39_F9 big n0 pairs1 t4 leq5 (i0 : Int)) := by
  have key : ∀ (m i : Nat) (leq5 : Y5), i ≤ cnt → cnt < m + i → Inv i leq5 → Q (zz39_l9 big (zz39_a9 (zz39_F13 big)) m n0 pairs1 t4 leq5 (i : Int)) := by
    intro m
    induction m with
    | zero => intro i leq5 h1 h2 h3; exact absurd h2 (by omega)
    | succ m ih =>
      intro i leq5 h1 h2 h3
      rcases Nat.lt_or_ge i cnt with hlt | hge
      · exact hs _ i leq5 hlt h3 (fun leq5' h4 => ih (i + 1) leq5' (by omega) (by omega) h4)
      · obtain rfl : i = cnt := by omega
        exact he _ leq5 h3
  exact key big i0 leq5 hi (by have := big_ge; omega) h0
theorem zz39_q13 {n0 : Int} {t4 : Y2} (cnt : Nat) (Inv : Nat → Y5 → Prop) {Q : Z2 → Prop} (hn : cnt ≤ 500000000000)
  (hs : ∀ (rc : Int → Y2 → Y5 → Int → Z2) (i : Nat) (leq5 : Y5), i < cnt → Inv i leq5 → (∀ (leq5' : Y5), Inv (i + 1) leq5' → Q (rc n0 t4 leq5' ((i + 1 : Nat) : Int))) → Q (zz39_b13 (zz39_F16 big rc (zz39_a13 (zz39_F24 big))) (zz39_a13 (zz39_F24 big)) n0 t4 leq5 (i : Int)))
  (he : ∀ (rc : Int → Y2 → Y5 → Int → Z2) (leq5 : Y5), Inv cnt leq5 → Q (zz39_b13 (zz39_F16 big rc (zz39_a13 (zz39_F24 big))) (zz39_a13 (zz39_F24 big)) n0 t4 leq5 (cnt : Int)))
  (i0 : Nat) (hi : i0 ≤ cnt) (leq5 : Y5) (h0 : Inv i0 leq5) : Q (zz39_F13 big n0 t4 leq5 (i0 : Int)) := by
  have key : ∀ (m i : Nat) (leq5 : Y5), i ≤ cnt → cnt < m + i → Inv i leq5 → Q (zz39_l13 big (zz39_a13 (zz39_F24 big)) m n0 t4 leq5 (i : Int)) := by
    intro m
    induction m with
    | zero => intro i leq5 h1 h2 h3; exact absurd h2 (by omega)
    | succ m ih =>
      intro i leq5 h1 h2 h3
      rcases Nat.lt_or_ge i cnt with hlt | hge
      · exact hs _ i leq5 hlt h3 (fun leq5' h4 => ih (i + 1) leq5' (by omega) (by omega) h4)
      · obtain rfl : i = cnt := by omega
        exact he _ leq5 h3
  exact key big i0 leq5 hi (by have := big_ge; omega) h0
theorem zz39_q16 {rec : Int → Y2 → Y5 → Int → Z2} {k : Int → Y2 → Y5 → Z2} {n0 : Int} {t4 : Y2} {z9 : Int} (cnt : Nat) (Inv : Nat → Y5 → Prop) {Q : Z2 → Prop} (hn : cnt ≤ 500000000000)
  (hs : ∀ (rc : Int → Y2 → Y5 → Int → Int → Z2) (i : Nat) (leq5 : Y5), i < cnt → Inv i leq5 → (∀ (leq5' : Y5), Inv (i + 1) leq5' → Q (rc n0 t4 leq5' z9 ((i + 1 : Nat) : Int))) → Q (zz39_b16 (zz39_F19 big rc (zz39_a16 rec)) (zz39_a16 rec) n0 t4 leq5 z9 (i : Int)))
  (he : ∀ (rc : Int → Y2 → Y5 → Int → Int → Z2) (leq5 : Y5), Inv cnt leq5 → Q (zz39_b16 (zz39_F19 big rc (zz39_a16 rec)) (zz39_a16 rec) n0 t4 leq5 z9 (cnt : Int)))
  (i0 : Nat) (hi : i0 ≤ cnt) (leq5 : Y5) (h0 : Inv i0 leq5) : Q (zz39_F16 big rec k n0 t4 leq5 z9 (i0 : Int)) := by
  have key : ∀ (m i : Nat) (leq5 : Y5), i ≤ cnt → cnt < m + i → Inv i leq5 → Q (zz39_l16 big (zz39_a16 rec) m n0 t4 leq5 z9 (i : Int)) := by
    intro m
    induction m with
    | zero => intro i leq5 h1 h2 h3; exact absurd h2 (by omega)
    | succ m ih =>
      intro i leq5 h1 h2 h3
      rcases Nat.lt_or_ge i cnt with hlt | hge
      · exact hs _ i leq5 hlt h3 (fun leq5' h4 => ih (i + 1) leq5' (by omega) (by omega) h4)
      · obtain rfl : i = cnt := by omega
        exact he _ leq5 h3
  exact key big i0 leq5 hi (by have := big_ge; omega) h0
theorem zz39_q24 {n0 : Int} {t4 : Y2} {leq5 : Y5} (cnt : Nat) (Inv : Nat → Y2 → Prop) {Q : Z2 → Prop} (hn : cnt ≤ 500000000000)
  (hs : ∀ (rc : Int → Y2 → Y5 → Y2 → Int → Z2) (i : Nat) (p12 : Y2), i < cnt → Inv i p12 → (∀ (p12' : Y2), Inv (i + 1) p12' → Q (rc n0 t4 leq5 p12' ((i + 1 : Nat) : Int))) → Q (zz39_b24 (zz39_F28 big rc zz39_a24) zz39_a24 n0 t4 leq5 p12 (i : Int)))
  (he : ∀ (rc : Int → Y2 → Y5 → Y2 → Int → Z2) (p12 : Y2), Inv cnt p12 → Q (zz39_b24 (zz39_F28 big rc zz39_a24) zz39_a24 n0 t4 leq5 p12 (cnt : Int)))
  (i0 : Nat) (hi : i0 ≤ cnt) (p12 : Y2) (h0 : Inv i0 p12) : Q (zz39_F24 big n0 t4 leq5 p12 (i0 : Int)) := by
  have key : ∀ (m i : Nat) (p12 : Y2), i ≤ cnt → cnt < m + i → Inv i p12 → Q (zz39_l24 big zz39_a24 m n0 t4 leq5 p12 (i : Int)) := by
    intro m
    induction m with
    | zero => intro i p12 h1 h2 h3; exact absurd h2 (by omega)
    | succ m ih =>
      intro i p12 h1 h2 h3
      rcases Nat.lt_or_ge i cnt with hlt | hge
      · exact hs _ i p12 hlt h3 (fun p12' h4 => ih (i + 1) p12' (by omega) (by omega) h4)
      · obtain rfl : i = cnt := by omega
        exact he _ p12 h3
  exact key big i0 p12 hi (by have := big_ge; omega) h0
theorem zz39_q19 {rec : Int → Y2 → Y5 → Int → Int → Z2} {k : Int → Y2 → Y5 → Int → Z2} {n0 : Int} {t4 : Y2} {z9 : Int} {x10 : Int} (cnt : Nat) (Inv : Nat → Y5 → Prop) {Q : Z2 → Prop} (hn : cnt ≤ 500000000000)
  (hs : ∀ (rc : Int → Y2 → Y5 → Int → Int → Int → Z2) (i : Nat) (leq5 : Y5), i < cnt → Inv i leq5 → (∀ (leq5' : Y5), Inv (i + 1) leq5' → Q (rc n0 t4 leq5' z9 x10 ((i + 1 : Nat) : Int))) → Q (zz39_b19 rc (zz39_a19 rec) n0 t4 leq5 z9 x10 (i : Int)))
  (he : ∀ (rc : Int → Y2 → Y5 → Int → Int → Int → Z2) (leq5 : Y5), Inv cnt leq5 → Q (zz39_b19 rc (zz39_a19 rec) n0 t4 leq5 z9 x10 (cnt : Int)))
  (i0 : Nat) (hi : i0 ≤ cnt) (leq5 : Y5) (h0 : Inv i0 leq5) : Q (zz39_F19 big rec k n0 t4 leq5 z9 x10 (i0 : Int)) := by
  have key : ∀ (m i : Nat) (leq5 : Y5), i ≤ cnt → cnt < m + i → Inv i leq5 → Q (zz39_l19 big (zz39_a19 rec) m n0 t4 leq5 z9 x10 (i : Int)) := by
    intro m
    induction m with
    | zero => intro i leq5 h1 h2 h3; exact absurd h2 (by omega)
    | succ m ih =>
      intro i leq5 h1 h2 h3
      rcases Nat.lt_or_ge i cnt with hlt | hge
      · exact hs _ i leq5 hlt h3 (fun leq5' h4 => ih (i + 1) leq5' (by omega) (by omega) h4)
      · obtain rfl : i = cnt := by omega
        exact he _ leq5 h3
  exact key big i0 leq5 hi (by have := big_ge; omega) h0
theorem zz39_q28 {rec : Int → Y2 → Y5 → Y2 → Int → Z2} {k : Y2 → Y2 → Z2} {n0 : Int} {t4 : Y2} {leq5 : Y5} {p12 : Y2} {y13 : Int} (cnt : Nat) (Inv : Nat → Y4 → Prop) {Q : Z2 → Prop} (hn : cnt ≤ 500000000000)
  (hs : ∀ (rc : Int → Y2 → Y5 → Y2 → Int → Y4 → Int → Z2) (i : Nat) (below14 : Y4), i < cnt → Inv i below14 → (∀ (below14' : Y4), Inv (i + 1) below14' → Q (rc n0 t4 leq5 p12 y13 below14' ((i + 1 : Nat) : Int))) → Q (zz39_b28 rc (zz39_a28 rec) n0 t4 leq5 p12 y13 below14 (i : Int)))
  (he : ∀ (rc : Int → Y2 → Y5 → Y2 → Int → Y4 → Int → Z2) (below14 : Y4), Inv cnt below14 → Q (zz39_b28 rc (zz39_a28 rec) n0 t4 leq5 p12 y13 below14 (cnt : Int)))
  (i0 : Nat) (hi : i0 ≤ cnt) (below14 : Y4) (h0 : Inv i0 below14) : Q (zz39_F28 big rec k n0 t4 leq5 p12 y13 below14 (i0 : Int)) := by
  have key : ∀ (m i : Nat) (below14 : Y4), i ≤ cnt → cnt < m + i → Inv i below14 → Q (zz39_l28 big (zz39_a28 rec) m n0 t4 leq5 p12 y13 below14 (i : Int)) := by
    intro m
    induction m with
    | zero => intro i below14 h1 h2 h3; exact absurd h2 (by omega)
    | succ m ih =>
      intro i below14 h1 h2 h3
      rcases Nat.lt_or_ge i cnt with hlt | hge
      · exact hs _ i below14 hlt h3 (fun below14' h4 => ih (i + 1) below14' (by omega) (by omega) h4)
      · obtain rfl : i = cnt := by omega
        exact he _ below14 h3
  exact key big i0 below14 hi (by have := big_ge; omega) h0
theorem zz40_q2 {l0 : Y4} {n1 : Int} (cnt : Nat) (Inv : Nat → Prop) {Q : Option Z11 → Prop} (hn : cnt ≤ 500000000000)
  (hs : ∀ (rc : Y4 → Int → Int → Option Z11) (i : Nat), i < cnt → Inv i → (Inv (i + 1) → Q (rc l0 n1 ((i + 1 : Nat) : Int))) → Q (zz40_b2 rc zz40_a2 l0 n1 (i : Int)))
  (he : ∀ (rc : Y4 → Int → Int → Option Z11), Inv cnt → Q (zz40_b2 rc zz40_a2 l0 n1 (cnt : Int)))
  (i0 : Nat) (hi : i0 ≤ cnt) (h0 : Inv i0) : Q (zz40_F2 big l0 n1 (i0 : Int)) := by
  have key : ∀ (m i : Nat), i ≤ cnt → cnt < m + i → Inv i → Q (zz40_l2 big zz40_a2 m l0 n1 (i : Int)) := by
    intro m
    induction m with
    | zero => intro i h1 h2 h3; exact absurd h2 (by omega)
    | succ m ih =>
      intro i h1 h2 h3
      rcases Nat.lt_or_ge i cnt with hlt | hge
      · exact hs _ i hlt h3 (fun h4 => ih (i + 1) (by omega) (by omega) h4)
      · obtain rfl : i = cnt := by omega
        exact he _ h3
  exact key big i0 hi (by have := big_ge; omega) h0
theorem zz41_q4 {t2 : Y2} {n3 : Int} (cnt : Nat) (Inv : Nat → Z10 → Z12 → Prop) {Q : Z3 → Prop} (hn : cnt ≤ 500000000000)
  (hs : ∀ (rc : Z10 → Y2 → Int → Z12 → Int → Z3) (i : Nat) (c0 : Z10) (pairs4 : Z12), i < cnt → Inv i c0 pairs4 → (∀ (c0' : Z10) (pairs4' : Z12), Inv (i + 1) c0' pairs4' → Q (rc c0' t2 n3 pairs4' ((i + 1 : Nat) : Int))) → Q (zz41_b4 (zz41_F7 big rc (zz41_a4 (zz41_F14 big) (zz41_F29 big))) (zz41_a4 (zz41_F14 big) (zz41_F29 big)) c0 t2 n3 pairs4 (i : Int)))
  (he : ∀ (rc : Z10 → Y2 → Int → Z12 → Int → Z3) (c0 : Z10) (pairs4 : Z12), Inv cnt c0 pairs4 → Q (zz41_b4 (zz41_F7 big rc (zz41_a4 (zz41_F14 big) (zz41_F29 big))) (zz41_a4 (zz41_F14 big) (zz41_F29 big)) c0 t2 n3 pairs4 (cnt : Int)))
  (i0 : Nat) (hi : i0 ≤ cnt) (c0 : Z10) (pairs4 : Z12) (h0 : Inv i0 c0 pairs4) : Q (zz41_F4 big c0 t2 n3 pairs4 (i0 : Int)) := by
  have key : ∀ (m i : Nat) (c0 : Z10) (pairs4 : Z12), i ≤ cnt → cnt < m + i → Inv i c0 pairs4 → Q (zz41_l4 big (zz41_a4 (zz41_F14 big) (zz41_F29 big)) m c0 t2 n3 pairs4 (i : Int)) := by
    intro m
    induction m with
    | zero => intro i c0 pairs4 h1 h2 h3; exact absurd h2 (by omega)
    | succ m ih =>
      intro i c0 pairs4 h1 h2 h3
      rcases Nat.lt_or_ge i cnt with hlt | hge
      · exact hs _ i c0 pairs4 hlt h3 (fun c0' pairs4' h4 => ih (i + 1) c0' pairs4' (by omega) (by omega) h4)
      · obtain rfl : i = cnt := by omega
        exact he _ c0 pairs4 h3
  exact key big i0 c0 pairs4 hi (by have := big_ge; omega) h0
theorem zz41_q7 {rec : Z10 → Y2 → Int → Z12 → Int → Z3} {k : Z10 → Y2 → Int → Z12 → Z3} {t2 : Y2} {n3 : Int} {x5 : Int} (cnt : Nat) (Inv : Nat → Z10 → Z12 → Prop) {Q : Z3 → Prop} (hn : cnt ≤ 500000000000)
  (hs : ∀ (rc : Z10 → Y2 → Int → Z12 → Int → Int → Z3) (i : Nat) (c0 : Z10) (pairs4 : Z12), i < cnt → Inv i c0 pairs4 → (∀ (c0' : Z10) (pairs4' : Z12), Inv (i + 1) c0' pairs4' → Q (rc c0' t2 n3 pairs4' x5 ((i + 1 : Nat) : Int))) → Q (zz41_b7 rc (zz41_a7 rec) c0 t2 n3 pairs4 x5 (i : Int)))
  (he : ∀ (rc : Z10 → Y2 → Int → Z12 → Int → Int → Z3) (c0 : Z10) (pairs4 : Z12), Inv cnt c0 pairs4 → Q (zz41_b7 rc (zz41_a7 rec) c0 t2 n3 pairs4 x5 (cnt : Int)))
  (i0 : Nat) (hi : i0 ≤ cnt) (c0 : Z10) (pairs4 : Z12) (h0 : Inv i0 c0 pairs4) : Q (zz41_F7 big rec k c0 t2 n3 pairs4 x5 (i0 : Int)) := by
  have key : ∀ (m i : Nat) (c0 : Z10) (pairs4 : Z12), i ≤ cnt → cnt < m + i → Inv i c0 pairs4 → Q (zz41_l7 big (zz41_a7 rec) m c0 t2 n3 pairs4 x5 (i : Int)) := by
    intro m
    induction m with
    | zero => intro i c0 pairs4 h1 h2 h3; exact absurd h2 (by omega)
    | succ m ih =>
      intro i c0 pairs4 h1 h2 h3
      rcases Nat.lt_or_ge i cnt with hlt | hge
      · exact hs _ i c0 pairs4 hlt h3 (fun c0' pairs4' h4 => ih (i + 1) c0' pairs4' (by omega) (by omega) h4)
      · obtain rfl : i = cnt := by omega
        exact he _ c0 pairs4 h3
  exact key big i0 c0 pairs4 hi (by have := big_ge; omega) h0
theorem zz41_q14 {c0 : Z10} {t2 : Y2} {n3 : Int} {names7 : Y4} (cnt : Nat) (Inv : Nat → Z12 → Prop) {Q : Z3 → Prop} (hn : cnt ≤ 500000000000)
  (hs : ∀ (rc : Z10 → Y2 → Int → Z12 → Y4 → Int → Z3) (i : Nat) (pairs4 : Z12), i < cnt → Inv i pairs4 → (∀ (pairs4' : Z12), Inv (i + 1) pairs4' → Q (rc c0 t2 n3 pairs4' names7 ((i + 1 : Nat) : Int))) → Q (zz41_b14 rc (zz41_a14 (zz41_F29 big)) c0 t2 n3 pairs4 names7 (i : Int)))
  (he : ∀ (rc : Z10 → Y2 → Int → Z12 → Y4 → Int → Z3) (pairs4 : Z12), Inv cnt pairs4 → Q (zz41_b14 rc (zz41_a14 (zz41_F29 big)) c0 t2 n3 pairs4 names7 (cnt : Int)))
  (i0 : Nat) (hi : i0 ≤ cnt) (pairs4 : Z12) (h0 : Inv i0 pairs4) : Q (zz41_F14 big c0 t2 n3 pairs4 names7 (i0 : Int)) := by
  have key : ∀ (m i : Nat) (pairs4 : Z12), i ≤ cnt → cnt < m + i → Inv i pairs4 → Q (zz41_l14 big (zz41_a14 (zz41_F29 big)) m c0 t2 n3 pairs4 names7 (i : Int)) := by
    intro m
    induction m with
    | zero => intro i pairs4 h1 h2 h3; exact absurd h2 (by omega)
    | succ m ih =>
      intro i pairs4 h1 h2 h3
      rcases Nat.lt_or_ge i cnt with hlt | hge
      · exact hs _ i pairs4 hlt h3 (fun pairs4' h4 => ih (i + 1) pairs4' (by omega) (by omega) h4)
      · obtain rfl : i = cnt := by omega
        exact he _ pairs4 h3
  exact key big i0 pairs4 hi (by have := big_ge; omega) h0
theorem zz41_v29 {t2 : Y2} (mu : Z10 → Y2 → Nat) (Inv : Z10 → Y2 → Prop) {Q : Z3 → Prop}
  (hs : ∀ (rc : Z10 → Y2 → Y2 → Z3) (c0 : Z10) (p9 : Y2), Inv c0 p9 → (∀ (c0' : Z10) (p9' : Y2), Inv c0' p9' → mu c0' p9' < mu c0 p9 → Q (rc c0' t2 p9')) → Q (zz41_b29 rc zz41_a29 c0 t2 p9))
  (c0 : Z10) (p9 : Y2) (hm : mu c0 p9 ≤ 500000000000) (h0 : Inv c0 p9) : Q (zz41_F29 big c0 t2 p9) := by
  have key : ∀ (m : Nat) (c0 : Z10) (p9 : Y2), mu c0 p9 < m → Inv c0 p9 → Q (zz41_l29 big zz41_a29 m c0 t2 p9) := by
    intro m
    induction m with
    | zero => intro c0 p9 h2 h3; exact absurd h2 (by omega)
    | succ m ih =>
      intro c0 p9 h2 h3
      exact hs _ c0 p9 h3 (fun c0' p9' h4 h5 => ih c0' p9' (by omega) h4)
  exact key big c0 p9 (by have := big_ge; omega) h0
theorem zz44_h2 {l0 : Y4} {n1 : Int} (cnt : Nat) (Inv : Nat → Prop) {res : Z1} (hn : cnt ≤ 500000000000)
  (hs : ∀ (rc : Y4 → Int → Int → Z1) (i : Nat), i < cnt → Inv i → (Inv (i + 1) → rc l0 n1 ((i + 1 : Nat) : Int) = res) → zz44_b2 rc zz44_a2 l0 n1 (i : Int) = res)
  (he : ∀ (rc : Y4 → Int → Int → Z1), Inv cnt → zz44_b2 rc zz44_a2 l0 n1 (cnt : Int) = res)
  (i0 : Nat) (hi : i0 ≤ cnt) (h0 : Inv i0) : zz44_F2 big l0 n1 (i0 : Int) = res := by
  have key : ∀ (m i : Nat), i ≤ cnt → cnt < m + i → Inv i → zz44_l2 big zz44_a2 m l0 n1 (i : Int) = res := by
    intro m
    induction m with
    | zero => intro i h1 h2 h3; exact absurd h2 (by omega)
    | succ m ih =>
      intro i h1 h2 h3
      rcases Nat.lt_or_ge i cnt with hlt | hge
      · exact hs _ i hlt h3 (fun h4 => ih (i + 1) (by omega) (by omega) h4)
      · obtain rfl : i = cnt := by omega
        exact he _ h3
  exact key big i0 hi (by have := big_ge; omega) h0
theorem zz49_q9 {c0 : Z10} {t2 : Y2} {p3 : Y2} {n4 : Int} {names5 : Y4} (cnt : Nat) (Inv : Nat → Z12 → Prop) {Q : Z3 → Prop} (hn : cnt ≤ 500000000000)
  (hs : ∀ (rc : Z10 → Y2 → Y2 → Int → Y4 → Z12 → Int → Z3) (i : Nat) (pairs6 : Z12), i < cnt → Inv i pairs6 → (∀ (pairs6' : Z12), Inv (i + 1) pairs6' → Q (rc c0 t2 p3 n4 names5 pairs6' ((i + 1 : Nat) : Int))) → Q (zz49_b9 rc zz49_a9 c0 t2 p3 n4 names5 pairs6 (i : Int)))
  (he : ∀ (rc : Z10 → Y2 → Y2 → Int → Y4 → Z12 → Int → Z3) (pairs6 : Z12), Inv cnt pairs6 → Q (zz49_b9 rc zz49_a9 c0 t2 p3 n4 names5 pairs6 (cnt : Int)))
  (i0 : Nat) (hi : i0 ≤ cnt) (pairs6 : Z12) (h0 : Inv i0 pairs6) : Q (zz49_F9 big c0 t2 p3 n4 names5 pairs6 (i0 : Int)) := by
  have key : ∀ (m i : Nat) (pairs6 : Z12), i ≤ cnt → cnt < m + i → Inv i pairs6 → Q (zz49_l9 big zz49_a9 m c0 t2 p3 n4 names5 pairs6 (i : Int)) := by
    intro m
    induction m with
    | zero => intro i pairs6 h1 h2 h3; exact absurd h2 (by omega)
    | succ m ih =>
      intro i pairs6 h1 h2 h3
      rcases Nat.lt_or_ge i cnt with hlt | hge
      · exact hs _ i pairs6 hlt h3 (fun pairs6' h4 => ih (i + 1) pairs6' (by omega) (by omega) h4)
      · obtain rfl : i = cnt := by omega
        exact he _ pairs6 h3
  exact key big i0 pairs6 hi (by have := big_ge; omega) h0
theorem zz51_q5 {t2 : Y2} {p6 : Y2} (cnt : Nat) (Inv : Nat → Z10 → Y4 → Prop) {Q : Z14 → Prop} (hn : cnt ≤ 500000000000)
  (hs : ∀ (rc : Y2 → Z10 → Y2 → Y4 → Int → Z14) (i : Nat) (c5 : Z10) (elements7 : Y4), i < cnt → Inv i c5 elements7 → (∀ (c5' : Z10) (elements7' : Y4), Inv (i + 1) c5' elements7' → Q (rc t2 c5' p6 elements7' ((i + 1 : Nat) : Int))) → Q (zz51_b5 rc zz51_a5 t2 c5 p6 elements7 (i : Int)))
  (he : ∀ (rc : Y2 → Z10 → Y2 → Y4 → Int → Z14) (c5 : Z10) (elements7 : Y4), Inv cnt c5 elements7 → Q (zz51_b5 rc zz51_a5 t2 c5 p6 elements7 (cnt : Int)))
  (i0 : Nat) (hi : i0 ≤ cnt) (c5 : Z10) (elements7 : Y4) (h0 : Inv i0 c5 elements7) : Q (zz51_F5 big t2 c5 p6 elements7 (i0 : Int)) := by
  have key : ∀ (m i : Nat) (c5 : Z10) (elements7 : Y4), i ≤ cnt → cnt < m + i → Inv i c5 elements7 → Q (zz51_l5 big zz51_a5 m t2 c5 p6 elements7 (i : Int)) := by
    intro m
    induction m with
    | zero => intro i c5 elements7 h1 h2 h3; exact absurd h2 (by omega)
    | succ m ih =>
      intro i c5 elements7 h1 h2 h3
      rcases Nat.lt_or_ge i cnt with hlt | hge
      · exact hs _ i c5 elements7 hlt h3 (fun c5' elements7' h4 => ih (i + 1) c5' elements7' (by omega) (by omega) h4)
      · obtain rfl : i = cnt := by omega
        exact he _ c5 elements7 h3
  exact key big i0 c5 elements7 hi (by have := big_ge; omega) h0
theorem zz52_h3 {n0 : Int} {t8 : Int} (cnt : Nat) (Inv : Nat → Y5 → Prop) {res : Z9} (hn : cnt ≤ 500000000000)
  (hs : ∀ (rc : Int → Y5 → Int → Int → Z9) (i : Nat) (o3 : Y5), i < cnt → Inv i o3 → (∀ (o3' : Y5), Inv (i + 1) o3' → rc n0 o3' t8 ((i + 1 : Nat) : Int) = res) → zz52_b3 rc zz52_a3 n0 o3 t8 (i : Int) = res)
  (he : ∀ (rc : Int → Y5 → Int → Int → Z9) (o3 : Y5), Inv cnt o3 → zz52_b3 rc zz52_a3 n0 o3 t8 (cnt : Int) = res)
  (i0 : Nat) (hi : i0 ≤ cnt) (o3 : Y5) (h0 : Inv i0 o3) : zz52_F3 big n0 o3 t8 (i0 : Int) = res := by
  have key : ∀ (m i : Nat) (o3 : Y5), i ≤ cnt → cnt < m + i → Inv i o3 → zz52_l3 big zz52_a3 m n0 o3 t8 (i : Int) = res := by
    intro m
    induction m with
    | zero => intro i o3 h1 h2 h3; exact absurd h2 (by omega)
    | succ m ih =>
      intro i o3 h1 h2 h3
      rcases Nat.lt_or_ge i cnt with hlt | hge
      · exact hs _ i o3 hlt h3 (fun o3' h4 => ih (i + 1) o3' (by omega) (by omega) h4)
      · obtain rfl : i = cnt := by omega
        exact he _ o3 h3
  exact key big i0 o3 hi (by have := big_ge; omega) h0
theorem zz55_h2 {o0 : Y5} {t7 : Int} (cnt : Nat) (Inv : Nat → Prop) {res : Z1} (hn : cnt ≤ 500000000000)
  (hs : ∀ (rc : Y5 → Int → Int → Z1) (i : Nat), i < cnt → Inv i → (Inv (i + 1) → rc o0 t7 ((i + 1 : Nat) : Int) = res) → zz55_b2 (zz55_F7 big rc zz55_a2) zz55_a2 o0 t7 (i : Int) = res)
  (he : ∀ (rc : Y5 → Int → Int → Z1), Inv cnt → zz55_b2 (zz55_F7 big rc zz55_a2) zz55_a2 o0 t7 (cnt : Int) = res)
  (i0 : Nat) (hi : i0 ≤ cnt) (h0 : Inv i0) : zz55_F2 big o0 t7 (i0 : Int) = res := by
  have key : ∀ (m i : Nat), i ≤ cnt → cnt < m + i → Inv i → zz55_l2 big zz55_a2 m o0 t7 (i : Int) = res := by
    intro m
    induction m with
    | zero => intro i h1 h2 h3; exact absurd h2 (by omega)
    | succ m ih =>
      intro i h1 h2 h3
      rcases Nat.lt_or_ge i cnt with hlt | hge
      · exact hs _ i hlt h3 (fun h4 => ih (i + 1) (by omega) (by omega) h4)
      · obtain rfl : i = cnt := by omega
        exact he _ h3
  exact key big i0 hi (by have := big_ge; omega) h0
theorem zz55_h7 {rec : Y5 → Int → Int → Z1} {k : Z1} {o0 : Y5} {x3 : Int} {t7 : Int} {t8 : Int} {t20 : Int} (cnt : Nat) (Inv : Nat → Prop) {res : Z1} (hn : cnt ≤ 500000000000)
  (hs : ∀ (rc : Y5 → Int → Int → Int → Int → Int → Z1) (i : Nat), i < cnt → Inv i → (Inv (i + 1) → rc o0 x3 t7 t8 t20 ((i + 1 : Nat) : Int) = res) → zz55_b7 (zz55_F12 big rc (zz55_a7 rec)) (zz55_a7 rec) o0 x3 t7 t8 t20 (i : Int) = res)
  (he : ∀ (rc : Y5 → Int → Int → Int → Int → Int → Z1), Inv cnt → zz55_b7 (zz55_F12 big rc (zz55_a7 rec)) (zz55_a7 rec) o0 x3 t7 t8 t20 (cnt : Int) = res)
  (i0 : Nat) (hi : i0 ≤ cnt) (h0 : Inv i0) : zz55_F7 big rec k o0 x3 t7 t8 t20 (i0 : Int) = res := by
  have key : ∀ (m i : Nat), i ≤ cnt → cnt < m + i → Inv i → zz55_l7 big (zz55_a7 rec) m o0 x3 t7 t8 t20 (i : Int) = res := by
    intro m
    induction m with
    | zero => intro i h1 h2 h3; exact absurd h2 (by omega)
    | succ m ih =>
      intro i h1 h2 h3
      rcases Nat.lt_or_ge i cnt with hlt | hge
      · exact hs _ i hlt h3 (fun h4 => ih (i + 1) (by omega) (by omega) h4)
      · obtain rfl : i = cnt := by omega
        exact he _ h3
  exact key big i0 hi (by have := big_ge; omega) h0
theorem zz55_h12 {rec : Y5 → Int → Int → Int → Int → Int → Z1} {k : Y5 → Int → Int → Z1} {o0 : Y5} {x3 : Int} {y4 : Int} {t7 : Int} {t8 : Int} {t20 : Int} {t21 : Int} {t46 : Int} (cnt : Nat) (Inv : Nat → Prop) {res : Z1} (hn : cnt ≤ 500000000000)
  (hs : ∀ (rc : Y5 → Int → Int → Int → Int → Int → Int → Int → Int → Z1) (i : Nat), i < cnt → Inv i → (Inv (i + 1) → rc o0 x3 y4 t7 t8 t20 t21 t46 ((i + 1 : Nat) : Int) = res) → zz55_b12 rc (zz55_a12 rec) o0 x3 y4 t7 t8 t20 t21 t46 (i : Int) = res)
  (he : ∀ (rc : Y5 → Int → Int → Int → Int → Int → Int → Int → Int → Z1), Inv cnt → zz55_b12 rc (zz55_a12 rec) o0 x3 y4 t7 t8 t20 t21 t46 (cnt : Int) = res)
  (i0 : Nat) (hi : i0 ≤ cnt) (h0 : Inv i0) : zz55_F12 big rec k o0 x3 y4 t7 t8 t20 t21 t46 (i0 : Int) = res := by
  have key : ∀ (m i : Nat), i ≤ cnt → cnt < m + i → Inv i → zz55_l12 big (zz55_a12 rec) m o0 x3 y4 t7 t8 t20 t21 t46 (i : Int) = res := by
    intro m
    induction m with
    | zero => intro i h1 h2 h3; exact absurd h2 (by omega)
    | succ m ih =>
      intro i h1 h2 h3
      rcases Nat.lt_or_ge i cnt with hlt | hge
      · exact hs _ i hlt h3 (fun h4 => ih (i + 1) (by omega) (by omega) h4)
      · obtain rfl : i = cnt := by omega
        exact he _ h3
  exact key big i0 hi (by have := big_ge; omega) h0
theorem zz56_h6 {n4 : Int} {t18 : Y3} {t19 : Int} (cnt : Nat) (Inv : Nat → Y5 → Prop) {res : Z5} (hn : cnt ≤ 500000000000)
  (hs : ∀ (rc : Int → Y5 → Y3 → Int → Int → Z5) (i : Nat) (o5 : Y5), i < cnt → Inv i o5 → (∀ (o5' : Y5), Inv (i + 1) o5' → rc n4 o5' t18 t19 ((i + 1 : Nat) : Int) = res) → zz56_b6 (zz56_F11 big rc zz56_a6) zz56_a6 n4 o5 t18 t19 (i : Int) = res)
  (he : ∀ (rc : Int → Y5 → Y3 → Int → Int → Z5) (o5 : Y5), Inv cnt o5 → zz56_b6 (zz56_F11 big rc zz56_a6) zz56_a6 n4 o5 t18 t19 (cnt : Int) = res)
  (i0 : Nat) (hi : i0 ≤ cnt) (o5 : Y5) (h0 : Inv i0 o5) : zz56_F6 big n4 o5 t18 t19 (i0 : Int) = res := by
  have key : ∀ (m i : Nat) (o5 : Y5), i ≤ cnt → cnt < m + i → Inv i o5 → zz56_l6 big zz56_a6 m n4 o5 t18 t19 (i : Int) = res := by
    intro m
    induction m with
    | zero => intro i o5 h1 h2 h3; exact absurd h2 (by omega)
    | succ m ih =>
      intro i o5 h1 h2 h3
      rcases Nat.lt_or_ge i cnt with hlt | hge
      · exact hs _ i o5 hlt h3 (fun o5' h4 => ih (i + 1) o5' (by omega) (by omega) h4)
      · obtain rfl : i = cnt := by omega
        exact he _ o5 h3
  exact key big i0 o5 hi (by have := big_ge; omega) h0
theorem zz56_h11 {rec : Int → Y5 → Y3 → Int → Int → Z5} {k : Y5 → Z5} {n4 : Int} {x6 : Int} {t18 : Y3} {t19 : Int} {t20 : Int} {t29 : Y4} {t30 : Int} {t31 : Bool} {t32 : Bool} {t34 : Y4} {t35 : Int} (cnt : Nat) (Inv : Nat → Y5 → Prop) {res : Z5} (hn : cnt ≤ 500000000000)
  (hs : ∀ (rc : Int → Y5 → Int → Y3 → Int → Int → Y4 → Int → Bool → Bool → Y4 → Int → Int → Z5) (i : Nat) (o5 : Y5), i < cnt → Inv i o5 → (∀ (o5' : Y5), Inv (i + 1) o5' → rc n4 o5' x6 t18 t19 t20 t29 t30 t31 t32 t34 t35 ((i + 1 : Nat) : Int) = res) → zz56_b11 rc (zz56_a11 rec) n4 o5 x6 t18 t19 t20 t29 t30 t31 t32 t34 t35 (i : Int) = res)
  (he : ∀ (rc : Int → Y5 → Int → Y3 → Int → Int → Y4 → Int → Bool → Bool → Y4 → Int → Int → Z5) (o5 : Y5), Inv cnt o5 → zz56_b11 rc (zz56_a11 rec) n4 o5 x6 t18 t19 t20 t29 t30 t31 t32 t34 t35 (cnt : Int) = res)
  (i0 : Nat) (hi : i0 ≤ cnt) (o5 : Y5) (h0 : Inv i0 o5) : zz56_F11 big rec k n4 o5 x6 t18 t19 t20 t29 t30 t31 t32 t34 t35 (i0 : Int) = res := by
  have key : ∀ (m i : Nat) (o5 : Y5), i ≤ cnt → cnt < m + i → Inv i o5 → zz56_l11 big (zz56_a11 rec) m n4 o5 x6 t18 t19 t20 t29 t30 t31 t32 t34 t35 (i : Int) = res := by
    intro m
    induction m with
    | zero => intro i o5 h1 h2 h3; exact absurd h2 (by omega)
    | succ m ih =>
      intro i o5 h1 h2 h3
      rcases Nat.lt_or_ge i cnt with hlt | hge
      · exact hs _ i o5 hlt h3 (fun o5' h4 => ih (i + 1) o5' (by omega) (by omega) h4)
      · obtain rfl : i = cnt := by omega
        exact he _ o5 h3
  exact key big i0 o5 hi (by have := big_ge; omega) h0
theorem zz57_h2 {o0 : Y5} {list1 : Y4} {t10 : Y4} {t11 : Int} (cnt : Nat) (Inv : Nat → Prop) {res : Z4} (hn : cnt ≤ 500000000000)
  (hs : ∀ (rc : Y5 → Y4 → Y4 → Int → Int → Z4) (i : Nat), i < cnt → Inv i → (Inv (i + 1) → rc o0 list1 t10 t11 ((i + 1 : Nat) : Int) = res) → zz57_b2 (zz57_F6 big rc zz57_a2) zz57_a2 o0 list1 t10 t11 (i : Int) = res)
  (he : ∀ (rc : Y5 → Y4 → Y4 → Int → Int → Z4), Inv cnt → zz57_b2 (zz57_F6 big rc zz57_a2) zz57_a2 o0 list1 t10 t11 (cnt : Int) = res)
  (i0 : Nat) (hi : i0 ≤ cnt) (h0 : Inv i0) : zz57_F2 big o0 list1 t10 t11 (i0 : Int) = res := by
  have key : ∀ (m i : Nat), i ≤ cnt → cnt < m + i → Inv i → zz57_l2 big zz57_a2 m o0 list1 t10 t11 (i : Int) = res := by
    intro m
    induction m with
    | zero => intro i h1 h2 h3; exact absurd h2 (by omega)
    | succ m ih =>
      intro i h1 h2 h3
      rcases Nat.lt_or_ge i cnt with hlt | hge
      · exact hs _ i hlt h3 (fun h4 => ih (i + 1) (by omega) (by omega) h4)
      · obtain rfl : i = cnt := by omega
        exact he _ h3
  exact key big i0 hi (by have := big_ge; omega) h0
theorem zz57_h6 {rec : Y5 → Y4 → Y4 → Int → Int → Z4} {k : Z4} {o0 : Y5} {list1 : Y4} {x6 : Int} {t10 : Y4} {t11 : Int} {t12 : Int} {t16 : Y4} {t17 : Int} (cnt : Nat) (Inv : Nat → Bool → Prop) {res : Z4} (hn : cnt ≤ 500000000000)
  (hs : ∀ (rc : Y5 → Y4 → Int → Bool → Y4 → Int → Int → Y4 → Int → Int → Z4) (i : Nat) (top7 : Bool), i < cnt → Inv i top7 → (∀ (top7' : Bool), Inv (i + 1) top7' → rc o0 list1 x6 top7' t10 t11 t12 t16 t17 ((i + 1 : Nat) : Int) = res) → zz57_b6 rc (zz57_a6 rec) o0 list1 x6 top7 t10 t11 t12 t16 t17 (i : Int) = res)
  (he : ∀ (rc : Y5 → Y4 → Int → Bool → Y4 → Int → Int → Y4 → Int → Int → Z4) (top7 : Bool), Inv cnt top7 → zz57_b6 rc (zz57_a6 rec) o0 list1 x6 top7 t10 t11 t12 t16 t17 (cnt : Int) = res)
  (i0 : Nat) (hi : i0 ≤ cnt) (top7 : Bool) (h0 : Inv i0 top7) : zz57_F6 big rec k o0 list1 x6 top7 t10 t11 t12 t16 t17 (i0 : Int) = res := by
  have key : ∀ (m i : Nat) (top7 : Bool), i ≤ cnt → cnt < m + i → Inv i top7 → zz57_l6 big (zz57_a6 rec) m o0 list1 x6 top7 t10 t11 t12 t16 t17 (i : Int) = res := by
    intro m
    induction m with
    | zero => intro i top7 h1 h2 h3; exact absurd h2 (by omega)
    | succ m ih =>
      intro i top7 h1 h2 h3
      rcases Nat.lt_or_ge i cnt with hlt | hge
      · exact hs _ i top7 hlt h3 (fun top7' h4 => ih (i + 1) top7' (by omega) (by omega) h4)
      · obtain rfl : i = cnt := by omega
        exact he _ top7 h3
  exact key big i0 top7 hi (by have := big_ge; omega) h0
theorem zz59_h3 {so1 : (Y5 × Z0)} {t9 : Int} (cnt : Nat) (Inv : Nat → Y4 → Prop) {res : Option Z11} (hn : cnt ≤ 500000000000)
  (hs : ∀ (rc : (Y5 × Z0) → Y4 → Int → Int → Option Z11) (i : Nat) (list5 : Y4), i < cnt → Inv i list5 → (∀ (list5' : Y4), Inv (i + 1) list5' → rc so1 list5' t9 ((i + 1 : Nat) : Int) = res) → zz59_b3 rc zz59_a3 so1 list5 t9 (i : Int) = res)
  (he : ∀ (rc : (Y5 × Z0) → Y4 → Int → Int → Option Z11) (list5 : Y4), Inv cnt list5 → zz59_b3 rc zz59_a3 so1 list5 t9 (cnt : Int) = res)
  (i0 : Nat) (hi : i0 ≤ cnt) (list5 : Y4) (h0 : Inv i0 list5) : zz59_F3 big so1 list5 t9 (i0 : Int) = res := by
  have key : ∀ (m i : Nat) (list5 : Y4), i ≤ cnt → cnt < m + i → Inv i list5 → zz59_l3 big zz59_a3 m so1 list5 t9 (i : Int) = res := by
    intro m
    induction m with
    | zero => intro i list5 h1 h2 h3; exact absurd h2 (by omega)
    | succ m ih =>
      intro i list5 h1 h2 h3
      rcases Nat.lt_or_ge i cnt with hlt | hge
      · exact hs _ i list5 hlt h3 (fun list5' h4 => ih (i + 1) list5' (by omega) (by omega) h4)
      · obtain rfl : i = cnt := by omega
        exact he _ list5 h3
  exact key big i0 list5 hi (by have := big_ge; omega) h0
theorem zz60_h3 {o1 : Y5} {t11 : Int} (cnt : Nat) (Inv : Nat → Y3 → Prop) {res : Z6} (hn : cnt ≤ 500000000000)
  (hs : ∀ (rc : Y5 → Y3 → Int → Int → Z6) (i : Nat) (table4 : Y3), i < cnt → Inv i table4 → (∀ (table4' : Y3), Inv (i + 1) table4' → rc o1 table4' t11 ((i + 1 : Nat) : Int) = res) → zz60_b3 (zz60_F7 big rc zz60_a3) zz60_a3 o1 table4 t11 (i : Int) = res)
  (he : ∀ (rc : Y5 → Y3 → Int → Int → Z6) (table4 : Y3), Inv cnt table4 → zz60_b3 (zz60_F7 big rc zz60_a3) zz60_a3 o1 table4 t11 (cnt : Int) = res)
  (i0 : Nat) (hi : i0 ≤ cnt) (table4 : Y3) (h0 : Inv i0 table4) : zz60_F3 big o1 table4 t11 (i0 : Int) = res := by
  have key : ∀ (m i : Nat) (table4 : Y3), i ≤ cnt → cnt < m + i → Inv i table4 → zz60_l3 big zz60_a3 m o1 table4 t11 (i : Int) = res := by
    intro m
    induction m with
    | zero => intro i table4 h1 h2 h3; exact absurd h2 (by omega)
    | succ m ih =>
      intro i table4 h1 h2 h3
      rcases Nat.lt_or_ge i cnt with hlt | hge
      · exact hs _ i table4 hlt h3 (fun table4' h4 => ih (i + 1) table4' (by omega) (by omega) h4)
      · obtain rfl : i = cnt := by omega
        exact he _ table4 h3
  exact key big i0 table4 hi (by have := big_ge; omega) h0
theorem zz60_h7 {rec : Y5 → Y3 → Int → Int → Z6} {k : Y3 → Z6} {o1 : Y5} {table4 : Y3} {x5 : Int} {t11 : Int} {t12 : Int} {t17 : Int} (cnt : Nat) (Inv : Nat → Y4 → Prop) {res : Z6} (hn : cnt ≤ 500000000000)
  (hs : ∀ (rc : Y5 → Y3 → Int → Y4 → Int → Int → Int → Int → Z6) (i : Nat) (row6 : Y4), i < cnt → Inv i row6 → (∀ (row6' : Y4), Inv (i + 1) row6' → rc o1 table4 x5 row6' t11 t12 t17 ((i + 1 : Nat) : Int) = res) → zz60_b7 rc (zz60_a7 rec) o1 table4 x5 row6 t11 t12 t17 (i : Int) = res)
  (he : ∀ (rc : Y5 → Y3 → Int → Y4 → Int → Int → Int → Int → Z6) (row6 : Y4), Inv cnt row6 → zz60_b7 rc (zz60_a7 rec) o1 table4 x5 row6 t11 t12 t17 (cnt : Int) = res)
  (i0 : Nat) (hi : i0 ≤ cnt) (row6 : Y4) (h0 : Inv i0 row6) : zz60_F7 big rec k o1 table4 x5 row6 t11 t12 t17 (i0 : Int) = res := by
  have key : ∀ (m i : Nat) (row6 : Y4), i ≤ cnt → cnt < m + i → Inv i row6 → zz60_l7 big (zz60_a7 rec) m o1 table4 x5 row6 t11 t12 t17 (i : Int) = res := by
    intro m
    induction m with
    | zero => intro i row6 h1 h2 h3; exact absurd h2 (by omega)
    | succ m ih =>
      intro i row6 h1 h2 h3
      rcases Nat.lt_or_ge i cnt with hlt | hge
      · exact hs _ i row6 hlt h3 (fun row6' h4 => ih (i + 1) row6' (by omega) (by omega) h4)
      · obtain rfl : i = cnt := by omega
        exact he _ row6 h3
  exact key big i0 row6 hi (by have := big_ge; omega) h0
theorem zz61_h3 {o0 : Y5} {t10 : Int} (cnt : Nat) (Inv : Nat → Y5 → Prop) {res : Z9} (hn : cnt ≤ 500000000000)
  (hs : ∀ (rc : Y5 → Y5 → Int → Int → Z9) (i : Nat) (d3 : Y5), i < cnt → Inv i d3 → (∀ (d3' : Y5), Inv (i + 1) d3' → rc o0 d3' t10 ((i + 1 : Nat) : Int) = res) → zz61_b3 (zz61_F6 big rc zz61_a3) zz61_a3 o0 d3 t10 (i : Int) = res)
  (he : ∀ (rc : Y5 → Y5 → Int → Int → Z9) (d3 : Y5), Inv cnt d3 → zz61_b3 (zz61_F6 big rc zz61_a3) zz61_a3 o0 d3 t10 (cnt : Int) = res)
  (i0 : Nat) (hi : i0 ≤ cnt) (d3 : Y5) (h0 : Inv i0 d3) : zz61_F3 big o0 d3 t10 (i0 : Int) = res := by
  have key : ∀ (m i : Nat) (d3 : Y5), i ≤ cnt → cnt < m + i → Inv i d3 → zz61_l3 big zz61_a3 m o0 d3 t10 (i : Int) = res := by
    intro m
    induction m with
    | zero => intro i d3 h1 h2 h3; exact absurd h2 (by omega)
    | succ m ih =>
      intro i d3 h1 h2 h3
      rcases Nat.lt_or_ge i cnt with hlt | hge
      · exact hs _ i d3 hlt h3 (fun d3' h4 => ih (i + 1) d3' (by omega) (by omega) h4)
      · obtain rfl : i = cnt := by omega
        exact he _ d3 h3
  exact key big i0 d3 hi (by have := big_ge; omega) h0
theorem zz61_h6 {rec : Y5 → Y5 → Int → Int → Z9} {k : Y5 → Z9} {o0 : Y5} {x4 : Int} {t10 : Int} {t11 : Int} {t15 : Int} (cnt : Nat) (Inv : Nat → Y5 → Prop) {res : Z9} (hn : cnt ≤ 500000000000)
  (hs : ∀ (rc : Y5 → Y5 → Int → Int → Int → Int → Int → Z9) (i : Nat) (d3 : Y5), i < cnt → Inv i d3 → (∀ (d3' : Y5), Inv (i + 1) d3' → rc o0 d3' x4 t10 t11 t15 ((i + 1 : Nat) : Int) = res) → zz61_b6 rc (zz61_a6 rec) o0 d3 x4 t10 t11 t15 (i : Int) = res)
  (he : ∀ (rc : Y5 → Y5 → Int → Int → Int → Int → Int → Z9) (d3 : Y5), Inv cnt d3 → zz61_b6 rc (zz61_a6 rec) o0 d3 x4 t10 t11 t15 (cnt : Int) = res)
  (i0 : Nat) (hi : i0 ≤ cnt) (d3 : Y5) (h0 : Inv i0 d3) : zz61_F6 big rec k o0 d3 x4 t10 t11 t15 (i0 : Int) = res := by
  have key : ∀ (m i : Nat) (d3 : Y5), i ≤ cnt → cnt < m + i → Inv i d3 → zz61_l6 big (zz61_a6 rec) m o0 d3 x4 t10 t11 t15 (i : Int) = res := by
    intro m
    induction m with
    | zero => intro i d3 h1 h2 h3; exact absurd h2 (by omega)
    | succ m ih =>
      intro i d3 h1 h2 h3
      rcases Nat.lt_or_ge i cnt with hlt | hge
      · exact hs _ i d3 hlt h3 (fun d3' h4 => ih (i + 1) d3' (by omega) (by omega) h4)
      · obtain rfl : i = cnt := by omega
        exact he _ d3 h3
  exact key big i0 d3 hi (by have := big_ge; omega) h0
theorem zz69_h2 {x0 : Y4} {y1 : Y4} (cnt : Nat) (Inv : Nat → Prop) {res : Z1} (hn : cnt ≤ 500000000000)
  (hs : ∀ (rc : Y4 → Y4 → Int → Z1) (i : Nat), i < cnt → Inv i → (Inv (i + 1) → rc x0 y1 ((i + 1 : Nat) : Int) = res) → zz69_b2 rc zz69_a2 x0 y1 (i : Int) = res)
  (he : ∀ (rc : Y4 → Y4 → Int → Z1), Inv cnt → zz69_b2 rc zz69_a2 x0 y1 (cnt : Int) = res)
  (i0 : Nat) (hi : i0 ≤ cnt) (h0 : Inv i0) : zz69_F2 big x0 y1 (i0 : Int) = res := by
  have key : ∀ (m i : Nat), i ≤ cnt → cnt < m + i → Inv i → zz69_l2 big zz69_a2 m x0 y1 (i : Int) = res := by
    intro m
    induction m with
    | zero => intro i h1 h2 h3; exact absurd h2 (by omega)
    | succ m ih =>
      intro i h1 h2 h3
      rcases Nat.lt_or_ge i cnt with hlt | hge
      · exact hs _ i hlt h3 (fun h4 => ih (i + 1) (by omega) (by omega) h4)
      · obtain rfl : i = cnt := by omega
        exact he _ h3
  exact key big i0 hi (by have := big_ge; omega) h0
theorem zz70_h5 {p1 : Y2} {n3 : Int} (cnt : Nat) (Inv : Nat → Prop) {res : Z1} (hn : cnt ≤ 500000000000)
  (hs : ∀ (rc : Y2 → Int → Int → Z1) (i : Nat), i < cnt → Inv i → (Inv (i + 1) → rc p1 n3 ((i + 1 : Nat) : Int) = res) → zz70_b5 rc (zz70_a5 (zz70_F10 big)) p1 n3 (i : Int) = res)
  (he : ∀ (rc : Y2 → Int → Int → Z1), Inv cnt → zz70_b5 rc (zz70_a5 (zz70_F10 big)) p1 n3 (cnt : Int) = res)
  (i0 : Nat) (hi : i0 ≤ cnt) (h0 : Inv i0) : zz70_F5 big p1 n3 (i0 : Int) = res := by
  have key : ∀ (m i : Nat), i ≤ cnt → cnt < m + i → Inv i → zz70_l5 big (zz70_a5 (zz70_F10 big)) m p1 n3 (i : Int) = res := by
    intro m
    induction m with
    | zero => intro i h1 h2 h3; exact absurd h2 (by omega)
    | succ m ih =>
      intro i h1 h2 h3
      rcases Nat.lt_or_ge i cnt with hlt | hge
      · exact hs _ i hlt h3 (fun h4 => ih (i + 1) (by omega) (by omega) h4)
      · obtain rfl : i = cnt := by omega
        exact he _ h3
  exact key big i0 hi (by have := big_ge; omega) h0
theorem zz70_h10 {p1 : Y2} {n3 : Int} (cnt : Nat) (Inv : Nat → Prop) {res : Z1} (hn : cnt ≤ 500000000000)
  (hs : ∀ (rc : Y2 → Int → Int → Z1) (i : Nat), i < cnt → Inv i → (Inv (i + 1) → rc p1 n3 ((i + 1 : Nat) : Int) = res) → zz70_b10 (zz70_F13 big rc zz70_a10) zz70_a10 p1 n3 (i : Int) = res)
  (he : ∀ (rc : Y2 → Int → Int → Z1), Inv cnt → zz70_b10 (zz70_F13 big rc zz70_a10) zz70_a10 p1 n3 (cnt : Int) = res)
  (i0 : Nat) (hi : i0 ≤ cnt) (h0 : Inv i0) : zz70_F10 big p1 n3 (i0 : Int) = res := by
  have key : ∀ (m i : Nat), i ≤ cnt → cnt < m + i → Inv i → zz70_l10 big zz70_a10 m p1 n3 (i : Int) = res := by
    intro m
    induction m with
    | zero => intro i h1 h2 h3; exact absurd h2 (by omega)
    | succ m ih =>
      intro i h1 h2 h3
      rcases Nat.lt_or_ge i cnt with hlt | hge
      · exact hs _ i hlt h3 (fun h4 => ih (i + 1) (by omega) (by omega) h4)
      · obtain rfl : i = cnt := by omega
        exact he _ h3
  exact key big i0 hi (by have := big_ge; omega) h0
theorem zz70_h13 {rec : Y2 → Int → Int → Z1} {k : Z1} {p1 : Y2} {n3 : Int} {x5 : Int} (cnt : Nat) (Inv : Nat → Prop) {res : Z1} (hn : cnt ≤ 500000000000)
  (hs : ∀ (rc : Y2 → Int → Int → Int → Z1) (i : Nat), i < cnt → Inv i → (Inv (i + 1) → rc p1 n3 x5 ((i + 1 : Nat) : Int) = res) → zz70_b13 rc (zz70_a13 rec) p1 n3 x5 (i : Int) = res)
  (he : ∀ (rc : Y2 → Int → Int → Int → Z1), Inv cnt → zz70_b13 rc (zz70_a13 rec) p1 n3 x5 (cnt : Int) = res)
  (i0 : Nat) (hi : i0 ≤ cnt) (h0 : Inv i0) : zz70_F13 big rec k p1 n3 x5 (i0 : Int) = res := by
  have key : ∀ (m i : Nat), i ≤ cnt → cnt < m + i → Inv i → zz70_l13 big (zz70_a13 rec) m p1 n3 x5 (i : Int) = res := by
    intro m
    induction m with
    | zero => intro i h1 h2 h3; exact absurd h2 (by omega)
    | succ m ih =>
      intro i h1 h2 h3
      rcases Nat.lt_or_ge i cnt with hlt | hge
      · exact hs _ i hlt h3 (fun h4 => ih (i + 1) (by omega) (by omega) h4)
      · obtain rfl : i = cnt := by omega
        exact he _ h3
  exact key big i0 hi (by have := big_ge; omega) h0
theorem zz71_h3 {p1 : Y2} {t2 : Y2} (cnt : Nat) (Inv : Nat → Y2 → Prop) {res : Z2} (hn : cnt ≤ 500000000000)
  (hs : ∀ (rc : Y2 → Y2 → Y2 → Int → Z2) (i : Nat) (out3 : Y2), i < cnt → Inv i out3 → (∀ (out3' : Y2), Inv (i + 1) out3' → rc p1 t2 out3' ((i + 1 : Nat) : Int) = res) → zz71_b3 (zz71_F7 big rc zz71_a3) zz71_a3 p1 t2 out3 (i : Int) = res)
  (he : ∀ (rc : Y2 → Y2 → Y2 → Int → Z2) (out3 : Y2), Inv cnt out3 → zz71_b3 (zz71_F7 big rc zz71_a3) zz71_a3 p1 t2 out3 (cnt : Int) = res)
  (i0 : Nat) (hi : i0 ≤ cnt) (out3 : Y2) (h0 : Inv i0 out3) : zz71_F3 big p1 t2 out3 (i0 : Int) = res := by
  have key : ∀ (m i : Nat) (out3 : Y2), i ≤ cnt → cnt < m + i → Inv i out3 → zz71_l3 big zz71_a3 m p1 t2 out3 (i : Int) = res := by
    intro m
    induction m with
    | zero => intro i out3 h1 h2 h3; exact absurd h2 (by omega)
    | succ m ih =>
      intro i out3 h1 h2 h3
      rcases Nat.lt_or_ge i cnt with hlt | hge
      · exact hs _ i out3 hlt h3 (fun out3' h4 => ih (i + 1) out3' (by omega) (by omega) h4)
      · obtain rfl : i = cnt := by omega
        exact he _ out3 h3
  exact key big i0 out3 hi (by have := big_ge; omega) h0
theorem zz71_h7 {rec : Y2 → Y2 → Y2 → Int → Z2} {k : Y2 → Y2 → Z2} {p1 : Y2} {t2 : Y2} {out3 : Y2} {x4 : Int} (cnt : Nat) (Inv : Nat → Y4 → Prop) {res : Z2} (hn : cnt ≤ 500000000000)
  (hs : ∀ (rc : Y2 → Y2 → Y2 → Int → Y4 → Int → Z2) (i : Nat) (below5 : Y4), i < cnt → Inv i below5 → (∀ (below5' : Y4), Inv (i + 1) below5' → rc p1 t2 out3 x4 below5' ((i + 1 : Nat) : Int) = res) → zz71_b7 rc (zz71_a7 rec) p1 t2 out3 x4 below5 (i : Int) = res)
  (he : ∀ (rc : Y2 → Y2 → Y2 → Int → Y4 → Int → Z2) (below5 : Y4), Inv cnt below5 → zz71_b7 rc (zz71_a7 rec) p1 t2 out3 x4 below5 (cnt : Int) = res)
  (i0 : Nat) (hi : i0 ≤ cnt) (below5 : Y4) (h0 : Inv i0 below5) : zz71_F7 big rec k p1 t2 out3 x4 below5 (i0 : Int) = res := by
  have key : ∀ (m i : Nat) (below5 : Y4), i ≤ cnt → cnt < m + i → Inv i below5 → zz71_l7 big (zz71_a7 rec) m p1 t2 out3 x4 below5 (i : Int) = res := by
    intro m
    induction m with
    | zero => intro i below5 h1 h2 h3; exact absurd h2 (by omega)
    | succ m ih =>
      intro i below5 h1 h2 h3
      rcases Nat.lt_or_ge i cnt with hlt | hge
      · exact hs _ i below5 hlt h3 (fun below5' h4 => ih (i + 1) below5' (by omega) (by omega) h4)
      · obtain rfl : i = cnt := by omega
        exact he _ below5 h3
  exact key big i0 below5 hi (by have := big_ge; omega) h0
theorem zz72_h3 {some1 : Y4} {p2 : Y2} (cnt : Nat) (Inv : Nat → Y4 → Prop) {res : Z4} (hn : cnt ≤ 500000000000)
  (hs : ∀ (rc : Y4 → Y2 → Y4 → Int → Z4) (i : Nat) (low5 : Y4), i < cnt → Inv i low5 → (∀ (low5' : Y4), Inv (i + 1) low5' → rc some1 p2 low5' ((i + 1 : Nat) : Int) = res) → zz72_b3 (zz72_F7 big rc (zz72_a3 (zz72_F13 big))) (zz72_a3 (zz72_F13 big)) some1 p2 low5 (i : Int) = res)
  (he : ∀ (rc : Y4 → Y2 → Y4 → Int → Z4) (low5 : Y4), Inv cnt low5 → zz72_b3 (zz72_F7 big rc (zz72_a3 (zz72_F13 big))) (zz72_a3 (zz72_F13 big)) some1 p2 low5 (cnt : Int) = res)
  (i0 : Nat) (hi : i0 ≤ cnt) (low5 : Y4) (h0 : Inv i0 low5) : zz72_F3 big some1 p2 low5 (i0 : Int) = res := by
  have key : ∀ (m i : Nat) (low5 : Y4), i ≤ cnt → cnt < m + i → Inv i low5 → zz72_l3 big (zz72_a3 (zz72_F13 big)) m some1 p2 low5 (i : Int) = res := by
    intro m
    induction m with
    | zero => intro i low5 h1 h2 h3; exact absurd h2 (by omega)
    | succ m ih =>
      intro i low5 h1 h2 h3
      rcases Nat.lt_or_ge i cnt with hlt | hge
      · exact hs _ i low5 hlt h3 (fun low5' h4 => ih (i + 1) low5' (by omega) (by omega) h4)
      · obtain rfl : i = cnt := by omega
        exact he _ low5 h3
  exact key big i0 low5 hi (by have := big_ge; omega) h0
theorem zz72_h7 {rec : Y4 → Y2 → Y4 → Int → Z4} {k : Y2 → Y4 → Z4} {some1 : Y4} {p2 : Y2} {low5 : Y4} {z6 : Int} (cnt : Nat) (Inv : Nat → Bool → Prop) {res : Z4} (hn : cnt ≤ 500000000000)
  (hs : ∀ (rc : Y4 → Y2 → Y4 → Int → Bool → Int → Z4) (i : Nat) (all7 : Bool), i < cnt → Inv i all7 → (∀ (all7' : Bool), Inv (i + 1) all7' → rc some1 p2 low5 z6 all7' ((i + 1 : Nat) : Int) = res) → zz72_b7 rc (zz72_a7 rec) some1 p2 low5 z6 all7 (i : Int) = res)
  (he : ∀ (rc : Y4 → Y2 → Y4 → Int → Bool → Int → Z4) (all7 : Bool), Inv cnt all7 → zz72_b7 rc (zz72_a7 rec) some1 p2 low5 z6 all7 (cnt : Int) = res)
  (i0 : Nat) (hi : i0 ≤ cnt) (all7 : Bool) (h0 : Inv i0 all7) : zz72_F7 big rec k some1 p2 low5 z6 all7 (i0 : Int) = res := by
  have key : ∀ (m i : Nat) (all7 : Bool), i ≤ cnt → cnt < m + i → Inv i all7 → zz72_l7 big (zz72_a7 rec) m some1 p2 low5 z6 all7 (i : Int) = res := by
    intro m
    induction m with
    | zero => intro i all7 h1 h2 h3; exact absurd h2 (by omega)
    | succ m ih =>
      intro i all7 h1 h2 h3
      rcases Nat.lt_or_ge i cnt with hlt | hge
      · exact hs _ i all7 hlt h3 (fun all7' h4 => ih (i + 1) all7' (by omega) (by omega) h4)
      · obtain rfl : i = cnt := by omega
        exact he _ all7 h3
  exact key big i0 all7 hi (by have := big_ge; omega) h0
theorem zz72_h13 {p2 : Y2} {low5 : Y4} (cnt : Nat) (Inv : Nat → Prop) {res : Z4} (hn : cnt ≤ 500000000000)
  (hs : ∀ (rc : Y2 → Y4 → Int → Z4) (i : Nat), i < cnt → Inv i → (Inv (i + 1) → rc p2 low5 ((i + 1 : Nat) : Int) = res) → zz72_b13 rc zz72_a13 p2 low5 (i : Int) = res)
  (he : ∀ (rc : Y2 → Y4 → Int → Z4), Inv cnt → zz72_b13 rc zz72_a13 p2 low5 (cnt : Int) = res)
  (i0 : Nat) (hi : i0 ≤ cnt) (h0 : Inv i0) : zz72_F13 big p2 low5 (i0 : Int) = res := by
  have key : ∀ (m i : Nat), i ≤ cnt → cnt < m + i → Inv i → zz72_l13 big zz72_a13 m p2 low5 (i : Int) = res := by
    intro m
    induction m with
    | zero => intro i h1 h2 h3; exact absurd h2 (by omega)
    | succ m ih =>
      intro i h1 h2 h3
      rcases Nat.lt_or_ge i cnt with hlt | hge
      · exact hs _ i hlt h3 (fun h4 => ih (i + 1) (by omega) (by omega) h4)
      · obtain rfl : i = cnt := by omega
        exact he _ h3
  exact key big i0 hi (by have := big_ge; omega) h0
theorem zz73_h5 {p1 : Y2} {dual3 : Y2} (cnt : Nat) (Inv : Nat → Prop) {res : Z1} (hn : cnt ≤ 500000000000)
  (hs : ∀ (rc : Y2 → Y2 → Int → Z1) (i : Nat), i < cnt → Inv i → (Inv (i + 1) → rc p1 dual3 ((i + 1 : Nat) : Int) = res) → zz73_b5 (zz73_F8 big rc zz73_a5) zz73_a5 p1 dual3 (i : Int) = res)
  (he : ∀ (rc : Y2 → Y2 → Int → Z1), Inv cnt → zz73_b5 (zz73_F8 big rc zz73_a5) zz73_a5 p1 dual3 (cnt : Int) = res)
  (i0 : Nat) (hi : i0 ≤ cnt) (h0 : Inv i0) : zz73_F5 big p1 dual3 (i0 : Int) = res := by
  have key : ∀ (m i : Nat), i ≤ cnt → cnt < m + i → Inv i → zz73_l5 big zz73_a5 m p1 dual3 (i : Int) = res := by
    intro m
    induction m with
    | zero => intro i h1 h2 h3; exact absurd h2 (by omega)
    | succ m ih =>
      intro i h1 h2 h3
      rcases Nat.lt_or_ge i cnt with hlt | hge
      · exact hs _ i hlt h3 (fun h4 => ih (i + 1) (by omega) (by omega) h4)
      · obtain rfl : i = cnt := by omega
        exact he _ h3
  exact key big i0 hi (by have := big_ge; omega) h0
theorem zz73_h8 {rec : Y2 → Y2 → Int → Z1} {k : Z1} {p1 : Y2} {dual3 : Y2} {x4 : Int} (cnt : Nat) (Inv : Nat → Prop) {res : Z1} (hn : cnt ≤ 500000000000)
  (hs : ∀ (rc : Y2 → Y2 → Int → Int → Z1) (i : Nat), i < cnt → Inv i → (Inv (i + 1) → rc p1 dual3 x4 ((i + 1 : Nat) : Int) = res) → zz73_b8 rc (zz73_a8 rec) p1 dual3 x4 (i : Int) = res)
  (he : ∀ (rc : Y2 → Y2 → Int → Int → Z1), Inv cnt → zz73_b8 rc (zz73_a8 rec) p1 dual3 x4 (cnt : Int) = res)
  (i0 : Nat) (hi : i0 ≤ cnt) (h0 : Inv i0) : zz73_F8 big rec k p1 dual3 x4 (i0 : Int) = res := by
  have key : ∀ (m i : Nat), i ≤ cnt → cnt < m + i → Inv i → zz73_l8 big (zz73_a8 rec) m p1 dual3 x4 (i : Int) = res := by
    intro m
    induction m with
    | zero => intro i h1 h2 h3; exact absurd h2 (by omega)
    | succ m ih =>
      intro i h1 h2 h3
      rcases Nat.lt_or_ge i cnt with hlt | hge
      · exact hs _ i hlt h3 (fun h4 => ih (i + 1) (by omega) (by omega) h4)
      · obtain rfl : i = cnt := by omega
        exact he _ h3
  exact key big i0 hi (by have := big_ge; omega) h0
end Go.Proofs.Ytcdlbboeflehdaa
