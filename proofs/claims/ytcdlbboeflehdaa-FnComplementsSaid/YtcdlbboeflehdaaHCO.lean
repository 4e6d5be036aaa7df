import Derived.Test.YtcdlbboeflehdaaPLib
import Derived.Test.YtcdlbboeflehdaaGCO
set_option linter.unusedVariables false
namespace Go.Proofs.Ytcdlbboeflehdaa
open Go Go.Gx Go.Proofs
theorem vbqb {n1 : Int} (cnt : Nat) (Inv : Nat → Z13 → Y4 → Prop) {Q : Z15 → Prop} (hn : cnt ≤ 500000000000)
  (hs : ∀ (rc : Z13 → Int → Y4 → Int → Z15) (i : Nat) (c0 : Z13) (out5 : Y4), i < cnt → Inv i c0 out5 → (∀ (c0' : Z13) (out5' : Y4), Inv (i + 1) c0' out5' → Q (rc c0' n1 out5' ((i + 1 : Nat) : Int))) → Q (vuv rc vrg c0 n1 out5 (i : Int)))
  (he : ∀ (rc : Z13 → Int → Y4 → Int → Z15) (c0 : Z13) (out5 : Y4), Inv cnt c0 out5 → Q (vuv rc vrg c0 n1 out5 (cnt : Int)))
  (i0 : Nat) (hi : i0 ≤ cnt) (c0 : Z13) (out5 : Y4) (h0 : Inv i0 c0 out5) : Q (vapa big c0 n1 out5 (i0 : Int)) := by
  have key : ∀ (m i : Nat) (c0 : Z13) (out5 : Y4), i ≤ cnt → cnt < m + i → Inv i c0 out5 → Q (vuw big vrg m c0 n1 out5 (i : Int)) := by
    intro m
    induction m with
    | zero => intro i c0 out5 h1 h2 h3; exact absurd h2 (by omega)
    | succ m ih =>
      intro i c0 out5 h1 h2 h3
      rcases Nat.lt_or_ge i cnt with hlt | hge
      · exact hs _ i c0 out5 hlt h3 (fun c0' out5' h4 => ih (i + 1) c0' out5' (by omega) (by omega) h4)
      · obtain rfl : i = cnt := by omega
        exact he _ c0 out5 h3
  exact key big i0 c0 out5 hi (by have := vaf; omega) h0
theorem vbpy {n0 : Int} {list1 : Y4} (cnt : Nat) (Inv : Nat → Prop) {Q : Z0 → Prop} (hn : cnt ≤ 500000000000)
  (hs : ∀ (rc : Int → Y4 → Int → Z0) (i : Nat), i < cnt → Inv i → (Inv (i + 1) → Q (rc n0 list1 ((i + 1 : Nat) : Int))) → Q (vsy rc vrb n0 list1 (i : Int)))
  (he : ∀ (rc : Int → Y4 → Int → Z0), Inv cnt → Q (vsy rc vrb n0 list1 (cnt : Int)))
  (i0 : Nat) (hi : i0 ≤ cnt) (h0 : Inv i0) : Q (vaso big n0 list1 (i0 : Int)) := by
  have key : ∀ (m i : Nat), i ≤ cnt → cnt < m + i → Inv i → Q (vtj big vrb m n0 list1 (i : Int)) := by
    intro m
    induction m with
    | zero => intro i h1 h2 h3; exact absurd h2 (by omega)
    | succ m ih =>
      intro i h1 h2 h3
      rcases Nat.lt_or_ge i cnt with hlt | hge
      · exact hs _ i hlt h3 (fun h4 => ih (i + 1) (by omega) (by omega) h4)
      · obtain rfl : i = cnt := by omega
        exact he _ h3
  exact key big i0 hi (by have := vaf; omega) h0
theorem vbqd {l0 : Y4} {n1 : Int} (cnt : Nat) (Inv : Nat → (List Bool) → Prop) {Q : Z0 → Prop} (hn : cnt ≤ 500000000000)
  (hs : ∀ (rc : Y4 → Int → (List Bool) → Int → Z0) (i : Nat) (seen5 : (List Bool)), i < cnt → Inv i seen5 → (∀ (seen5' : (List Bool)), Inv (i + 1) seen5' → Q (rc l0 n1 seen5' ((i + 1 : Nat) : Int))) → Q (vtf rc vqu l0 n1 seen5 (i : Int)))
  (he : ∀ (rc : Y4 → Int → (List Bool) → Int → Z0) (seen5 : (List Bool)), Inv cnt seen5 → Q (vtf rc vqu l0 n1 seen5 (cnt : Int)))
  (i0 : Nat) (hi : i0 ≤ cnt) (seen5 : (List Bool)) (h0 : Inv i0 seen5) : Q (vapy big l0 n1 seen5 (i0 : Int)) := by
  have key : ∀ (m i : Nat) (seen5 : (List Bool)), i ≤ cnt → cnt < m + i → Inv i seen5 → Q (vtz big vqu m l0 n1 seen5 (i : Int)) := by
    intro m
    induction m with
    | zero => intro i seen5 h1 h2 h3; exact absurd h2 (by omega)
    | succ m ih =>
      intro i seen5 h1 h2 h3
      rcases Nat.lt_or_ge i cnt with hlt | hge
      · exact hs _ i seen5 hlt h3 (fun seen5' h4 => ih (i + 1) seen5' (by omega) (by omega) h4)
      · obtain rfl : i = cnt := by omega
        exact he _ seen5 h3
  exact key big i0 seen5 hi (by have := vaf; omega) h0
theorem vbqc {n0 : Int} {pairs1 : Z12} {t4 : Y2} (cnt : Nat) (Inv : Nat → Y5 → Prop) {Q : Z3 → Prop} (hn : cnt ≤ 500000000000)
  (hs : ∀ (rc : Int → Z12 → Y2 → Y5 → Int → Z3) (i : Nat) (leq5 : Y5), i < cnt → Inv i leq5 → (∀ (leq5' : Y5), Inv (i + 1) leq5' → Q (rc n0 pairs1 t4 leq5' ((i + 1 : Nat) : Int))) → Q (vux rc (vqt (vrf big)) n0 pairs1 t4 leq5 (i : Int)))
  (he : ∀ (rc : Int → Z12 → Y2 → Y5 → Int → Z3) (leq5 : Y5), Inv cnt leq5 → Q (vux rc (vqt (vrf big)) n0 pairs1 t4 leq5 (cnt : Int)))
  (i0 : Nat) (hi : i0 ≤ cnt) (leq5 : Y5) (h0 : Inv i0 leq5) : Q (vato big n0 pairs1 t4 leq5 (i0 : Int)) := by
  have key : ∀ (m i : Nat) (leq5 : Y5), i ≤ cnt → cnt < m + i → Inv i leq5 → Q (vue big (vqt (vrf big)) m n0 pairs1 t4 leq5 (i : Int)) := by
    intro m
    induction m with
    | zero => intro i leq5 h1 h2 h3; exact absurd h2 (by omega)
    | succ m ih =>
      intro i leq5 h1 h2 h3
      rcases Nat.lt_or_ge i cnt with hlt | hge
      · exact hs _ i leq5 hlt h3 (fun leq5' h4 => ih (i + 1) leq5' (by omega) (by omega) h4)
      · obtain rfl : i = cnt := by omega
        exact he _ leq5 h3
  exact key big i0 leq5 hi (by have := vaf; omega) h0
theorem vbqg {n0 : Int} {pairs1 : Z12} {t4 : Y2} (cnt : Nat) (Inv : Nat → Y5 → Prop) {Q : Z3 → Prop} (hn : cnt ≤ 500000000000)
  (hs : ∀ (rc : Int → Z12 → Y2 → Y5 → Int → Z3) (i : Nat) (leq5 : Y5), i < cnt → Inv i leq5 → (∀ (leq5' : Y5), Inv (i + 1) leq5' → Q (rc n0 pairs1 t4 leq5' ((i + 1 : Nat) : Int))) → Q (vsk rc (vqo (vei big)) n0 pairs1 t4 leq5 (i : Int)))
  (he : ∀ (rc : Int → Z12 → Y2 → Y5 → Int → Z3) (leq5 : Y5), Inv cnt leq5 → Q (vsk rc (vqo (vei big)) n0 pairs1 t4 leq5 (cnt : Int)))
  (i0 : Nat) (hi : i0 ≤ cnt) (leq5 : Y5) (h0 : Inv i0 leq5) : Q (vrf big n0 pairs1 t4 leq5 (i0 : Int)) := by
  have key : ∀ (m i : Nat) (leq5 : Y5), i ≤ cnt → cnt < m + i → Inv i leq5 → Q (vsx big (vqo (vei big)) m n0 pairs1 t4 leq5 (i : Int)) := by
    intro m
    induction m with
    | zero => intro i leq5 h1 h2 h3; exact absurd h2 (by omega)
    | succ m ih =>
      intro i leq5 h1 h2 h3
      rcases Nat.lt_or_ge i cnt with hlt | hge
      · exact hs _ i leq5 hlt h3 (fun leq5' h4 => ih (i + 1) leq5' (by omega) (by omega) h4)
      · obtain rfl : i = cnt := by omega
        exact he _ leq5 h3
  exact key big i0 leq5 hi (by have := vaf; omega) h0
theorem vbnz {n0 : Int} {t4 : Y2} (cnt : Nat) (Inv : Nat → Y5 → Prop) {Q : Z3 → Prop} (hn : cnt ≤ 500000000000)
  (hs : ∀ (rc : Int → Y2 → Y5 → Int → Z3) (i : Nat) (leq5 : Y5), i < cnt → Inv i leq5 → (∀ (leq5' : Y5), Inv (i + 1) leq5' → Q (rc n0 t4 leq5' ((i + 1 : Nat) : Int))) → Q (vlt (vsz big rc (vcp (vcf big))) (vcp (vcf big)) n0 t4 leq5 (i : Int)))
  (he : ∀ (rc : Int → Y2 → Y5 → Int → Z3) (leq5 : Y5), Inv cnt leq5 → Q (vlt (vsz big rc (vcp (vcf big))) (vcp (vcf big)) n0 t4 leq5 (cnt : Int)))
  (i0 : Nat) (hi : i0 ≤ cnt) (leq5 : Y5) (h0 : Inv i0 leq5) : Q (vei big n0 t4 leq5 (i0 : Int)) := by
  have key : ∀ (m i : Nat) (leq5 : Y5), i ≤ cnt → cnt < m + i → Inv i leq5 → Q (vip big (vcp (vcf big)) m n0 t4 leq5 (i : Int)) := by
    intro m
    induction m with
    | zero => intro i leq5 h1 h2 h3; exact absurd h2 (by omega)
    | succ m ih =>
      intro i leq5 h1 h2 h3
      rcases Nat.lt_or_ge i cnt with hlt | hge
      · exact hs _ i leq5 hlt h3 (fun leq5' h4 => ih (i + 1) leq5' (by omega) (by omega) h4)
      · obtain rfl : i = cnt := by omega
        exact he _ leq5 h3
  exact key big i0 leq5 hi (by have := vaf; omega) h0
theorem vbox {rec : Int → Y2 → Y5 → Int → Z3} {k : Int → Y2 → Y5 → Z3} {n0 : Int} {t4 : Y2} {z9 : Int} (cnt : Nat) (Inv : Nat → Y5 → Prop) {Q : Z3 → Prop} (hn : cnt ≤ 500000000000)
  (hs : ∀ (rc : Int → Y2 → Y5 → Int → Int → Z3) (i : Nat) (leq5 : Y5), i < cnt → Inv i leq5 → (∀ (leq5' : Y5), Inv (i + 1) leq5' → Q (rc n0 t4 leq5' z9 ((i + 1 : Nat) : Int))) → Q (voz (vvb big rc (vcx rec)) (vcx rec) n0 t4 leq5 z9 (i : Int)))
  (he : ∀ (rc : Int → Y2 → Y5 → Int → Int → Z3) (leq5 : Y5), Inv cnt leq5 → Q (voz (vvb big rc (vcx rec)) (vcx rec) n0 t4 leq5 z9 (cnt : Int)))
  (i0 : Nat) (hi : i0 ≤ cnt) (leq5 : Y5) (h0 : Inv i0 leq5) : Q (vsz big rec k n0 t4 leq5 z9 (i0 : Int)) := by
  have key : ∀ (m i : Nat) (leq5 : Y5), i ≤ cnt → cnt < m + i → Inv i leq5 → Q (vjq big (vcx rec) m n0 t4 leq5 z9 (i : Int)) := by
    intro m
    induction m with
    | zero => intro i leq5 h1 h2 h3; exact absurd h2 (by omega)
    | succ m ih =>
      intro i leq5 h1 h2 h3
      rcases Nat.lt_or_ge i cnt with hlt | hge
      · exact hs _ i leq5 hlt h3 (fun leq5' h4 => ih (i + 1) leq5' (by omega) (by omega) h4)
      · obtain rfl : i = cnt := by omega
        exact he _ leq5 h3
  exact key big i0 leq5 hi (by have := vaf; omega) h0
theorem vbof {n0 : Int} {t4 : Y2} {leq5 : Y5} (cnt : Nat) (Inv : Nat → Y2 → Prop) {Q : Z3 → Prop} (hn : cnt ≤ 500000000000)
  (hs : ∀ (rc : Int → Y2 → Y5 → Y2 → Int → Z3) (i : Nat) (p12 : Y2), i < cnt → Inv i p12 → (∀ (p12' : Y2), Inv (i + 1) p12' → Q (rc n0 t4 leq5 p12' ((i + 1 : Nat) : Int))) → Q (vmo (vtv big rc vcw) vcw n0 t4 leq5 p12 (i : Int)))
  (he : ∀ (rc : Int → Y2 → Y5 → Y2 → Int → Z3) (p12 : Y2), Inv cnt p12 → Q (vmo (vtv big rc vcw) vcw n0 t4 leq5 p12 (cnt : Int)))
  (i0 : Nat) (hi : i0 ≤ cnt) (p12 : Y2) (h0 : Inv i0 p12) : Q (vcf big n0 t4 leq5 p12 (i0 : Int)) := by
  have key : ∀ (m i : Nat) (p12 : Y2), i ≤ cnt → cnt < m + i → Inv i p12 → Q (vhh big vcw m n0 t4 leq5 p12 (i : Int)) := by
    intro m
    induction m with
    | zero => intro i p12 h1 h2 h3; exact absurd h2 (by omega)
    | succ m ih =>
      intro i p12 h1 h2 h3
      rcases Nat.lt_or_ge i cnt with hlt | hge
      · exact hs _ i p12 hlt h3 (fun p12' h4 => ih (i + 1) p12' (by omega) (by omega) h4)
      · obtain rfl : i = cnt := by omega
        exact he _ p12 h3
  exact key big i0 p12 hi (by have := vaf; omega) h0
theorem vboi {rec : Int → Y2 → Y5 → Int → Int → Z3} {k : Int → Y2 → Y5 → Int → Z3} {n0 : Int} {t4 : Y2} {z9 : Int} {x10 : Int} (cnt : Nat) (Inv : Nat → Y5 → Prop) {Q : Z3 → Prop} (hn : cnt ≤ 500000000000)
  (hs : ∀ (rc : Int → Y2 → Y5 → Int → Int → Int → Z3) (i : Nat) (leq5 : Y5), i < cnt → Inv i leq5 → (∀ (leq5' : Y5), Inv (i + 1) leq5' → Q (rc n0 t4 leq5' z9 x10 ((i + 1 : Nat) : Int))) → Q (vqc rc (vjm rec) n0 t4 leq5 z9 x10 (i : Int)))
  (he : ∀ (rc : Int → Y2 → Y5 → Int → Int → Int → Z3) (leq5 : Y5), Inv cnt leq5 → Q (vqc rc (vjm rec) n0 t4 leq5 z9 x10 (cnt : Int)))
  (i0 : Nat) (hi : i0 ≤ cnt) (leq5 : Y5) (h0 : Inv i0 leq5) : Q (vvb big rec k n0 t4 leq5 z9 x10 (i0 : Int)) := by
  have key : ∀ (m i : Nat) (leq5 : Y5), i ≤ cnt → cnt < m + i → Inv i leq5 → Q (vnv big (vjm rec) m n0 t4 leq5 z9 x10 (i : Int)) := by
    intro m
    induction m with
    | zero => intro i leq5 h1 h2 h3; exact absurd h2 (by omega)
    | succ m ih =>
      intro i leq5 h1 h2 h3
      rcases Nat.lt_or_ge i cnt with hlt | hge
      · exact hs _ i leq5 hlt h3 (fun leq5' h4 => ih (i + 1) leq5' (by omega) (by omega) h4)
      · obtain rfl : i = cnt := by omega
        exact he _ leq5 h3
  exact key big i0 leq5 hi (by have := vaf; omega) h0
theorem vbmm {rec : Int → Y2 → Y5 → Y2 → Int → Z3} {k : Y2 → Y2 → Z3} {n0 : Int} {t4 : Y2} {leq5 : Y5} {p12 : Y2} {y13 : Int} (cnt : Nat) (Inv : Nat → Y4 → Prop) {Q : Z3 → Prop} (hn : cnt ≤ 500000000000)
  (hs : ∀ (rc : Int → Y2 → Y5 → Y2 → Int → Y4 → Int → Z3) (i : Nat) (below14 : Y4), i < cnt → Inv i below14 → (∀ (below14' : Y4), Inv (i + 1) below14' → Q (rc n0 t4 leq5 p12 y13 below14' ((i + 1 : Nat) : Int))) → Q (vpy rc (vgl rec) n0 t4 leq5 p12 y13 below14 (i : Int)))
  (he : ∀ (rc : Int → Y2 → Y5 → Y2 → Int → Y4 → Int → Z3) (below14 : Y4), Inv cnt below14 → Q (vpy rc (vgl rec) n0 t4 leq5 p12 y13 below14 (cnt : Int)))
  (i0 : Nat) (hi : i0 ≤ cnt) (below14 : Y4) (h0 : Inv i0 below14) : Q (vtv big rec k n0 t4 leq5 p12 y13 below14 (i0 : Int)) := by
  have key : ∀ (m i : Nat) (below14 : Y4), i ≤ cnt → cnt < m + i → Inv i below14 → Q (vnl big (vgl rec) m n0 t4 leq5 p12 y13 below14 (i : Int)) := by
    intro m
    induction m with
    | zero => intro i below14 h1 h2 h3; exact absurd h2 (by omega)
    | succ m ih =>
      intro i below14 h1 h2 h3
      rcases Nat.lt_or_ge i cnt with hlt | hge
      · exact hs _ i below14 hlt h3 (fun below14' h4 => ih (i + 1) below14' (by omega) (by omega) h4)
      · obtain rfl : i = cnt := by omega
        exact he _ below14 h3
  exact key big i0 below14 hi (by have := vaf; omega) h0
theorem vbnf {l0 : Y4} {n1 : Int} (cnt : Nat) (Inv : Nat → Prop) {Q : Z5 → Prop} (hn : cnt ≤ 500000000000)
  (hs : ∀ (rc : Y4 → Int → Int → Z5) (i : Nat), i < cnt → Inv i → (Inv (i + 1) → Q (rc l0 n1 ((i + 1 : Nat) : Int))) → Q (vnn rc veg l0 n1 (i : Int)))
  (he : ∀ (rc : Y4 → Int → Int → Z5), Inv cnt → Q (vnn rc veg l0 n1 (cnt : Int)))
  (i0 : Nat) (hi : i0 ≤ cnt) (h0 : Inv i0) : Q (vait big l0 n1 (i0 : Int)) := by
  have key : ∀ (m i : Nat), i ≤ cnt → cnt < m + i → Inv i → Q (vmd big veg m l0 n1 (i : Int)) := by
    intro m
    induction m with
    | zero => intro i h1 h2 h3; exact absurd h2 (by omega)
    | succ m ih =>
      intro i h1 h2 h3
      rcases Nat.lt_or_ge i cnt with hlt | hge
      · exact hs _ i hlt h3 (fun h4 => ih (i + 1) (by omega) (by omega) h4)
      · obtain rfl : i = cnt := by omega
        exact he _ h3
  exact key big i0 hi (by have := vaf; omega) h0
theorem vboz {t2 : Y2} {n3 : Int} (cnt : Nat) (Inv : Nat → Z13 → Z12 → Prop) {Q : Z4 → Prop} (hn : cnt ≤ 500000000000)
  (hs : ∀ (rc : Z13 → Y2 → Int → Z12 → Int → Z4) (i : Nat) (c0 : Z13) (pairs4 : Z12), i < cnt → Inv i c0 pairs4 → (∀ (c0' : Z13) (pairs4' : Z12), Inv (i + 1) c0' pairs4' → Q (rc c0' t2 n3 pairs4' ((i + 1 : Nat) : Int))) → Q (vly (vsm big rc (vcr (vbz big) (vaq big))) (vcr (vbz big) (vaq big)) c0 t2 n3 pairs4 (i : Int)))
  (he : ∀ (rc : Z13 → Y2 → Int → Z12 → Int → Z4) (c0 : Z13) (pairs4 : Z12), Inv cnt c0 pairs4 → Q (vly (vsm big rc (vcr (vbz big) (vaq big))) (vcr (vbz big) (vaq big)) c0 t2 n3 pairs4 (cnt : Int)))
  (i0 : Nat) (hi : i0 ≤ cnt) (c0 : Z13) (pairs4 : Z12) (h0 : Inv i0 c0 pairs4) : Q (vaik big c0 t2 n3 pairs4 (i0 : Int)) := by
  have key : ∀ (m i : Nat) (c0 : Z13) (pairs4 : Z12), i ≤ cnt → cnt < m + i → Inv i c0 pairs4 → Q (vhl big (vcr (vbz big) (vaq big)) m c0 t2 n3 pairs4 (i : Int)) := by
    intro m
    induction m with
    | zero => intro i c0 pairs4 h1 h2 h3; exact absurd h2 (by omega)
    | succ m ih =>
      intro i c0 pairs4 h1 h2 h3
      rcases Nat.lt_or_ge i cnt with hlt | hge
      · exact hs _ i c0 pairs4 hlt h3 (fun c0' pairs4' h4 => ih (i + 1) c0' pairs4' (by omega) (by omega) h4)
      · obtain rfl : i = cnt := by omega
        exact he _ c0 pairs4 h3
  exact key big i0 c0 pairs4 hi (by have := vaf; omega) h0
theorem vbnu {rec : Z13 → Y2 → Int → Z12 → Int → Z4} {k : Z13 → Y2 → Int → Z12 → Z4} {t2 : Y2} {n3 : Int} {x5 : Int} (cnt : Nat) (Inv : Nat → Z13 → Z12 → Prop) {Q : Z4 → Prop} (hn : cnt ≤ 500000000000)
  (hs : ∀ (rc : Z13 → Y2 → Int → Z12 → Int → Int → Z4) (i : Nat) (c0 : Z13) (pairs4 : Z12), i < cnt → Inv i c0 pairs4 → (∀ (c0' : Z13) (pairs4' : Z12), Inv (i + 1) c0' pairs4' → Q (rc c0' t2 n3 pairs4' x5 ((i + 1 : Nat) : Int))) → Q (vnf rc (vgp rec) c0 t2 n3 pairs4 x5 (i : Int)))
  (he : ∀ (rc : Z13 → Y2 → Int → Z12 → Int → Int → Z4) (c0 : Z13) (pairs4 : Z12), Inv cnt c0 pairs4 → Q (vnf rc (vgp rec) c0 t2 n3 pairs4 x5 (cnt : Int)))
  (i0 : Nat) (hi : i0 ≤ cnt) (c0 : Z13) (pairs4 : Z12) (h0 : Inv i0 c0 pairs4) : Q (vsm big rec k c0 t2 n3 pairs4 x5 (i0 : Int)) := by
  have key : ∀ (m i : Nat) (c0 : Z13) (pairs4 : Z12), i ≤ cnt → cnt < m + i → Inv i c0 pairs4 → Q (vls big (vgp rec) m c0 t2 n3 pairs4 x5 (i : Int)) := by
    intro m
    induction m with
    | zero => intro i c0 pairs4 h1 h2 h3; exact absurd h2 (by omega)
    | succ m ih =>
      intro i c0 pairs4 h1 h2 h3
      rcases Nat.lt_or_ge i cnt with hlt | hge
      · exact hs _ i c0 pairs4 hlt h3 (fun c0' pairs4' h4 => ih (i + 1) c0' pairs4' (by omega) (by omega) h4)
      · obtain rfl : i = cnt := by omega
        exact he _ c0 pairs4 h3
  exact key big i0 c0 pairs4 hi (by have := vaf; omega) h0
theorem vblw {c0 : Z13} {t2 : Y2} {n3 : Int} {names7 : Y4} (cnt : Nat) (Inv : Nat → Z12 → Prop) {Q : Z4 → Prop} (hn : cnt ≤ 500000000000)
  (hs : ∀ (rc : Z13 → Y2 → Int → Z12 → Y4 → Int → Z4) (i : Nat) (pairs4 : Z12), i < cnt → Inv i pairs4 → (∀ (pairs4' : Z12), Inv (i + 1) pairs4' → Q (rc c0 t2 n3 pairs4' names7 ((i + 1 : Nat) : Int))) → Q (vgh rc (vch (vaq big)) c0 t2 n3 pairs4 names7 (i : Int)))
  (he : ∀ (rc : Z13 → Y2 → Int → Z12 → Y4 → Int → Z4) (pairs4 : Z12), Inv cnt pairs4 → Q (vgh rc (vch (vaq big)) c0 t2 n3 pairs4 names7 (cnt : Int)))
  (i0 : Nat) (hi : i0 ≤ cnt) (pairs4 : Z12) (h0 : Inv i0 pairs4) : Q (vbz big c0 t2 n3 pairs4 names7 (i0 : Int)) := by
  have key : ∀ (m i : Nat) (pairs4 : Z12), i ≤ cnt → cnt < m + i → Inv i pairs4 → Q (viu big (vch (vaq big)) m c0 t2 n3 pairs4 names7 (i : Int)) := by
    intro m
    induction m with
    | zero => intro i pairs4 h1 h2 h3; exact absurd h2 (by omega)
    | succ m ih =>
      intro i pairs4 h1 h2 h3
      rcases Nat.lt_or_ge i cnt with hlt | hge
      · exact hs _ i pairs4 hlt h3 (fun pairs4' h4 => ih (i + 1) pairs4' (by omega) (by omega) h4)
      · obtain rfl : i = cnt := by omega
        exact he _ pairs4 h3
  exact key big i0 pairs4 hi (by have := vaf; omega) h0
theorem vbkw {t2 : Y2} (mu : Z13 → Y2 → Nat) (Inv : Z13 → Y2 → Prop) {Q : Z4 → Prop}
  (hs : ∀ (rc : Z13 → Y2 → Y2 → Z4) (c0 : Z13) (p9 : Y2), Inv c0 p9 → (∀ (c0' : Z13) (p9' : Y2), Inv c0' p9' → mu c0' p9' < mu c0 p9 → Q (rc c0' t2 p9')) → Q (vwd rc vif c0 t2 p9))
  (c0 : Z13) (p9 : Y2) (hm : mu c0 p9 ≤ 500000000000) (h0 : Inv c0 p9) : Q (vaq big c0 t2 p9) := by
  have key : ∀ (m : Nat) (c0 : Z13) (p9 : Y2), mu c0 p9 < m → Inv c0 p9 → Q (vjj big vif m c0 t2 p9) := by
    intro m
    induction m with
    | zero => intro c0 p9 h2 h3; exact absurd h2 (by omega)
    | succ m ih =>
      intro c0 p9 h2 h3
      exact hs _ c0 p9 h3 (fun c0' p9' h4 h5 => ih c0' p9' (by omega) h4)
  exact key big c0 p9 (by have := vaf; omega) h0
theorem vbmn {l0 : Y4} {n1 : Int} (cnt : Nat) (Inv : Nat → Prop) {res : Z0} (hn : cnt ≤ 500000000000)
  (hs : ∀ (rc : Y4 → Int → Int → Z0) (i : Nat), i < cnt → Inv i → (Inv (i + 1) → rc l0 n1 ((i + 1 : Nat) : Int) = res) → vpq rc vfh l0 n1 (i : Int) = res)
  (he : ∀ (rc : Y4 → Int → Int → Z0), Inv cnt → vpq rc vfh l0 n1 (cnt : Int) = res)
  (i0 : Nat) (hi : i0 ≤ cnt) (h0 : Inv i0) : vajj big l0 n1 (i0 : Int) = res := by
  have key : ∀ (m i : Nat), i ≤ cnt → cnt < m + i → Inv i → vms big vfh m l0 n1 (i : Int) = res := by
    intro m
    induction m with
    | zero => intro i h1 h2 h3; exact absurd h2 (by omega)
    | succ m ih =>
      intro i h1 h2 h3
      rcases Nat.lt_or_ge i cnt with hlt | hge
      · exact hs _ i hlt h3 (fun h4 => ih (i + 1) (by omega) (by omega) h4)
      · obtain rfl : i = cnt := by omega
        exact he _ h3
  exact key big i0 hi (by have := vaf; omega) h0
theorem vbpu {c0 : Z13} {t2 : Y2} {p3 : Y2} {n4 : Int} {names5 : Y4} (cnt : Nat) (Inv : Nat → Z12 → Prop) {Q : Z4 → Prop} (hn : cnt ≤ 500000000000)
  (hs : ∀ (rc : Z13 → Y2 → Y2 → Int → Y4 → Z12 → Int → Z4) (i : Nat) (pairs6 : Z12), i < cnt → Inv i pairs6 → (∀ (pairs6' : Z12), Inv (i + 1) pairs6' → Q (rc c0 t2 p3 n4 names5 pairs6' ((i + 1 : Nat) : Int))) → Q (von rc vfc c0 t2 p3 n4 names5 pairs6 (i : Int)))
  (he : ∀ (rc : Z13 → Y2 → Y2 → Int → Y4 → Z12 → Int → Z4) (pairs6 : Z12), Inv cnt pairs6 → Q (von rc vfc c0 t2 p3 n4 names5 pairs6 (cnt : Int)))
  (i0 : Nat) (hi : i0 ≤ cnt) (pairs6 : Z12) (h0 : Inv i0 pairs6) : Q (vahj big c0 t2 p3 n4 names5 pairs6 (i0 : Int)) := by
  have key : ∀ (m i : Nat) (pairs6 : Z12), i ≤ cnt → cnt < m + i → Inv i pairs6 → Q (vmj big vfc m c0 t2 p3 n4 names5 pairs6 (i : Int)) := by
    intro m
    induction m with
    | zero => intro i pairs6 h1 h2 h3; exact absurd h2 (by omega)
    | succ m ih =>
      intro i pairs6 h1 h2 h3
      rcases Nat.lt_or_ge i cnt with hlt | hge
      · exact hs _ i pairs6 hlt h3 (fun pairs6' h4 => ih (i + 1) pairs6' (by omega) (by omega) h4)
      · obtain rfl : i = cnt := by omega
        exact he _ pairs6 h3
  exact key big i0 pairs6 hi (by have := vaf; omega) h0
theorem vbmo {n0 : Int} {t8 : Int} (cnt : Nat) (Inv : Nat → Y5 → Prop) {res : Z11} (hn : cnt ≤ 500000000000)
  (hs : ∀ (rc : Int → Y5 → Int → Int → Z11) (i : Nat) (o3 : Y5), i < cnt → Inv i o3 → (∀ (o3' : Y5), Inv (i + 1) o3' → rc n0 o3' t8 ((i + 1 : Nat) : Int) = res) → voe rc vii n0 o3 t8 (i : Int) = res)
  (he : ∀ (rc : Int → Y5 → Int → Int → Z11) (o3 : Y5), Inv cnt o3 → voe rc vii n0 o3 t8 (cnt : Int) = res)
  (i0 : Nat) (hi : i0 ≤ cnt) (o3 : Y5) (h0 : Inv i0 o3) : vahi big n0 o3 t8 (i0 : Int) = res := by
  have key : ∀ (m i : Nat) (o3 : Y5), i ≤ cnt → cnt < m + i → Inv i o3 → vpv big vii m n0 o3 t8 (i : Int) = res := by
    intro m
    induction m with
    | zero => intro i o3 h1 h2 h3; exact absurd h2 (by omega)
    | succ m ih =>
      intro i o3 h1 h2 h3
      rcases Nat.lt_or_ge i cnt with hlt | hge
      · exact hs _ i o3 hlt h3 (fun o3' h4 => ih (i + 1) o3' (by omega) (by omega) h4)
      · obtain rfl : i = cnt := by omega
        exact he _ o3 h3
  exact key big i0 o3 hi (by have := vaf; omega) h0
theorem vbmw {o0 : Y5} {t7 : Int} (cnt : Nat) (Inv : Nat → Prop) {res : Z0} (hn : cnt ≤ 500000000000)
  (hs : ∀ (rc : Y5 → Int → Int → Z0) (i : Nat), i < cnt → Inv i → (Inv (i + 1) → rc o0 t7 ((i + 1 : Nat) : Int) = res) → vna (vst big rc vcn) vcn o0 t7 (i : Int) = res)
  (he : ∀ (rc : Y5 → Int → Int → Z0), Inv cnt → vna (vst big rc vcn) vcn o0 t7 (cnt : Int) = res)
  (i0 : Nat) (hi : i0 ≤ cnt) (h0 : Inv i0) : vamp big o0 t7 (i0 : Int) = res := by
  have key : ∀ (m i : Nat), i ≤ cnt → cnt < m + i → Inv i → vfg big vcn m o0 t7 (i : Int) = res := by
    intro m
    induction m with
    | zero => intro i h1 h2 h3; exact absurd h2 (by omega)
    | succ m ih =>
      intro i h1 h2 h3
      rcases Nat.lt_or_ge i cnt with hlt | hge
      · exact hs _ i hlt h3 (fun h4 => ih (i + 1) (by omega) (by omega) h4)
      · obtain rfl : i = cnt := by omega
        exact he _ h3
  exact key big i0 hi (by have := vaf; omega) h0
theorem vbpf {rec : Y5 → Int → Int → Z0} {k : Z0} {o0 : Y5} {x3 : Int} {t7 : Int} {t8 : Int} {t20 : Int} (cnt : Nat) (Inv : Nat → Prop) {res : Z0} (hn : cnt ≤ 500000000000)
  (hs : ∀ (rc : Y5 → Int → Int → Int → Int → Int → Z0) (i : Nat), i < cnt → Inv i → (Inv (i + 1) → rc o0 x3 t7 t8 t20 ((i + 1 : Nat) : Int) = res) → vpg (vfb big rc (vce rec)) (vce rec) o0 x3 t7 t8 t20 (i : Int) = res)
  (he : ∀ (rc : Y5 → Int → Int → Int → Int → Int → Z0), Inv cnt → vpg (vfb big rc (vce rec)) (vce rec) o0 x3 t7 t8 t20 (cnt : Int) = res)
  (i0 : Nat) (hi : i0 ≤ cnt) (h0 : Inv i0) : vst big rec k o0 x3 t7 t8 t20 (i0 : Int) = res := by
  have key : ∀ (m i : Nat), i ≤ cnt → cnt < m + i → Inv i → vgq big (vce rec) m o0 x3 t7 t8 t20 (i : Int) = res := by
    intro m
    induction m with
    | zero => intro i h1 h2 h3; exact absurd h2 (by omega)
    | succ m ih =>
      intro i h1 h2 h3
      rcases Nat.lt_or_ge i cnt with hlt | hge
      · exact hs _ i hlt h3 (fun h4 => ih (i + 1) (by omega) (by omega) h4)
      · obtain rfl : i = cnt := by omega
        exact he _ h3
  exact key big i0 hi (by have := vaf; omega) h0
theorem vbjt {rec : Y5 → Int → Int → Int → Int → Int → Z0} {k : Y5 → Int → Int → Z0} {o0 : Y5} {x3 : Int} {y4 : Int} {t7 : Int} {t8 : Int} {t20 : Int} {t21 : Int} {t46 : Int} (cnt : Nat) (Inv : Nat → Prop) {res : Z0} (hn : cnt ≤ 500000000000)
  (hs : ∀ (rc : Y5 → Int → Int → Int → Int → Int → Int → Int → Int → Z0) (i : Nat), i < cnt → Inv i → (Inv (i + 1) → rc o0 x3 y4 t7 t8 t20 t21 t46 ((i + 1 : Nat) : Int) = res) → vfo rc (vea rec) o0 x3 y4 t7 t8 t20 t21 t46 (i : Int) = res)
  (he : ∀ (rc : Y5 → Int → Int → Int → Int → Int → Int → Int → Int → Z0), Inv cnt → vfo rc (vea rec) o0 x3 y4 t7 t8 t20 t21 t46 (cnt : Int) = res)
  (i0 : Nat) (hi : i0 ≤ cnt) (h0 : Inv i0) : vfb big rec k o0 x3 y4 t7 t8 t20 t21 t46 (i0 : Int) = res := by
  have key : ∀ (m i : Nat), i ≤ cnt → cnt < m + i → Inv i → vka big (vea rec) m o0 x3 y4 t7 t8 t20 t21 t46 (i : Int) = res := by
    intro m
    induction m with
    | zero => intro i h1 h2 h3; exact absurd h2 (by omega)
    | succ m ih =>
      intro i h1 h2 h3
      rcases Nat.lt_or_ge i cnt with hlt | hge
      · exact hs _ i hlt h3 (fun h4 => ih (i + 1) (by omega) (by omega) h4)
      · obtain rfl : i = cnt := by omega
        exact he _ h3
  exact key big i0 hi (by have := vaf; omega) h0
theorem vbng {n4 : Int} {t18 : Y3} {t19 : Int} (cnt : Nat) (Inv : Nat → Y5 → Prop) {res : Z9} (hn : cnt ≤ 500000000000)
  (hs : ∀ (rc : Int → Y5 → Y3 → Int → Int → Z9) (i : Nat) (o5 : Y5), i < cnt → Inv i o5 → (∀ (o5' : Y5), Inv (i + 1) o5' → rc n4 o5' t18 t19 ((i + 1 : Nat) : Int) = res) → vpx (vqm big rc vcv) vcv n4 o5 t18 t19 (i : Int) = res)
  (he : ∀ (rc : Int → Y5 → Y3 → Int → Int → Z9) (o5 : Y5), Inv cnt o5 → vpx (vqm big rc vcv) vcv n4 o5 t18 t19 (cnt : Int) = res)
  (i0 : Nat) (hi : i0 ≤ cnt) (o5 : Y5) (h0 : Inv i0 o5) : vamt big n4 o5 t18 t19 (i0 : Int) = res := by
  have key : ∀ (m i : Nat) (o5 : Y5), i ≤ cnt → cnt < m + i → Inv i o5 → vfu big vcv m n4 o5 t18 t19 (i : Int) = res := by
    intro m
    induction m with
    | zero => intro i o5 h1 h2 h3; exact absurd h2 (by omega)
    | succ m ih =>
      intro i o5 h1 h2 h3
      rcases Nat.lt_or_ge i cnt with hlt | hge
      · exact hs _ i o5 hlt h3 (fun o5' h4 => ih (i + 1) o5' (by omega) (by omega) h4)
      · obtain rfl : i = cnt := by omega
        exact he _ o5 h3
  exact key big i0 o5 hi (by have := vaf; omega) h0
theorem vbko {rec : Int → Y5 → Y3 → Int → Int → Z9} {k : Y5 → Z9} {n4 : Int} {x6 : Int} {t18 : Y3} {t19 : Int} {t20 : Int} {t29 : Y4} {t30 : Int} {t31 : Bool} {t32 : Bool} {t34 : Y4} {t35 : Int} (cnt : Nat) (Inv : Nat → Y5 → Prop) {res : Z9} (hn : cnt ≤ 500000000000)
  (hs : ∀ (rc : Int → Y5 → Int → Y3 → Int → Int → Y4 → Int → Bool → Bool → Y4 → Int → Int → Z9) (i : Nat) (o5 : Y5), i < cnt → Inv i o5 → (∀ (o5' : Y5), Inv (i + 1) o5' → rc n4 o5' x6 t18 t19 t20 t29 t30 t31 t32 t34 t35 ((i + 1 : Nat) : Int) = res) → vja rc (vdt rec) n4 o5 x6 t18 t19 t20 t29 t30 t31 t32 t34 t35 (i : Int) = res)
  (he : ∀ (rc : Int → Y5 → Int → Y3 → Int → Int → Y4 → Int → Bool → Bool → Y4 → Int → Int → Z9) (o5 : Y5), Inv cnt o5 → vja rc (vdt rec) n4 o5 x6 t18 t19 t20 t29 t30 t31 t32 t34 t35 (cnt : Int) = res)
  (i0 : Nat) (hi : i0 ≤ cnt) (o5 : Y5) (h0 : Inv i0 o5) : vqm big rec k n4 o5 x6 t18 t19 t20 t29 t30 t31 t32 t34 t35 (i0 : Int) = res := by
  have key : ∀ (m i : Nat) (o5 : Y5), i ≤ cnt → cnt < m + i → Inv i o5 → vht big (vdt rec) m n4 o5 x6 t18 t19 t20 t29 t30 t31 t32 t34 t35 (i : Int) = res := by
    intro m
    induction m with
    | zero => intro i o5 h1 h2 h3; exact absurd h2 (by omega)
    | succ m ih =>
      intro i o5 h1 h2 h3
      rcases Nat.lt_or_ge i cnt with hlt | hge
      · exact hs _ i o5 hlt h3 (fun o5' h4 => ih (i + 1) o5' (by omega) (by omega) h4)
      · obtain rfl : i = cnt := by omega
        exact he _ o5 h3
  exact key big i0 o5 hi (by have := vaf; omega) h0
theorem vbpe {o0 : Y5} {list1 : Y4} {t10 : Y4} {t11 : Int} (cnt : Nat) (Inv : Nat → Prop) {res : Z6} (hn : cnt ≤ 500000000000)
  (hs : ∀ (rc : Y5 → Y4 → Y4 → Int → Int → Z6) (i : Nat), i < cnt → Inv i → (Inv (i + 1) → rc o0 list1 t10 t11 ((i + 1 : Nat) : Int) = res) → vlx (vta big rc vdh) vdh o0 list1 t10 t11 (i : Int) = res)
  (he : ∀ (rc : Y5 → Y4 → Y4 → Int → Int → Z6), Inv cnt → vlx (vta big rc vdh) vdh o0 list1 t10 t11 (cnt : Int) = res)
  (i0 : Nat) (hi : i0 ≤ cnt) (h0 : Inv i0) : vahu big o0 list1 t10 t11 (i0 : Int) = res := by
  have key : ∀ (m i : Nat), i ≤ cnt → cnt < m + i → Inv i → vgr big vdh m o0 list1 t10 t11 (i : Int) = res := by
    intro m
    induction m with
    | zero => intro i h1 h2 h3; exact absurd h2 (by omega)
    | succ m ih =>
      intro i h1 h2 h3
      rcases Nat.lt_or_ge i cnt with hlt | hge
      · exact hs _ i hlt h3 (fun h4 => ih (i + 1) (by omega) (by omega) h4)
      · obtain rfl : i = cnt := by omega
        exact he _ h3
  exact key big i0 hi (by have := vaf; omega) h0
theorem vbpb {rec : Y5 → Y4 → Y4 → Int → Int → Z6} {k : Z6} {o0 : Y5} {list1 : Y4} {x6 : Int} {t10 : Y4} {t11 : Int} {t12 : Int} {t16 : Y4} {t17 : Int} (cnt : Nat) (Inv : Nat → Bool → Prop) {res : Z6} (hn : cnt ≤ 500000000000)
  (hs : ∀ (rc : Y5 → Y4 → Int → Bool → Y4 → Int → Int → Y4 → Int → Int → Z6) (i : Nat) (top7 : Bool), i < cnt → Inv i top7 → (∀ (top7' : Bool), Inv (i + 1) top7' → rc o0 list1 x6 top7' t10 t11 t12 t16 t17 ((i + 1 : Nat) : Int) = res) → voa rc (vgb rec) o0 list1 x6 top7 t10 t11 t12 t16 t17 (i : Int) = res)
  (he : ∀ (rc : Y5 → Y4 → Int → Bool → Y4 → Int → Int → Y4 → Int → Int → Z6) (top7 : Bool), Inv cnt top7 → voa rc (vgb rec) o0 list1 x6 top7 t10 t11 t12 t16 t17 (cnt : Int) = res)
  (i0 : Nat) (hi : i0 ≤ cnt) (top7 : Bool) (h0 : Inv i0 top7) : vta big rec k o0 list1 x6 top7 t10 t11 t12 t16 t17 (i0 : Int) = res := by
  have key : ∀ (m i : Nat) (top7 : Bool), i ≤ cnt → cnt < m + i → Inv i top7 → vpn big (vgb rec) m o0 list1 x6 top7 t10 t11 t12 t16 t17 (i : Int) = res := by
    intro m
    induction m with
    | zero => intro i top7 h1 h2 h3; exact absurd h2 (by omega)
    | succ m ih =>
      intro i top7 h1 h2 h3
      rcases Nat.lt_or_ge i cnt with hlt | hge
      · exact hs _ i top7 hlt h3 (fun top7' h4 => ih (i + 1) top7' (by omega) (by omega) h4)
      · obtain rfl : i = cnt := by omega
        exact he _ top7 h3
  exact key big i0 top7 hi (by have := vaf; omega) h0
theorem vbno {so1 : (Y5 × Z1)} {t9 : Int} (cnt : Nat) (Inv : Nat → Y4 → Prop) {res : Z5} (hn : cnt ≤ 500000000000)
  (hs : ∀ (rc : (Y5 × Z1) → Y4 → Int → Int → Z5) (i : Nat) (list5 : Y4), i < cnt → Inv i list5 → (∀ (list5' : Y4), Inv (i + 1) list5' → rc so1 list5' t9 ((i + 1 : Nat) : Int) = res) → vmg rc vjl so1 list5 t9 (i : Int) = res)
  (he : ∀ (rc : (Y5 × Z1) → Y4 → Int → Int → Z5) (list5 : Y4), Inv cnt list5 → vmg rc vjl so1 list5 t9 (cnt : Int) = res)
  (i0 : Nat) (hi : i0 ≤ cnt) (list5 : Y4) (h0 : Inv i0 list5) : vahg big so1 list5 t9 (i0 : Int) = res := by
  have key : ∀ (m i : Nat) (list5 : Y4), i ≤ cnt → cnt < m + i → Inv i list5 → voo big vjl m so1 list5 t9 (i : Int) = res := by
    intro m
    induction m with
    | zero => intro i list5 h1 h2 h3; exact absurd h2 (by omega)
    | succ m ih =>
      intro i list5 h1 h2 h3
      rcases Nat.lt_or_ge i cnt with hlt | hge
      · exact hs _ i list5 hlt h3 (fun list5' h4 => ih (i + 1) list5' (by omega) (by omega) h4)
      · obtain rfl : i = cnt := by omega
        exact he _ list5 h3
  exact key big i0 list5 hi (by have := vaf; omega) h0
theorem vbpl {o1 : Y5} {t11 : Int} (cnt : Nat) (Inv : Nat → Y3 → Prop) {res : Z10} (hn : cnt ≤ 500000000000)
  (hs : ∀ (rc : Y5 → Y3 → Int → Int → Z10) (i : Nat) (table4 : Y3), i < cnt → Inv i table4 → (∀ (table4' : Y3), Inv (i + 1) table4' → rc o1 table4' t11 ((i + 1 : Nat) : Int) = res) → vlo (vvf big rc vdj) vdj o1 table4 t11 (i : Int) = res)
  (he : ∀ (rc : Y5 → Y3 → Int → Int → Z10) (table4 : Y3), Inv cnt table4 → vlo (vvf big rc vdj) vdj o1 table4 t11 (cnt : Int) = res)
  (i0 : Nat) (hi : i0 ≤ cnt) (table4 : Y3) (h0 : Inv i0 table4) : vaha big o1 table4 t11 (i0 : Int) = res := by
  have key : ∀ (m i : Nat) (table4 : Y3), i ≤ cnt → cnt < m + i → Inv i table4 → vhu big vdj m o1 table4 t11 (i : Int) = res := by
    intro m
    induction m with
    | zero => intro i table4 h1 h2 h3; exact absurd h2 (by omega)
    | succ m ih =>
      intro i table4 h1 h2 h3
      rcases Nat.lt_or_ge i cnt with hlt | hge
      · exact hs _ i table4 hlt h3 (fun table4' h4 => ih (i + 1) table4' (by omega) (by omega) h4)
      · obtain rfl : i = cnt := by omega
        exact he _ table4 h3
  exact key big i0 table4 hi (by have := vaf; omega) h0
theorem vbnt {rec : Y5 → Y3 → Int → Int → Z10} {k : Y3 → Z10} {o1 : Y5} {table4 : Y3} {x5 : Int} {t11 : Int} {t12 : Int} {t17 : Int} (cnt : Nat) (Inv : Nat → Y4 → Prop) {res : Z10} (hn : cnt ≤ 500000000000)
  (hs : ∀ (rc : Y5 → Y3 → Int → Y4 → Int → Int → Int → Int → Z10) (i : Nat) (row6 : Y4), i < cnt → Inv i row6 → (∀ (row6' : Y4), Inv (i + 1) row6' → rc o1 table4 x5 row6' t11 t12 t17 ((i + 1 : Nat) : Int) = res) → vqd rc (vgi rec) o1 table4 x5 row6 t11 t12 t17 (i : Int) = res)
  (he : ∀ (rc : Y5 → Y3 → Int → Y4 → Int → Int → Int → Int → Z10) (row6 : Y4), Inv cnt row6 → vqd rc (vgi rec) o1 table4 x5 row6 t11 t12 t17 (cnt : Int) = res)
  (i0 : Nat) (hi : i0 ≤ cnt) (row6 : Y4) (h0 : Inv i0 row6) : vvf big rec k o1 table4 x5 row6 t11 t12 t17 (i0 : Int) = res := by
  have key : ∀ (m i : Nat) (row6 : Y4), i ≤ cnt → cnt < m + i → Inv i row6 → vnd big (vgi rec) m o1 table4 x5 row6 t11 t12 t17 (i : Int) = res := by
    intro m
    induction m with
    | zero => intro i row6 h1 h2 h3; exact absurd h2 (by omega)
    | succ m ih =>
      intro i row6 h1 h2 h3
      rcases Nat.lt_or_ge i cnt with hlt | hge
      · exact hs _ i row6 hlt h3 (fun row6' h4 => ih (i + 1) row6' (by omega) (by omega) h4)
      · obtain rfl : i = cnt := by omega
        exact he _ row6 h3
  exact key big i0 row6 hi (by have := vaf; omega) h0
theorem vbod {o0 : Y5} {t10 : Int} (cnt : Nat) (Inv : Nat → Y5 → Prop) {res : Z11} (hn : cnt ≤ 500000000000)
  (hs : ∀ (rc : Y5 → Y5 → Int → Int → Z11) (i : Nat) (d3 : Y5), i < cnt → Inv i d3 → (∀ (d3' : Y5), Inv (i + 1) d3' → rc o0 d3' t10 ((i + 1 : Nat) : Int) = res) → vmv (vuq big rc vdg) vdg o0 d3 t10 (i : Int) = res)
  (he : ∀ (rc : Y5 → Y5 → Int → Int → Z11) (d3 : Y5), Inv cnt d3 → vmv (vuq big rc vdg) vdg o0 d3 t10 (cnt : Int) = res)
  (i0 : Nat) (hi : i0 ≤ cnt) (d3 : Y5) (h0 : Inv i0 d3) : vajc big o0 d3 t10 (i0 : Int) = res := by
  have key : ∀ (m i : Nat) (d3 : Y5), i ≤ cnt → cnt < m + i → Inv i d3 → vfe big vdg m o0 d3 t10 (i : Int) = res := by
    intro m
    induction m with
    | zero => intro i d3 h1 h2 h3; exact absurd h2 (by omega)
    | succ m ih =>
      intro i d3 h1 h2 h3
      rcases Nat.lt_or_ge i cnt with hlt | hge
      · exact hs _ i d3 hlt h3 (fun d3' h4 => ih (i + 1) d3' (by omega) (by omega) h4)
      · obtain rfl : i = cnt := by omega
        exact he _ d3 h3
  exact key big i0 d3 hi (by have := vaf; omega) h0
theorem vbms {rec : Y5 → Y5 → Int → Int → Z11} {k : Y5 → Z11} {o0 : Y5} {x4 : Int} {t10 : Int} {t11 : Int} {t15 : Int} (cnt : Nat) (Inv : Nat → Y5 → Prop) {res : Z11} (hn : cnt ≤ 500000000000)
  (hs : ∀ (rc : Y5 → Y5 → Int → Int → Int → Int → Int → Z11) (i : Nat) (d3 : Y5), i < cnt → Inv i d3 → (∀ (d3' : Y5), Inv (i + 1) d3' → rc o0 d3' x4 t10 t11 t15 ((i + 1 : Nat) : Int) = res) → vod rc (vgj rec) o0 d3 x4 t10 t11 t15 (i : Int) = res)
  (he : ∀ (rc : Y5 → Y5 → Int → Int → Int → Int → Int → Z11) (d3 : Y5), Inv cnt d3 → vod rc (vgj rec) o0 d3 x4 t10 t11 t15 (cnt : Int) = res)
  (i0 : Nat) (hi : i0 ≤ cnt) (d3 : Y5) (h0 : Inv i0 d3) : vuq big rec k o0 d3 x4 t10 t11 t15 (i0 : Int) = res := by
  have key : ∀ (m i : Nat) (d3 : Y5), i ≤ cnt → cnt < m + i → Inv i d3 → vpl big (vgj rec) m o0 d3 x4 t10 t11 t15 (i : Int) = res := by
    intro m
    induction m with
    | zero => intro i d3 h1 h2 h3; exact absurd h2 (by omega)
    | succ m ih =>
      intro i d3 h1 h2 h3
      rcases Nat.lt_or_ge i cnt with hlt | hge
      · exact hs _ i d3 hlt h3 (fun d3' h4 => ih (i + 1) d3' (by omega) (by omega) h4)
      · obtain rfl : i = cnt := by omega
        exact he _ d3 h3
  exact key big i0 d3 hi (by have := vaf; omega) h0
theorem vbnl {l0 : Y1} {t9 : Int} (cnt : Nat) (Inv : Nat → Int → Prop) {res : Z6} (hn : cnt ≤ 500000000000)
  (hs : ∀ (rc : Y1 → Int → Int → Int → Z6) (i : Nat) (b3 : Int), i < cnt → Inv i b3 → (∀ (b3' : Int), Inv (i + 1) b3' → rc l0 b3' t9 ((i + 1 : Nat) : Int) = res) → vox rc vgz l0 b3 t9 (i : Int) = res)
  (he : ∀ (rc : Y1 → Int → Int → Int → Z6) (b3 : Int), Inv cnt b3 → vox rc vgz l0 b3 t9 (cnt : Int) = res)
  (i0 : Nat) (hi : i0 ≤ cnt) (b3 : Int) (h0 : Inv i0 b3) : vajl big l0 b3 t9 (i0 : Int) = res := by
  have key : ∀ (m i : Nat) (b3 : Int), i ≤ cnt → cnt < m + i → Inv i b3 → vma big vgz m l0 b3 t9 (i : Int) = res := by
    intro m
    induction m with
    | zero => intro i b3 h1 h2 h3; exact absurd h2 (by omega)
    | succ m ih =>
      intro i b3 h1 h2 h3
      rcases Nat.lt_or_ge i cnt with hlt | hge
      · exact hs _ i b3 hlt h3 (fun b3' h4 => ih (i + 1) b3' (by omega) (by omega) h4)
      · obtain rfl : i = cnt := by omega
        exact he _ b3 h3
  exact key big i0 b3 hi (by have := vaf; omega) h0
theorem vbps {l0 : Y1} {t9 : Int} (cnt : Nat) (Inv : Nat → Int → Prop) {res : Z6} (hn : cnt ≤ 500000000000)
  (hs : ∀ (rc : Y1 → Int → Int → Int → Z6) (i : Nat) (t3 : Int), i < cnt → Inv i t3 → (∀ (t3' : Int), Inv (i + 1) t3' → rc l0 t3' t9 ((i + 1 : Nat) : Int) = res) → vpb rc vic l0 t3 t9 (i : Int) = res)
  (he : ∀ (rc : Y1 → Int → Int → Int → Z6) (t3 : Int), Inv cnt t3 → vpb rc vic l0 t3 t9 (cnt : Int) = res)
  (i0 : Nat) (hi : i0 ≤ cnt) (t3 : Int) (h0 : Inv i0 t3) : vajo big l0 t3 t9 (i0 : Int) = res := by
  have key : ∀ (m i : Nat) (t3 : Int), i ≤ cnt → cnt < m + i → Inv i t3 → vqg big vic m l0 t3 t9 (i : Int) = res := by
    intro m
    induction m with
    | zero => intro i t3 h1 h2 h3; exact absurd h2 (by omega)
    | succ m ih =>
      intro i t3 h1 h2 h3
      rcases Nat.lt_or_ge i cnt with hlt | hge
      · exact hs _ i t3 hlt h3 (fun t3' h4 => ih (i + 1) t3' (by omega) (by omega) h4)
      · obtain rfl : i = cnt := by omega
        exact he _ t3 h3
  exact key big i0 t3 hi (by have := vaf; omega) h0
theorem vbph {so1 : (Y1 × (Int × Z1))} {t9 : Int} (cnt : Nat) (Inv : Nat → Y4 → Prop) {res : Z5} (hn : cnt ≤ 500000000000)
  (hs : ∀ (rc : (Y1 × (Int × Z1)) → Y4 → Int → Int → Z5) (i : Nat) (list5 : Y4), i < cnt → Inv i list5 → (∀ (list5' : Y4), Inv (i + 1) list5' → rc so1 list5' t9 ((i + 1 : Nat) : Int) = res) → vml rc vhd so1 list5 t9 (i : Int) = res)
  (he : ∀ (rc : (Y1 × (Int × Z1)) → Y4 → Int → Int → Z5) (list5 : Y4), Inv cnt list5 → vml rc vhd so1 list5 t9 (cnt : Int) = res)
  (i0 : Nat) (hi : i0 ≤ cnt) (list5 : Y4) (h0 : Inv i0 list5) : valr big so1 list5 t9 (i0 : Int) = res := by
  have key : ∀ (m i : Nat) (list5 : Y4), i ≤ cnt → cnt < m + i → Inv i list5 → vpm big vhd m so1 list5 t9 (i : Int) = res := by
    intro m
    induction m with
    | zero => intro i list5 h1 h2 h3; exact absurd h2 (by omega)
    | succ m ih =>
      intro i list5 h1 h2 h3
      rcases Nat.lt_or_ge i cnt with hlt | hge
      · exact hs _ i list5 hlt h3 (fun list5' h4 => ih (i + 1) list5' (by omega) (by omega) h4)
      · obtain rfl : i = cnt := by omega
        exact he _ list5 h3
  exact key big i0 list5 hi (by have := vaf; omega) h0
theorem vbna {so1 : (Y1 × Z1)} {t9 : Int} (cnt : Nat) (Inv : Nat → Y4 → Prop) {res : Z5} (hn : cnt ≤ 500000000000)
  (hs : ∀ (rc : (Y1 × Z1) → Y4 → Int → Int → Z5) (i : Nat) (list5 : Y4), i < cnt → Inv i list5 → (∀ (list5' : Y4), Inv (i + 1) list5' → rc so1 list5' t9 ((i + 1 : Nat) : Int) = res) → vll rc vjk so1 list5 t9 (i : Int) = res)
  (he : ∀ (rc : (Y1 × Z1) → Y4 → Int → Int → Z5) (list5 : Y4), Inv cnt list5 → vll rc vjk so1 list5 t9 (cnt : Int) = res)
  (i0 : Nat) (hi : i0 ≤ cnt) (list5 : Y4) (h0 : Inv i0 list5) : vale big so1 list5 t9 (i0 : Int) = res := by
  have key : ∀ (m i : Nat) (list5 : Y4), i ≤ cnt → cnt < m + i → Inv i list5 → vlz big vjk m so1 list5 t9 (i : Int) = res := by
    intro m
    induction m with
    | zero => intro i list5 h1 h2 h3; exact absurd h2 (by omega)
    | succ m ih =>
      intro i list5 h1 h2 h3
      rcases Nat.lt_or_ge i cnt with hlt | hge
      · exact hs _ i list5 hlt h3 (fun list5' h4 => ih (i + 1) list5' (by omega) (by omega) h4)
      · obtain rfl : i = cnt := by omega
        exact he _ list5 h3
  exact key big i0 list5 hi (by have := vaf; omega) h0
theorem vbnm {l2 : Y1} {x3 : Int} {t9 : Y4} {t10 : Int} (cnt : Nat) (Inv : Nat → Prop) {res : Z0} (hn : cnt ≤ 500000000000)
  (hs : ∀ (rc : Y1 → Int → Y4 → Int → Int → Z0) (i : Nat), i < cnt → Inv i → (Inv (i + 1) → rc l2 x3 t9 t10 ((i + 1 : Nat) : Int) = res) → vps rc vgn l2 x3 t9 t10 (i : Int) = res)
  (he : ∀ (rc : Y1 → Int → Y4 → Int → Int → Z0), Inv cnt → vps rc vgn l2 x3 t9 t10 (cnt : Int) = res)
  (i0 : Nat) (hi : i0 ≤ cnt) (h0 : Inv i0) : vahr big l2 x3 t9 t10 (i0 : Int) = res := by
  have key : ∀ (m i : Nat), i ≤ cnt → cnt < m + i → Inv i → vqi big vgn m l2 x3 t9 t10 (i : Int) = res := by
    intro m
    induction m with
    | zero => intro i h1 h2 h3; exact absurd h2 (by omega)
    | succ m ih =>
      intro i h1 h2 h3
      rcases Nat.lt_or_ge i cnt with hlt | hge
      · exact hs _ i hlt h3 (fun h4 => ih (i + 1) (by omega) (by omega) h4)
      · obtain rfl : i = cnt := by omega
        exact he _ h3
  exact key big i0 hi (by have := vaf; omega) h0
theorem vbpc {so1 : Z16} {t9 : Int} (cnt : Nat) (Inv : Nat → Y4 → Prop) {res : Z5} (hn : cnt ≤ 500000000000)
  (hs : ∀ (rc : Z16 → Y4 → Int → Int → Z5) (i : Nat) (list5 : Y4), i < cnt → Inv i list5 → (∀ (list5' : Y4), Inv (i + 1) list5' → rc so1 list5' t9 ((i + 1 : Nat) : Int) = res) → vmx rc vex so1 list5 t9 (i : Int) = res)
  (he : ∀ (rc : Z16 → Y4 → Int → Int → Z5) (list5 : Y4), Inv cnt list5 → vmx rc vex so1 list5 t9 (cnt : Int) = res)
  (i0 : Nat) (hi : i0 ≤ cnt) (list5 : Y4) (h0 : Inv i0 list5) : valh big so1 list5 t9 (i0 : Int) = res := by
  have key : ∀ (m i : Nat) (list5 : Y4), i ≤ cnt → cnt < m + i → Inv i list5 → vpf big vex m so1 list5 t9 (i : Int) = res := by
    intro m
    induction m with
    | zero => intro i list5 h1 h2 h3; exact absurd h2 (by omega)
    | succ m ih =>
      intro i list5 h1 h2 h3
      rcases Nat.lt_or_ge i cnt with hlt | hge
      · exact hs _ i list5 hlt h3 (fun list5' h4 => ih (i + 1) list5' (by omega) (by omega) h4)
      · obtain rfl : i = cnt := by omega
        exact he _ list5 h3
  exact key big i0 list5 hi (by have := vaf; omega) h0
theorem vbop {x0 : Y4} {y1 : Y4} (cnt : Nat) (Inv : Nat → Prop) {res : Z0} (hn : cnt ≤ 500000000000)
  (hs : ∀ (rc : Y4 → Y4 → Int → Z0) (i : Nat), i < cnt → Inv i → (Inv (i + 1) → rc x0 y1 ((i + 1 : Nat) : Int) = res) → voq rc vft x0 y1 (i : Int) = res)
  (he : ∀ (rc : Y4 → Y4 → Int → Z0), Inv cnt → voq rc vft x0 y1 (cnt : Int) = res)
  (i0 : Nat) (hi : i0 ≤ cnt) (h0 : Inv i0) : vaju big x0 y1 (i0 : Int) = res := by
  have key : ∀ (m i : Nat), i ≤ cnt → cnt < m + i → Inv i → vpi big vft m x0 y1 (i : Int) = res := by
    intro m
    induction m with
    | zero => intro i h1 h2 h3; exact absurd h2 (by omega)
    | succ m ih =>
      intro i h1 h2 h3
      rcases Nat.lt_or_ge i cnt with hlt | hge
      · exact hs _ i hlt h3 (fun h4 => ih (i + 1) (by omega) (by omega) h4)
      · obtain rfl : i = cnt := by omega
        exact he _ h3
  exact key big i0 hi (by have := vaf; omega) h0
theorem vboo {p1 : Y2} {n3 : Int} (cnt : Nat) (Inv : Nat → Prop) {res : Z0} (hn : cnt ≤ 500000000000)
  (hs : ∀ (rc : Y2 → Int → Int → Z0) (i : Nat), i < cnt → Inv i → (Inv (i + 1) → rc p1 n3 ((i + 1 : Nat) : Int) = res) → vno rc (vig (vdy big)) p1 n3 (i : Int) = res)
  (he : ∀ (rc : Y2 → Int → Int → Z0), Inv cnt → vno rc (vig (vdy big)) p1 n3 (cnt : Int) = res)
  (i0 : Nat) (hi : i0 ≤ cnt) (h0 : Inv i0) : vakb big p1 n3 (i0 : Int) = res := by
  have key : ∀ (m i : Nat), i ≤ cnt → cnt < m + i → Inv i → vmk big (vig (vdy big)) m p1 n3 (i : Int) = res := by
    intro m
    induction m with
    | zero => intro i h1 h2 h3; exact absurd h2 (by omega)
    | succ m ih =>
      intro i h1 h2 h3
      rcases Nat.lt_or_ge i cnt with hlt | hge
      · exact hs _ i hlt h3 (fun h4 => ih (i + 1) (by omega) (by omega) h4)
      · obtain rfl : i = cnt := by omega
        exact he _ h3
  exact key big i0 hi (by have := vaf; omega) h0
theorem vbjy {p1 : Y2} {n3 : Int} (cnt : Nat) (Inv : Nat → Prop) {res : Z0} (hn : cnt ≤ 500000000000)
  (hs : ∀ (rc : Y2 → Int → Int → Z0) (i : Nat), i < cnt → Inv i → (Inv (i + 1) → rc p1 n3 ((i + 1 : Nat) : Int) = res) → vfn (vrj big rc vbw) vbw p1 n3 (i : Int) = res)
  (he : ∀ (rc : Y2 → Int → Int → Z0), Inv cnt → vfn (vrj big rc vbw) vbw p1 n3 (cnt : Int) = res)
  (i0 : Nat) (hi : i0 ≤ cnt) (h0 : Inv i0) : vdy big p1 n3 (i0 : Int) = res := by
  have key : ∀ (m i : Nat), i ≤ cnt → cnt < m + i → Inv i → veb big vbw m p1 n3 (i : Int) = res := by
    intro m
    induction m with
    | zero => intro i h1 h2 h3; exact absurd h2 (by omega)
    | succ m ih =>
      intro i h1 h2 h3
      rcases Nat.lt_or_ge i cnt with hlt | hge
      · exact hs _ i hlt h3 (fun h4 => ih (i + 1) (by omega) (by omega) h4)
      · obtain rfl : i = cnt := by omega
        exact he _ h3
  exact key big i0 hi (by have := vaf; omega) h0
theorem vbjs {rec : Y2 → Int → Int → Z0} {k : Z0} {p1 : Y2} {n3 : Int} {x5 : Int} (cnt : Nat) (Inv : Nat → Prop) {res : Z0} (hn : cnt ≤ 500000000000)
  (hs : ∀ (rc : Y2 → Int → Int → Int → Z0) (i : Nat), i < cnt → Inv i → (Inv (i + 1) → rc p1 n3 x5 ((i + 1 : Nat) : Int) = res) → vju rc (vec rec) p1 n3 x5 (i : Int) = res)
  (he : ∀ (rc : Y2 → Int → Int → Int → Z0), Inv cnt → vju rc (vec rec) p1 n3 x5 (cnt : Int) = res)
  (i0 : Nat) (hi : i0 ≤ cnt) (h0 : Inv i0) : vrj big rec k p1 n3 x5 (i0 : Int) = res := by
  have key : ∀ (m i : Nat), i ≤ cnt → cnt < m + i → Inv i → vkf big (vec rec) m p1 n3 x5 (i : Int) = res := by
    intro m
    induction m with
    | zero => intro i h1 h2 h3; exact absurd h2 (by omega)
    | succ m ih =>
      intro i h1 h2 h3
      rcases Nat.lt_or_ge i cnt with hlt | hge
      · exact hs _ i hlt h3 (fun h4 => ih (i + 1) (by omega) (by omega) h4)
      · obtain rfl : i = cnt := by omega
        exact he _ h3
  exact key big i0 hi (by have := vaf; omega) h0
theorem vbnn {p1 : Y2} {t2 : Y2} (cnt : Nat) (Inv : Nat → Y2 → Prop) {res : Z3} (hn : cnt ≤ 500000000000)
  (hs : ∀ (rc : Y2 → Y2 → Y2 → Int → Z3) (i : Nat) (out3 : Y2), i < cnt → Inv i out3 → (∀ (out3' : Y2), Inv (i + 1) out3' → rc p1 t2 out3' ((i + 1 : Nat) : Int) = res) → vok (vty big rc vdd) vdd p1 t2 out3 (i : Int) = res)
  (he : ∀ (rc : Y2 → Y2 → Y2 → Int → Z3) (out3 : Y2), Inv cnt out3 → vok (vty big rc vdd) vdd p1 t2 out3 (cnt : Int) = res)
  (i0 : Nat) (hi : i0 ≤ cnt) (out3 : Y2) (h0 : Inv i0 out3) : vamz big p1 t2 out3 (i0 : Int) = res := by
  have key : ∀ (m i : Nat) (out3 : Y2), i ≤ cnt → cnt < m + i → Inv i out3 → vkb big vdd m p1 t2 out3 (i : Int) = res := by
    intro m
    induction m with
    | zero => intro i out3 h1 h2 h3; exact absurd h2 (by omega)
    | succ m ih =>
      intro i out3 h1 h2 h3
      rcases Nat.lt_or_ge i cnt with hlt | hge
      · exact hs _ i out3 hlt h3 (fun out3' h4 => ih (i + 1) out3' (by omega) (by omega) h4)
      · obtain rfl : i = cnt := by omega
        exact he _ out3 h3
  exact key big i0 out3 hi (by have := vaf; omega) h0
theorem vbnb {rec : Y2 → Y2 → Y2 → Int → Z3} {k : Y2 → Y2 → Z3} {p1 : Y2} {t2 : Y2} {out3 : Y2} {x4 : Int} (cnt : Nat) (Inv : Nat → Y4 → Prop) {res : Z3} (hn : cnt ≤ 500000000000)
  (hs : ∀ (rc : Y2 → Y2 → Y2 → Int → Y4 → Int → Z3) (i : Nat) (below5 : Y4), i < cnt → Inv i below5 → (∀ (below5' : Y4), Inv (i + 1) below5' → rc p1 t2 out3 x4 below5' ((i + 1 : Nat) : Int) = res) → vqe rc (vho rec) p1 t2 out3 x4 below5 (i : Int) = res)
  (he : ∀ (rc : Y2 → Y2 → Y2 → Int → Y4 → Int → Z3) (below5 : Y4), Inv cnt below5 → vqe rc (vho rec) p1 t2 out3 x4 below5 (cnt : Int) = res)
  (i0 : Nat) (hi : i0 ≤ cnt) (below5 : Y4) (h0 : Inv i0 below5) : vty big rec k p1 t2 out3 x4 below5 (i0 : Int) = res := by
  have key : ∀ (m i : Nat) (below5 : Y4), i ≤ cnt → cnt < m + i → Inv i below5 → vob big (vho rec) m p1 t2 out3 x4 below5 (i : Int) = res := by
    intro m
    induction m with
    | zero => intro i below5 h1 h2 h3; exact absurd h2 (by omega)
    | succ m ih =>
      intro i below5 h1 h2 h3
      rcases Nat.lt_or_ge i cnt with hlt | hge
      · exact hs _ i below5 hlt h3 (fun below5' h4 => ih (i + 1) below5' (by omega) (by omega) h4)
      · obtain rfl : i = cnt := by omega
        exact he _ below5 h3
  exact key big i0 below5 hi (by have := vaf; omega) h0
theorem vbnx {some1 : Y4} {p2 : Y2} (cnt : Nat) (Inv : Nat → Y4 → Prop) {res : Z6} (hn : cnt ≤ 500000000000)
  (hs : ∀ (rc : Y4 → Y2 → Y4 → Int → Z6) (i : Nat) (low5 : Y4), i < cnt → Inv i low5 → (∀ (low5' : Y4), Inv (i + 1) low5' → rc some1 p2 low5' ((i + 1 : Nat) : Int) = res) → vmr (vsl big rc (vda (vbv big))) (vda (vbv big)) some1 p2 low5 (i : Int) = res)
  (he : ∀ (rc : Y4 → Y2 → Y4 → Int → Z6) (low5 : Y4), Inv cnt low5 → vmr (vsl big rc (vda (vbv big))) (vda (vbv big)) some1 p2 low5 (cnt : Int) = res)
  (i0 : Nat) (hi : i0 ≤ cnt) (low5 : Y4) (h0 : Inv i0 low5) : vagm big some1 p2 low5 (i0 : Int) = res := by
  have key : ∀ (m i : Nat) (low5 : Y4), i ≤ cnt → cnt < m + i → Inv i low5 → vfa big (vda (vbv big)) m some1 p2 low5 (i : Int) = res := by
    intro m
    induction m with
    | zero => intro i low5 h1 h2 h3; exact absurd h2 (by omega)
    | succ m ih =>
      intro i low5 h1 h2 h3
      rcases Nat.lt_or_ge i cnt with hlt | hge
      · exact hs _ i low5 hlt h3 (fun low5' h4 => ih (i + 1) low5' (by omega) (by omega) h4)
      · obtain rfl : i = cnt := by omega
        exact he _ low5 h3
  exact key big i0 low5 hi (by have := vaf; omega) h0
theorem vbos {rec : Y4 → Y2 → Y4 → Int → Z6} {k : Y2 → Y4 → Z6} {some1 : Y4} {p2 : Y2} {low5 : Y4} {z6 : Int} (cnt : Nat) (Inv : Nat → Bool → Prop) {res : Z6} (hn : cnt ≤ 500000000000)
  (hs : ∀ (rc : Y4 → Y2 → Y4 → Int → Bool → Int → Z6) (i : Nat) (all7 : Bool), i < cnt → Inv i all7 → (∀ (all7' : Bool), Inv (i + 1) all7' → rc some1 p2 low5 z6 all7' ((i + 1 : Nat) : Int) = res) → vqh rc (vgw rec) some1 p2 low5 z6 all7 (i : Int) = res)
  (he : ∀ (rc : Y4 → Y2 → Y4 → Int → Bool → Int → Z6) (all7 : Bool), Inv cnt all7 → vqh rc (vgw rec) some1 p2 low5 z6 all7 (cnt : Int) = res)
  (i0 : Nat) (hi : i0 ≤ cnt) (all7 : Bool) (h0 : Inv i0 all7) : vsl big rec k some1 p2 low5 z6 all7 (i0 : Int) = res := by
  have key : ∀ (m i : Nat) (all7 : Bool), i ≤ cnt → cnt < m + i → Inv i all7 → vnj big (vgw rec) m some1 p2 low5 z6 all7 (i : Int) = res := by
    intro m
    induction m with
    | zero => intro i all7 h1 h2 h3; exact absurd h2 (by omega)
    | succ m ih =>
      intro i all7 h1 h2 h3
      rcases Nat.lt_or_ge i cnt with hlt | hge
      · exact hs _ i all7 hlt h3 (fun all7' h4 => ih (i + 1) all7' (by omega) (by omega) h4)
      · obtain rfl : i = cnt := by omega
        exact he _ all7 h3
  exact key big i0 all7 hi (by have := vaf; omega) h0
theorem vbls {p2 : Y2} {low5 : Y4} (cnt : Nat) (Inv : Nat → Prop) {res : Z6} (hn : cnt ≤ 500000000000)
  (hs : ∀ (rc : Y2 → Y4 → Int → Z6) (i : Nat), i < cnt → Inv i → (Inv (i + 1) → rc p2 low5 ((i + 1 : Nat) : Int) = res) → vkk rc vef p2 low5 (i : Int) = res)
  (he : ∀ (rc : Y2 → Y4 → Int → Z6), Inv cnt → vkk rc vef p2 low5 (cnt : Int) = res)
  (i0 : Nat) (hi : i0 ≤ cnt) (h0 : Inv i0) : vbv big p2 low5 (i0 : Int) = res := by
  have key : ∀ (m i : Nat), i ≤ cnt → cnt < m + i → Inv i → vfq big vef m p2 low5 (i : Int) = res := by
    intro m
    induction m with
    | zero => intro i h1 h2 h3; exact absurd h2 (by omega)
    | succ m ih =>
      intro i h1 h2 h3
      rcases Nat.lt_or_ge i cnt with hlt | hge
      · exact hs _ i hlt h3 (fun h4 => ih (i + 1) (by omega) (by omega) h4)
      · obtain rfl : i = cnt := by omega
        exact he _ h3
  exact key big i0 hi (by have := vaf; omega) h0
theorem vboc {p1 : Y2} {dual3 : Y2} (cnt : Nat) (Inv : Nat → Prop) {res : Z0} (hn : cnt ≤ 500000000000)
  (hs : ∀ (rc : Y2 → Y2 → Int → Z0) (i : Nat), i < cnt → Inv i → (Inv (i + 1) → rc p1 dual3 ((i + 1 : Nat) : Int) = res) → voh (vvg big rc vdi) vdi p1 dual3 (i : Int) = res)
  (he : ∀ (rc : Y2 → Y2 → Int → Z0), Inv cnt → voh (vvg big rc vdi) vdi p1 dual3 (cnt : Int) = res)
  (i0 : Nat) (hi : i0 ≤ cnt) (h0 : Inv i0) : valf big p1 dual3 (i0 : Int) = res := by
  have key : ∀ (m i : Nat), i ≤ cnt → cnt < m + i → Inv i → vkd big vdi m p1 dual3 (i : Int) = res := by
    intro m
    induction m with
    | zero => intro i h1 h2 h3; exact absurd h2 (by omega)
    | succ m ih =>
      intro i h1 h2 h3
      rcases Nat.lt_or_ge i cnt with hlt | hge
      · exact hs _ i hlt h3 (fun h4 => ih (i + 1) (by omega) (by omega) h4)
      · obtain rfl : i = cnt := by omega
        exact he _ h3
  exact key big i0 hi (by have := vaf; omega) h0
theorem vbot {rec : Y2 → Y2 → Int → Z0} {k : Z0} {p1 : Y2} {dual3 : Y2} {x4 : Int} (cnt : Nat) (Inv : Nat → Prop) {res : Z0} (hn : cnt ≤ 500000000000)
  (hs : ∀ (rc : Y2 → Y2 → Int → Int → Z0) (i : Nat), i < cnt → Inv i → (Inv (i + 1) → rc p1 dual3 x4 ((i + 1 : Nat) : Int) = res) → vos rc (vfr rec) p1 dual3 x4 (i : Int) = res)
  (he : ∀ (rc : Y2 → Y2 → Int → Int → Z0), Inv cnt → vos rc (vfr rec) p1 dual3 x4 (cnt : Int) = res)
  (i0 : Nat) (hi : i0 ≤ cnt) (h0 : Inv i0) : vvg big rec k p1 dual3 x4 (i0 : Int) = res := by
  have key : ∀ (m i : Nat), i ≤ cnt → cnt < m + i → Inv i → vnp big (vfr rec) m p1 dual3 x4 (i : Int) = res := by
    intro m
    induction m with
    | zero => intro i h1 h2 h3; exact absurd h2 (by omega)
    | succ m ih =>
      intro i h1 h2 h3
      rcases Nat.lt_or_ge i cnt with hlt | hge
      · exact hs _ i hlt h3 (fun h4 => ih (i + 1) (by omega) (by omega) h4)
      · obtain rfl : i = cnt := by omega
        exact he _ h3
  exact key big i0 hi (by have := vaf; omega) h0
theorem vbmt {x1 : Int} {y2 : Int} {z3 : Int} {p4 : Y2} (cnt : Nat) (Inv : Nat → Y4 → Prop) {res : Z5} (hn : cnt ≤ 500000000000)
  (hs : ∀ (rc : Int → Int → Int → Y2 → Y4 → Int → Z5) (i : Nat) (out9 : Y4), i < cnt → Inv i out9 → (∀ (out9' : Y4), Inv (i + 1) out9' → rc x1 y2 z3 p4 out9' ((i + 1 : Nat) : Int) = res) → vmz rc vfx x1 y2 z3 p4 out9 (i : Int) = res)
  (he : ∀ (rc : Int → Int → Int → Y2 → Y4 → Int → Z5) (out9 : Y4), Inv cnt out9 → vmz rc vfx x1 y2 z3 p4 out9 (cnt : Int) = res)
  (i0 : Nat) (hi : i0 ≤ cnt) (out9 : Y4) (h0 : Inv i0 out9) : vakx big x1 y2 z3 p4 out9 (i0 : Int) = res := by
  have key : ∀ (m i : Nat) (out9 : Y4), i ≤ cnt → cnt < m + i → Inv i out9 → vmh big vfx m x1 y2 z3 p4 out9 (i : Int) = res := by
    intro m
    induction m with
    | zero => intro i out9 h1 h2 h3; exact absurd h2 (by omega)
    | succ m ih =>
      intro i out9 h1 h2 h3
      rcases Nat.lt_or_ge i cnt with hlt | hge
      · exact hs _ i out9 hlt h3 (fun out9' h4 => ih (i + 1) out9' (by omega) (by omega) h4)
      · obtain rfl : i = cnt := by omega
        exact he _ out9 h3
  exact key big i0 out9 hi (by have := vaf; omega) h0
theorem vbmu {x1 : Int} {y2 : Int} {p3 : Y2} (cnt : Nat) (Inv : Nat → Prop) {res : Z0} (hn : cnt ≤ 500000000000)
  (hs : ∀ (rc : Int → Int → Y2 → Int → Z0) (i : Nat), i < cnt → Inv i → (Inv (i + 1) → rc x1 y2 p3 ((i + 1 : Nat) : Int) = res) → vmw rc vjf x1 y2 p3 (i : Int) = res)
  (he : ∀ (rc : Int → Int → Y2 → Int → Z0), Inv cnt → vmw rc vjf x1 y2 p3 (cnt : Int) = res)
  (i0 : Nat) (hi : i0 ≤ cnt) (h0 : Inv i0) : vakh big x1 y2 p3 (i0 : Int) = res := by
  have key : ∀ (m i : Nat), i ≤ cnt → cnt < m + i → Inv i → vnb big vjf m x1 y2 p3 (i : Int) = res := by
    intro m
    induction m with
    | zero => intro i h1 h2 h3; exact absurd h2 (by omega)
    | succ m ih =>
      intro i h1 h2 h3
      rcases Nat.lt_or_ge i cnt with hlt | hge
      · exact hs _ i hlt h3 (fun h4 => ih (i + 1) (by omega) (by omega) h4)
      · obtain rfl : i = cnt := by omega
        exact he _ h3
  exact key big i0 hi (by have := vaf; omega) h0
theorem vbne {p1 : Y2} (cnt : Nat) (Inv : Nat → Y4 → Prop) {res : Z7} (hn : cnt ≤ 500000000000)
  (hs : ∀ (rc : Y2 → Y4 → Int → Z7) (i : Nat) (out4 : Y4), i < cnt → Inv i out4 → (∀ (out4' : Y4), Inv (i + 1) out4' → rc p1 out4' ((i + 1 : Nat) : Int) = res) → vol (vva big rc vcu) vcu p1 out4 (i : Int) = res)
  (he : ∀ (rc : Y2 → Y4 → Int → Z7) (out4 : Y4), Inv cnt out4 → vol (vva big rc vcu) vcu p1 out4 (cnt : Int) = res)
  (i0 : Nat) (hi : i0 ≤ cnt) (out4 : Y4) (h0 : Inv i0 out4) : vamg big p1 out4 (i0 : Int) = res := by
  have key : ∀ (m i : Nat) (out4 : Y4), i ≤ cnt → cnt < m + i → Inv i out4 → vfl big vcu m p1 out4 (i : Int) = res := by
    intro m
    induction m with
    | zero => intro i out4 h1 h2 h3; exact absurd h2 (by omega)
    | succ m ih =>
      intro i out4 h1 h2 h3
      rcases Nat.lt_or_ge i cnt with hlt | hge
      · exact hs _ i out4 hlt h3 (fun out4' h4 => ih (i + 1) out4' (by omega) (by omega) h4)
      · obtain rfl : i = cnt := by omega
        exact he _ out4 h3
  exact key big i0 out4 hi (by have := vaf; omega) h0
theorem vboy {rec : Y2 → Y4 → Int → Z7} {k : Y4 → Z7} {p1 : Y2} {out4 : Y4} {x5 : Int} {own6 : Y4} (cnt : Nat) (Inv : Nat → Bool → Prop) {res : Z7} (hn : cnt ≤ 500000000000)
  (hs : ∀ (rc : Y2 → Y4 → Int → Y4 → Bool → Int → Z7) (i : Nat) (central7 : Bool), i < cnt → Inv i central7 → (∀ (central7' : Bool), Inv (i + 1) central7' → rc p1 out4 x5 own6 central7' ((i + 1 : Nat) : Int) = res) → vlk rc (vgc rec) p1 out4 x5 own6 central7 (i : Int) = res)
  (he : ∀ (rc : Y2 → Y4 → Int → Y4 → Bool → Int → Z7) (central7 : Bool), Inv cnt central7 → vlk rc (vgc rec) p1 out4 x5 own6 central7 (cnt : Int) = res)
  (i0 : Nat) (hi : i0 ≤ cnt) (central7 : Bool) (h0 : Inv i0 central7) : vva big rec k p1 out4 x5 own6 central7 (i0 : Int) = res := by
  have key : ∀ (m i : Nat) (central7 : Bool), i ≤ cnt → cnt < m + i → Inv i central7 → voy big (vgc rec) m p1 out4 x5 own6 central7 (i : Int) = res := by
    intro m
    induction m with
    | zero => intro i central7 h1 h2 h3; exact absurd h2 (by omega)
    | succ m ih =>
      intro i central7 h1 h2 h3
      rcases Nat.lt_or_ge i cnt with hlt | hge
      · exact hs _ i central7 hlt h3 (fun central7' h4 => ih (i + 1) central7' (by omega) (by omega) h4)
      · obtain rfl : i = cnt := by omega
        exact he _ central7 h3
  exact key big i0 central7 hi (by have := vaf; omega) h0
theorem vbnr {a0 : Y4} {b1 : Y4} (cnt : Nat) (Inv : Nat → Prop) {res : Z0} (hn : cnt ≤ 500000000000)
  (hs : ∀ (rc : Y4 → Y4 → Int → Z0) (i : Nat), i < cnt → Inv i → (Inv (i + 1) → rc a0 b1 ((i + 1 : Nat) : Int) = res) → vlp rc vfd a0 b1 (i : Int) = res)
  (he : ∀ (rc : Y4 → Y4 → Int → Z0), Inv cnt → vlp rc vfd a0 b1 (cnt : Int) = res)
  (i0 : Nat) (hi : i0 ≤ cnt) (h0 : Inv i0) : vamh big a0 b1 (i0 : Int) = res := by
  have key : ∀ (m i : Nat), i ≤ cnt → cnt < m + i → Inv i → vmb big vfd m a0 b1 (i : Int) = res := by
    intro m
    induction m with
    | zero => intro i h1 h2 h3; exact absurd h2 (by omega)
    | succ m ih =>
      intro i h1 h2 h3
      rcases Nat.lt_or_ge i cnt with hlt | hge
      · exact hs _ i hlt h3 (fun h4 => ih (i + 1) (by omega) (by omega) h4)
      · obtain rfl : i = cnt := by omega
        exact he _ h3
  exact key big i0 hi (by have := vaf; omega) h0
theorem vbni {so1 : Z16} {t9 : Int} (cnt : Nat) (Inv : Nat → Y4 → Prop) {res : Z5} (hn : cnt ≤ 500000000000)
  (hs : ∀ (rc : Z16 → Y4 → Int → Int → Z5) (i : Nat) (list5 : Y4), i < cnt → Inv i list5 → (∀ (list5' : Y4), Inv (i + 1) list5' → rc so1 list5' t9 ((i + 1 : Nat) : Int) = res) → vph rc vjv so1 list5 t9 (i : Int) = res)
  (he : ∀ (rc : Z16 → Y4 → Int → Int → Z5) (list5 : Y4), Inv cnt list5 → vph rc vjv so1 list5 t9 (cnt : Int) = res)
  (i0 : Nat) (hi : i0 ≤ cnt) (list5 : Y4) (h0 : Inv i0 list5) : vajw big so1 list5 t9 (i0 : Int) = res := by
  have key : ∀ (m i : Nat) (list5 : Y4), i ≤ cnt → cnt < m + i → Inv i list5 → vow big vjv m so1 list5 t9 (i : Int) = res := by
    intro m
    induction m with
    | zero => intro i list5 h1 h2 h3; exact absurd h2 (by omega)
    | succ m ih =>
      intro i list5 h1 h2 h3
      rcases Nat.lt_or_ge i cnt with hlt | hge
      · exact hs _ i list5 hlt h3 (fun list5' h4 => ih (i + 1) list5' (by omega) (by omega) h4)
      · obtain rfl : i = cnt := by omega
        exact he _ list5 h3
  exact key big i0 list5 hi (by have := vaf; omega) h0
theorem vbpk {p1 : Y2} (cnt : Nat) (Inv : Nat → Y4 → Prop) {res : Z5} (hn : cnt ≤ 500000000000)
  (hs : ∀ (rc : Y2 → Y4 → Int → Z5) (i : Nat) (out3 : Y4), i < cnt → Inv i out3 → (∀ (out3' : Y4), Inv (i + 1) out3' → rc p1 out3' ((i + 1 : Nat) : Int) = res) → vpw rc vke p1 out3 (i : Int) = res)
  (he : ∀ (rc : Y2 → Y4 → Int → Z5) (out3 : Y4), Inv cnt out3 → vpw rc vke p1 out3 (cnt : Int) = res)
  (i0 : Nat) (hi : i0 ≤ cnt) (out3 : Y4) (h0 : Inv i0 out3) : vajn big p1 out3 (i0 : Int) = res := by
  have key : ∀ (m i : Nat) (out3 : Y4), i ≤ cnt → cnt < m + i → Inv i out3 → vnk big vke m p1 out3 (i : Int) = res := by
    intro m
    induction m with
    | zero => intro i out3 h1 h2 h3; exact absurd h2 (by omega)
    | succ m ih =>
      intro i out3 h1 h2 h3
      rcases Nat.lt_or_ge i cnt with hlt | hge
      · exact hs _ i out3 hlt h3 (fun out3' h4 => ih (i + 1) out3' (by omega) (by omega) h4)
      · obtain rfl : i = cnt := by omega
        exact he _ out3 h3
  exact key big i0 out3 hi (by have := vaf; omega) h0
theorem vbmx {so1 : Z16} {t9 : Int} (cnt : Nat) (Inv : Nat → Y4 → Prop) {res : Z5} (hn : cnt ≤ 500000000000)
  (hs : ∀ (rc : Z16 → Y4 → Int → Int → Z5) (i : Nat) (list5 : Y4), i < cnt → Inv i list5 → (∀ (list5' : Y4), Inv (i + 1) list5' → rc so1 list5' t9 ((i + 1 : Nat) : Int) = res) → vof rc vgd so1 list5 t9 (i : Int) = res)
  (he : ∀ (rc : Z16 → Y4 → Int → Int → Z5) (list5 : Y4), Inv cnt list5 → vof rc vgd so1 list5 t9 (cnt : Int) = res)
  (i0 : Nat) (hi : i0 ≤ cnt) (list5 : Y4) (h0 : Inv i0 list5) : vajf big so1 list5 t9 (i0 : Int) = res := by
  have key : ∀ (m i : Nat) (list5 : Y4), i ≤ cnt → cnt < m + i → Inv i list5 → vlw big vgd m so1 list5 t9 (i : Int) = res := by
    intro m
    induction m with
    | zero => intro i list5 h1 h2 h3; exact absurd h2 (by omega)
    | succ m ih =>
      intro i list5 h1 h2 h3
      rcases Nat.lt_or_ge i cnt with hlt | hge
      · exact hs _ i list5 hlt h3 (fun list5' h4 => ih (i + 1) list5' (by omega) (by omega) h4)
      · obtain rfl : i = cnt := by omega
        exact he _ list5 h3
  exact key big i0 list5 hi (by have := vaf; omega) h0
theorem vboe {counts4 : Y4} (cnt : Nat) (Inv : Nat → Prop) {res : Z2} (hn : cnt ≤ 500000000000)
  (hs : ∀ (rc : Y4 → Int → Z2) (i : Nat), i < cnt → Inv i → (Inv (i + 1) → rc counts4 ((i + 1 : Nat) : Int) = res) → vnc rc viw counts4 (i : Int) = res)
  (he : ∀ (rc : Y4 → Int → Z2), Inv cnt → vnc rc viw counts4 (cnt : Int) = res)
  (i0 : Nat) (hi : i0 ≤ cnt) (h0 : Inv i0) : valx big counts4 (i0 : Int) = res := by
  have key : ∀ (m i : Nat), i ≤ cnt → cnt < m + i → Inv i → vln big viw m counts4 (i : Int) = res := by
    intro m
    induction m with
    | zero => intro i h1 h2 h3; exact absurd h2 (by omega)
    | succ m ih =>
      intro i h1 h2 h3
      rcases Nat.lt_or_ge i cnt with hlt | hge
      · exact hs _ i hlt h3 (fun h4 => ih (i + 1) (by omega) (by omega) h4)
      · obtain rfl : i = cnt := by omega
        exact he _ h3
  exact key big i0 hi (by have := vaf; omega) h0
theorem vbow {so1 : (Y1 × Z1)} {t9 : Int} (cnt : Nat) (Inv : Nat → Y4 → Prop) {res : Z5} (hn : cnt ≤ 500000000000)
  (hs : ∀ (rc : (Y1 × Z1) → Y4 → Int → Int → Z5) (i : Nat) (list5 : Y4), i < cnt → Inv i list5 → (∀ (list5' : Y4), Inv (i + 1) list5' → rc so1 list5' t9 ((i + 1 : Nat) : Int) = res) → vqj rc vgu so1 list5 t9 (i : Int) = res)
  (he : ∀ (rc : (Y1 × Z1) → Y4 → Int → Int → Z5) (list5 : Y4), Inv cnt list5 → vqj rc vgu so1 list5 t9 (cnt : Int) = res)
  (i0 : Nat) (hi : i0 ≤ cnt) (list5 : Y4) (h0 : Inv i0 list5) : valc big so1 list5 t9 (i0 : Int) = res := by
  have key : ∀ (m i : Nat) (list5 : Y4), i ≤ cnt → cnt < m + i → Inv i list5 → vlv big vgu m so1 list5 t9 (i : Int) = res := by
    intro m
    induction m with
    | zero => intro i list5 h1 h2 h3; exact absurd h2 (by omega)
    | succ m ih =>
      intro i list5 h1 h2 h3
      rcases Nat.lt_or_ge i cnt with hlt | hge
      · exact hs _ i list5 hlt h3 (fun list5' h4 => ih (i + 1) list5' (by omega) (by omega) h4)
      · obtain rfl : i = cnt := by omega
        exact he _ list5 h3
  exact key big i0 list5 hi (by have := vaf; omega) h0
theorem vbnd {so1 : Unit} {l6 : Y1} {t21 : Int} (cnt : Nat) (Inv : Nat → Prop) {res : Z2} (hn : cnt ≤ 500000000000)
  (hs : ∀ (rc : Unit → Y1 → Int → Int → Z2) (i : Nat), i < cnt → Inv i → (Inv (i + 1) → rc so1 l6 t21 ((i + 1 : Nat) : Int) = res) → vng (vua big rc vdf) vdf so1 l6 t21 (i : Int) = res)
  (he : ∀ (rc : Unit → Y1 → Int → Int → Z2), Inv cnt → vng (vua big rc vdf) vdf so1 l6 t21 (cnt : Int) = res)
  (i0 : Nat) (hi : i0 ≤ cnt) (h0 : Inv i0) : vzv big so1 l6 t21 (i0 : Int) = res := by
  have key : ∀ (m i : Nat), i ≤ cnt → cnt < m + i → Inv i → vhv big vdf m so1 l6 t21 (i : Int) = res := by
    intro m
    induction m with
    | zero => intro i h1 h2 h3; exact absurd h2 (by omega)
    | succ m ih =>
      intro i h1 h2 h3
      rcases Nat.lt_or_ge i cnt with hlt | hge
      · exact hs _ i hlt h3 (fun h4 => ih (i + 1) (by omega) (by omega) h4)
      · obtain rfl : i = cnt := by omega
        exact he _ h3
  exact key big i0 hi (by have := vaf; omega) h0
theorem vbnj {rec : Unit → Y1 → Int → Int → Z2} {k : Z2} {so1 : Unit} {l6 : Y1} {x8 : Int} {t21 : Int} {t22 : Int} {t29 : Int} (cnt : Nat) (Inv : Nat → Prop) {res : Z2} (hn : cnt ≤ 500000000000)
  (hs : ∀ (rc : Unit → Y1 → Int → Int → Int → Int → Int → Z2) (i : Nat), i < cnt → Inv i → (Inv (i + 1) → rc so1 l6 x8 t21 t22 t29 ((i + 1 : Nat) : Int) = res) → vnw rc (vin rec) so1 l6 x8 t21 t22 t29 (i : Int) = res)
  (he : ∀ (rc : Unit → Y1 → Int → Int → Int → Int → Int → Z2), Inv cnt → vnw rc (vin rec) so1 l6 x8 t21 t22 t29 (cnt : Int) = res)
  (i0 : Nat) (hi : i0 ≤ cnt) (h0 : Inv i0) : vua big rec k so1 l6 x8 t21 t22 t29 (i0 : Int) = res := by
  have key : ∀ (m i : Nat), i ≤ cnt → cnt < m + i → Inv i → vmq big (vin rec) m so1 l6 x8 t21 t22 t29 (i : Int) = res := by
    intro m
    induction m with
    | zero => intro i h1 h2 h3; exact absurd h2 (by omega)
    | succ m ih =>
      intro i h1 h2 h3
      rcases Nat.lt_or_ge i cnt with hlt | hge
      · exact hs _ i hlt h3 (fun h4 => ih (i + 1) (by omega) (by omega) h4)
      · obtain rfl : i = cnt := by omega
        exact he _ h3
  exact key big i0 hi (by have := vaf; omega) h0
theorem vbmv {p1 : Y2} (cnt : Nat) (Inv : Nat → Prop) {res : Z2} (hn : cnt ≤ 500000000000)
  (hs : ∀ (rc : Y2 → Int → Z2) (i : Nat), i < cnt → Inv i → (Inv (i + 1) → rc p1 ((i + 1 : Nat) : Int) = res) → vov (vsw big rc vcy) vcy p1 (i : Int) = res)
  (he : ∀ (rc : Y2 → Int → Z2), Inv cnt → vov (vsw big rc vcy) vcy p1 (cnt : Int) = res)
  (i0 : Nat) (hi : i0 ≤ cnt) (h0 : Inv i0) : vamo big p1 (i0 : Int) = res := by
  have key : ∀ (m i : Nat), i ≤ cnt → cnt < m + i → Inv i → vik big vcy m p1 (i : Int) = res := by
    intro m
    induction m with
    | zero => intro i h1 h2 h3; exact absurd h2 (by omega)
    | succ m ih =>
      intro i h1 h2 h3
      rcases Nat.lt_or_ge i cnt with hlt | hge
      · exact hs _ i hlt h3 (fun h4 => ih (i + 1) (by omega) (by omega) h4)
      · obtain rfl : i = cnt := by omega
        exact he _ h3
  exact key big i0 hi (by have := vaf; omega) h0
theorem vbny {rec : Y2 → Int → Z2} {k : Z2} {p1 : Y2} {x4 : Int} (cnt : Nat) (Inv : Nat → Prop) {res : Z2} (hn : cnt ≤ 500000000000)
  (hs : ∀ (rc : Y2 → Int → Int → Z2) (i : Nat), i < cnt → Inv i → (Inv (i + 1) → rc p1 x4 ((i + 1 : Nat) : Int) = res) → vot (vqp big rc (vdc rec)) (vdc rec) p1 x4 (i : Int) = res)
  (he : ∀ (rc : Y2 → Int → Int → Z2), Inv cnt → vot (vqp big rc (vdc rec)) (vdc rec) p1 x4 (cnt : Int) = res)
  (i0 : Nat) (hi : i0 ≤ cnt) (h0 : Inv i0) : vsw big rec k p1 x4 (i0 : Int) = res := by
  have key : ∀ (m i : Nat), i ≤ cnt → cnt < m + i → Inv i → vkj big (vdc rec) m p1 x4 (i : Int) = res := by
    intro m
    induction m with
    | zero => intro i h1 h2 h3; exact absurd h2 (by omega)
    | succ m ih =>
      intro i h1 h2 h3
      rcases Nat.lt_or_ge i cnt with hlt | hge
      · exact hs _ i hlt h3 (fun h4 => ih (i + 1) (by omega) (by omega) h4)
      · obtain rfl : i = cnt := by omega
        exact he _ h3
  exact key big i0 hi (by have := vaf; omega) h0
theorem vblk {rec : Y2 → Int → Int → Z2} {k : Y2 → Int → Z2} {p1 : Y2} {x4 : Int} {y5 : Int} (cnt : Nat) (Inv : Nat → Prop) {res : Z2} (hn : cnt ≤ 500000000000)
  (hs : ∀ (rc : Y2 → Int → Int → Int → Z2) (i : Nat), i < cnt → Inv i → (Inv (i + 1) → rc p1 x4 y5 ((i + 1 : Nat) : Int) = res) → vir rc (ved rec) p1 x4 y5 (i : Int) = res)
  (he : ∀ (rc : Y2 → Int → Int → Int → Z2), Inv cnt → vir rc (ved rec) p1 x4 y5 (cnt : Int) = res)
  (i0 : Nat) (hi : i0 ≤ cnt) (h0 : Inv i0) : vqp big rec k p1 x4 y5 (i0 : Int) = res := by
  have key : ∀ (m i : Nat), i ≤ cnt → cnt < m + i → Inv i → vib big (ved rec) m p1 x4 y5 (i : Int) = res := by
    intro m
    induction m with
    | zero => intro i h1 h2 h3; exact absurd h2 (by omega)
    | succ m ih =>
      intro i h1 h2 h3
      rcases Nat.lt_or_ge i cnt with hlt | hge
      · exact hs _ i hlt h3 (fun h4 => ih (i + 1) (by omega) (by omega) h4)
      · obtain rfl : i = cnt := by omega
        exact he _ h3
  exact key big i0 hi (by have := vaf; omega) h0
theorem vbnk {l0 : Y1} {t10 : Int} (cnt : Nat) (Inv : Nat → Prop) {Q : Z8 → Prop} (hn : cnt ≤ 500000000000)
  (hs : ∀ (rc : Y1 → Int → Int → Z8) (i : Nat), i < cnt → Inv i → (Inv (i + 1) → Q (rc l0 t10 ((i + 1 : Nat) : Int))) → Q (vmt (vsv big rc vde) vde l0 t10 (i : Int)))
  (he : ∀ (rc : Y1 → Int → Int → Z8), Inv cnt → Q (vmt (vsv big rc vde) vde l0 t10 (cnt : Int)))
  (i0 : Nat) (hi : i0 ≤ cnt) (h0 : Inv i0) : Q (vais big l0 t10 (i0 : Int)) := by
  have key : ∀ (m i : Nat), i ≤ cnt → cnt < m + i → Inv i → Q (vhi big vde m l0 t10 (i : Int)) := by
    intro m
    induction m with
    | zero => intro i h1 h2 h3; exact absurd h2 (by omega)
    | succ m ih =>
      intro i h1 h2 h3
      rcases Nat.lt_or_ge i cnt with hlt | hge
      · exact hs _ i hlt h3 (fun h4 => ih (i + 1) (by omega) (by omega) h4)
      · obtain rfl : i = cnt := by omega
        exact he _ h3
  exact key big i0 hi (by have := vaf; omega) h0
theorem vbpo {rec : Y1 → Int → Int → Z8} {k : Z8} {l0 : Y1} {x3 : Int} {t10 : Int} {t11 : Int} {t18 : Int} (cnt : Nat) (Inv : Nat → Prop) {Q : Z8 → Prop} (hn : cnt ≤ 500000000000)
  (hs : ∀ (rc : Y1 → Int → Int → Int → Int → Int → Z8) (i : Nat), i < cnt → Inv i → (Inv (i + 1) → Q (rc l0 x3 t10 t11 t18 ((i + 1 : Nat) : Int))) → Q (vpa (vuh big rc (vdb rec)) (vdb rec) l0 x3 t10 t11 t18 (i : Int)))
  (he : ∀ (rc : Y1 → Int → Int → Int → Int → Int → Z8), Inv cnt → Q (vpa (vuh big rc (vdb rec)) (vdb rec) l0 x3 t10 t11 t18 (cnt : Int)))
  (i0 : Nat) (hi : i0 ≤ cnt) (h0 : Inv i0) : Q (vsv big rec k l0 x3 t10 t11 t18 (i0 : Int)) := by
  have key : ∀ (m i : Nat), i ≤ cnt → cnt < m + i → Inv i → Q (vjh big (vdb rec) m l0 x3 t10 t11 t18 (i : Int)) := by
    intro m
    induction m with
    | zero => intro i h1 h2 h3; exact absurd h2 (by omega)
    | succ m ih =>
      intro i h1 h2 h3
      rcases Nat.lt_or_ge i cnt with hlt | hge
      · exact hs _ i hlt h3 (fun h4 => ih (i + 1) (by omega) (by omega) h4)
      · obtain rfl : i = cnt := by omega
        exact he _ h3
  exact key big i0 hi (by have := vaf; omega) h0
theorem vbpq {rec : Y1 → Int → Int → Int → Int → Int → Z8} {k : Y1 → Int → Int → Z8} {l0 : Y1} {x3 : Int} {y4 : Int} {t10 : Int} {t11 : Int} {t18 : Int} {t19 : Int} {t26 : Int} (cnt : Nat) (Inv : Nat → Prop) {Q : Z8 → Prop} (hn : cnt ≤ 500000000000)
  (hs : ∀ (rc : Y1 → Int → Int → Int → Int → Int → Int → Int → Int → Z8) (i : Nat), i < cnt → Inv i → (Inv (i + 1) → Q (rc l0 x3 y4 t10 t11 t18 t19 t26 ((i + 1 : Nat) : Int))) → Q (vmu rc (vjy rec) l0 x3 y4 t10 t11 t18 t19 t26 (i : Int)))
  (he : ∀ (rc : Y1 → Int → Int → Int → Int → Int → Int → Int → Int → Z8), Inv cnt → Q (vmu rc (vjy rec) l0 x3 y4 t10 t11 t18 t19 t26 (cnt : Int)))
  (i0 : Nat) (hi : i0 ≤ cnt) (h0 : Inv i0) : Q (vuh big rec k l0 x3 y4 t10 t11 t18 t19 t26 (i0 : Int)) := by
  have key : ∀ (m i : Nat), i ≤ cnt → cnt < m + i → Inv i → Q (vlq big (vjy rec) m l0 x3 y4 t10 t11 t18 t19 t26 (i : Int)) := by
    intro m
    induction m with
    | zero => intro i h1 h2 h3; exact absurd h2 (by omega)
    | succ m ih =>
      intro i h1 h2 h3
      rcases Nat.lt_or_ge i cnt with hlt | hge
      · exact hs _ i hlt h3 (fun h4 => ih (i + 1) (by omega) (by omega) h4)
      · obtain rfl : i = cnt := by omega
        exact he _ h3
  exact key big i0 hi (by have := vaf; omega) h0
theorem vbog {l0 : Y4} {x1 : Int} (cnt : Nat) (Inv : Nat → Prop) {res : Z0} (hn : cnt ≤ 500000000000)
  (hs : ∀ (rc : Y4 → Int → Int → Z0) (i : Nat), i < cnt → Inv i → (Inv (i + 1) → rc l0 x1 ((i + 1 : Nat) : Int) = res) → vup rc vpr l0 x1 (i : Int) = res)
  (he : ∀ (rc : Y4 → Int → Int → Z0), Inv cnt → vup rc vpr l0 x1 (cnt : Int) = res)
  (i0 : Nat) (hi : i0 ≤ cnt) (h0 : Inv i0) : vagl big l0 x1 (i0 : Int) = res := by
  have key : ∀ (m i : Nat), i ≤ cnt → cnt < m + i → Inv i → vpt big vpr m l0 x1 (i : Int) = res := by
    intro m
    induction m with
    | zero => intro i h1 h2 h3; exact absurd h2 (by omega)
    | succ m ih =>
      intro i h1 h2 h3
      rcases Nat.lt_or_ge i cnt with hlt | hge
      · exact hs _ i hlt h3 (fun h4 => ih (i + 1) (by omega) (by omega) h4)
      · obtain rfl : i = cnt := by omega
        exact he _ h3
  exact key big i0 hi (by have := vaf; omega) h0
theorem laws_FnComplements_w23 {code0 : Y4} {p3 : Y2} {central4 : Y4} {some8 : Bool} {unique12 : Bool} {relative16 : Bool} {boolean20 : Bool} {four21 : Bool} (mu : Int → Nat) (Inv : Int → Prop) {res : Z0}
  (hs : ∀ (rc : Y4 → Y2 → Y4 → Bool → Bool → Bool → Bool → Bool → Int → Z0) (n22 : Int), Inv n22 → (∀ (n22' : Int), Inv n22' → mu n22' < mu n22 → rc code0 p3 central4 some8 unique12 relative16 boolean20 four21 n22' = res) → laws_FnComplements_b23 rc (laws_FnComplements_a23 (laws_FnComplements_F33 big)) code0 p3 central4 some8 unique12 relative16 boolean20 four21 n22 = res)
  (n22 : Int) (hm : mu n22 ≤ 500000000000) (h0 : Inv n22) : laws_FnComplements_F23 big code0 p3 central4 some8 unique12 relative16 boolean20 four21 n22 = res := by
  have key : ∀ (m : Nat) (n22 : Int), mu n22 < m → Inv n22 → laws_FnComplements_l23 big (laws_FnComplements_a23 (laws_FnComplements_F33 big)) m code0 p3 central4 some8 unique12 relative16 boolean20 four21 n22 = res := by
    intro m
    induction m with
    | zero => intro n22 h2 h3; exact absurd h2 (by omega)
    | succ m ih =>
      intro n22 h2 h3
      exact hs _ n22 h3 (fun n22' h4 h5 => ih n22' (by omega) h4)
  exact key big n22 (by have := vaf; omega) h0
theorem laws_FnComplements_h33 {code0 : Y4} {q23 : Y2} {x24 : Int} {list25 : Y4} (cnt : Nat) (Inv : Nat → Prop) {res : Z0} (hn : cnt ≤ 500000000000)
  (hs : ∀ (rc : Y4 → Y2 → Int → Y4 → Int → Z0) (i : Nat), i < cnt → Inv i → (Inv (i + 1) → rc code0 q23 x24 list25 ((i + 1 : Nat) : Int) = res) → laws_FnComplements_b33 rc laws_FnComplements_a33 code0 q23 x24 list25 (i : Int) = res)
  (he : ∀ (rc : Y4 → Y2 → Int → Y4 → Int → Z0), Inv cnt → laws_FnComplements_b33 rc laws_FnComplements_a33 code0 q23 x24 list25 (cnt : Int) = res)
  (i0 : Nat) (hi : i0 ≤ cnt) (h0 : Inv i0) : laws_FnComplements_F33 big code0 q23 x24 list25 (i0 : Int) = res := by
  have key : ∀ (m i : Nat), i ≤ cnt → cnt < m + i → Inv i → laws_FnComplements_l33 big laws_FnComplements_a33 m code0 q23 x24 list25 (i : Int) = res := by
    intro m
    induction m with
    | zero => intro i h1 h2 h3; exact absurd h2 (by omega)
    | succ m ih =>
      intro i h1 h2 h3
      rcases Nat.lt_or_ge i cnt with hlt | hge
      · exact hs _ i hlt h3 (fun h4 => ih (i + 1) (by omega) (by omega) h4)
      · obtain rfl : i = cnt := by omega
        exact he _ h3
  exact key big i0 hi (by have := vaf; omega) h0
end Go.Proofs.Ytcdlbboeflehdaa
