import Derived.Test.YtbegnofapodldaaQA
import Derived.KernelRfl
set_option linter.unusedVariables false
set_option linter.unusedSimpArgs false
namespace Go.Proofs.Ytbegnofapodldaa
open Go Go.Gx Go.Proofs

abbrev du (le : Nat → Nat → Bool) : Nat → Nat → Bool := fun x y => le y x

def low (n : Nat) (le : Nat → Nat → Bool) (S : List Nat) : List Nat := fl n fun z => S.all fun s => le z s

def grt (le : Nat → Nat → Bool) (L : List Nat) : Int := match L.find? fun x => L.all fun y => le y x with
  | some x => (x : Int)
  | none => -1

def bnd (n : Nat) (le : Nat → Nat → Bool) (S : List Nat) : Int := grt le (low n le S)

structure IsGlb (n : Nat) (le : Nat → Nat → Bool) (S : List Nat) (m : Nat) : Prop where
  lt : m < n
  lo : ∀ s ∈ S, le m s = true
  gr : ∀ z, z < n → (∀ s ∈ S, le z s = true) → le z m = true

theorem low_mem {n : Nat} {le : Nat → Nat → Bool} {S : List Nat} {z : Nat} : z ∈ low n le S ↔ z < n ∧ ∀ s ∈ S, le z s = true := by
  unfold low
  rw [fl_mem, List.all_eq_true]

theorem glb_of_bnd {n : Nat} {le : Nat → Nat → Bool} {S : List Nat} (h : 0 ≤ bnd n le S) : IsGlb n le S (bnd n le S).toNat := by
  unfold bnd grt at *
  cases hf : (low n le S).find? fun x => (low n le S).all fun y => le y x with
  | none => rw [hf] at h; exact absurd h (by decide)
  | some x =>
    have h1 := List.find?_some hf
    have h2 := low_mem.1 (List.mem_of_find?_eq_some hf)
    simp only [Int.toNat_natCast]
    exact ⟨h2.1, h2.2, fun z hz hs => List.all_eq_true.1 h1 z (low_mem.2 ⟨hz, hs⟩)⟩

theorem glb_unique {n : Nat} {le : Nat → Nat → Bool} (ho : Ord n le) {S : List Nat} {m k : Nat} (h : IsGlb n le S m) (h2 : IsGlb n le S k) : m = k := by
  by_cases e : m = k
  · exact e
  · have h3 := h.gr k h2.lt h2.lo
    have h4 := h2.gr m h.lt h.lo
    have := ho.anti m k h.lt h2.lt e h4
    rw [this] at h3; cases h3

theorem bnd_of_glb {n : Nat} {le : Nat → Nat → Bool} (ho : Ord n le) {S : List Nat} {m : Nat} (h : IsGlb n le S m) : bnd n le S = (m : Int) := by
  have h0 : 0 ≤ bnd n le S := by
    unfold bnd grt
    cases hf : (low n le S).find? fun x => (low n le S).all fun y => le y x with
    | none =>
      have := List.find?_eq_none.1 hf m (low_mem.2 ⟨h.lt, h.lo⟩)
      exact absurd (List.all_eq_true.2 fun y hy => h.gr y (low_mem.1 hy).1 (low_mem.1 hy).2) this
    | some x => simp
  have := glb_unique ho (glb_of_bnd h0) h
  omega

theorem greatest_eq {n : Nat} {le : Nat → Nat → Bool} {L : List Nat} (hL : ∀ x ∈ L, x < n) (hl : L.length ≤ 4294967296) : impl_order_greatest big (mkT n le) (cs L) = some (grt le L, ()) := by
  unfold impl_order_greatest impl_order_greatest_s
  rw [cs_len]
  refine impl_order_greatest_h2 L.length (fun i => ∀ x ∈ L.take i, ¬ (L.all fun y => le y x) = true) (by omega) ?_ ?_ 0 (by omega) (by simp)
  · intro rc i hi hv ih
    have hx := hL _ (List.getElem_mem hi)
    have hh := @find_hit _ L (fun x => L.all fun y => le y x) i hi hv
    have hn := fun h => ih ((all_take_succ hi).2 ⟨hv, h⟩)
    unfold impl_order_greatest_b2
    rw [cdt (by omega), atI_cs hi, Option.bind_some, cs_len]
    generalize L[i] = x at hx hh hn
    refine impl_order_greatest_h6 L.length (fun k b => b = (L.take k).all fun y => le y x) (by omega) ?_ ?_ 0 (by omega) _ rfl
    · intro rc2 k b hk hb ih2
      have hy := hL _ (List.getElem_mem hk)
      have ht := @all_take _ L k hk fun y => le y x
      have ha := atI_cs hk
      unfold impl_order_greatest_b6
      rw [cdt (by omega), ha, Option.bind_some, wr1 (by omega)]
      generalize L[k] = y at hy ht
      cases b with
      | false => exact ih2 _ (by rw [ht, ← hb]; rfl)
      | true =>
        rw [cond_true, atI_mkR hy, Option.bind_some, atI_mkR hx, Option.bind_some]
        exact ih2 _ (by rw [ht, ← hb]; rfl)
    · intro rc2 b hb
      rw [List.take_length] at hb
      unfold impl_order_greatest_b6
      rw [cdf (by omega), impl_order_greatest_a6, hb]
      cases h : L.all fun y => le y x with
      | true =>
        rw [cond_true]
        unfold grt
        rw [hh h]
      | false =>
        rw [cond_false, wr1 (by omega)]
        exact hn (by rw [h]; simp)
  · intro rc hv
    rw [List.take_length] at hv
    unfold impl_order_greatest_b2
    rw [cdf (by omega), impl_order_greatest_a2]
    unfold grt
    rw [List.find?_eq_none.2 hv]

theorem low2 {n : Nat} {le : Nat → Nat → Bool} {x y : Nat} : low n le [x, y] = fl n fun z => le z x && le z y := by
  unfold low
  congr 1; funext z; simp

theorem those_meet {n : Nat} {le : Nat → Nat → Bool} (hn : n ≤ 1048576) {x y : Nat} (hx : x < n) (hy : y < n) : impl_order_those_k_order_meetTable_c1 big (mkT n le) (mkT n le, (x : Int), (y : Int), ()) = some (cs (low n le [x, y]), ()) := by
  unfold impl_order_those_k_order_meetTable_c1 impl_order_those_k_order_meetTable_c1_s
  rw [mkR_len, low2]
  refine impl_order_those_k_order_meetTable_c1_h3 n (fun i l => l = cs (fl i fun z => le z x && le z y)) (by omega) ?_ ?_ 0 (by omega) _ rfl
  · intro rc i l hi hv ih
    have hl := fl_len i fun z => le z x && le z y
    unfold impl_order_those_k_order_meetTable_c1_b3 impl_order_meetTable_c1 impl_order_meetTable_c1_s
    simp only [cdt (show (i : Int) < (n : Int) by omega), atI_mkR hi, atI_mkR hx, atI_mkR hy, Option.bind_some, wr1 (show i ≤ 4611686018427387904 by omega)]
    cases h1 : le i x with
    | false => exact ih _ (by rw [hv]; exact fl_f (P := fun z => le z x && le z y) (by simp [h1]))
    | true =>
      simp only [cond_true, Option.bind_some]
      cases h2 : le i y with
      | false => exact ih _ (by rw [hv]; exact fl_f (P := fun z => le z x && le z y) (by simp [h1, h2]))
      | true =>
        rw [cond_true, app1 (by rw [hv, cs_len]; omega), Option.bind_some]
        exact ih _ (by rw [hv]; exact fl_t (P := fun z => le z x && le z y) (by simp [h1, h2]))
  · intro rc l hv
    unfold impl_order_those_k_order_meetTable_c1_b3
    rw [cdf (by omega), impl_order_those_k_order_meetTable_c1_a3, hv]

theorem low_lt {n : Nat} {le : Nat → Nat → Bool} {S : List Nat} : ∀ x ∈ low n le S, x < n := fun x hx => (low_mem.1 hx).1

theorem low_len {n : Nat} {le : Nat → Nat → Bool} {S : List Nat} : (low n le S).length ≤ n := fl_len _ _

theorem meetTable_eq {n : Nat} {le : Nat → Nat → Bool} (hn : n ≤ 1048576) : impl_order_meetTable big (mkT n le) = some (@ite _ (∀ x y, x < n → y < n → 0 ≤ bnd n le [x, y]) (Classical.propDecidable _) (mkT n fun x y => bnd n le [x, y], true, ()) ([], false, ()), ()) := by
  unfold impl_order_meetTable impl_order_meetTable_s
  rw [mkR_len]
  refine impl_order_meetTable_h3 n (fun i t => t = (mkR i fun x => mkR n fun y => bnd n le [x, y]) ∧ ∀ x, x < i → ∀ y, y < n → 0 ≤ bnd n le [x, y]) (by omega) ?_ ?_ 0 (by omega) _ ⟨rfl, by intro x hx; omega⟩
  · intro rc i t hi hv ih
    unfold impl_order_meetTable_b3
    rw [cdt (by omega), mkR_len]
    refine impl_order_meetTable_h7 n (fun j r => r = (mkR j fun y => bnd n le [i, y]) ∧ ∀ y, y < j → 0 ≤ bnd n le [i, y]) (by omega) ?_ ?_ 0 (by omega) _ ⟨rfl, by intro x hx; omega⟩
    · intro rc2 j r hj hr ih2
      unfold impl_order_meetTable_b7
      rw [cdt (by omega), those_meet hn hi hj, Option.bind_some, greatest_eq low_lt (by have := @low_len n le [i, j]; omega), Option.bind_some]
      show cond (decide (bnd n le [i, j] < 0)) _ ((appI r [bnd n le [i, j]]).bind _) = _
      by_cases h : 0 ≤ bnd n le [i, j]
      · rw [cdf (by omega), app1 (by rw [hr.1, mkR_len]; omega), Option.bind_some, wr1 (by omega)]
        exact ih2 _ ⟨by rw [hr.1]; exact (mkR_succ j _).symm, all_lt_succ.2 ⟨hr.2, h⟩⟩
      · rw [cdt (by omega), if_neg fun h2 => h (h2 i j hi hj)]
    · intro rc2 r hr
      unfold impl_order_meetTable_b7
      rw [cdf (by omega), impl_order_meetTable_a7, app1 (by rw [hv.1, mkR_len]; omega), Option.bind_some, wr1 (by omega)]
      refine ih _ ⟨?_, all_lt_succ.2 ⟨hv.2, hr.2⟩⟩
      rw [hv.1, hr.1]
      exact (mkR_succ i fun x => mkR n fun y => bnd n le [x, y]).symm
  · intro rc t hv
    unfold impl_order_meetTable_b3
    rw [cdf (by omega), impl_order_meetTable_a3, if_pos fun x y hx hy => hv.2 x hx y hy, hv.1]

theorem dual_eq {n : Nat} {le : Nat → Nat → Bool} (hn : n ≤ 1048576) : impl_order_dual big (mkT n le) = some (mkT n (du le), ()) := by
  unfold impl_order_dual impl_order_dual_s
  rw [mkR_len, newOrder_eq (by omega), Option.bind_some]
  refine impl_order_dual_h3 n (fun i d => d = mkT n fun a b => decide (a < i) && le b a) (by omega) ?_ ?_ 0 (by omega) _ (mkT_congr fun a b _ _ => by simp)
  · intro rc i d hi hv ih
    unfold impl_order_dual_b3
    rw [cdt (by omega), mkR_len]
    refine impl_order_dual_h6 n (fun j d => d = mkT n fun a b => (decide (a < i) || decide (a = i) && decide (b < j)) && le b a) (by omega) ?_ ?_ 0 (by omega) _ (by rw [hv]; exact mkT_congr fun a b _ _ => by simp)
    · intro rc2 j d2 hj hv2 ih2
      unfold impl_order_dual_b6
      generalize hf : (fun a b => (decide (a < i) || decide (a = i) && decide (b < j)) && le b a) = f at hv2
      simp only [cdt (show (j : Int) < (n : Int) by omega), hv2, atI_mkR hi, get_mkR hi, Option.bind_some, atI_mkR hj, get_mkR hj, Int.toNat_natCast, wr1 (show j ≤ 4611686018427387904 by omega)]
      refine ih2 _ ?_
      rw [mkT_set, ← hf]
      refine mkT_congr fun a b _ _ => ?_
      by_cases h1 : a = i
      · subst h1
        by_cases h2 : b = j
        · subst h2; simp
        · rw [if_neg fun h => h2 h.2, show decide (b < j + 1) = decide (b < j) from decide_eq_decide.2 (by omega)]
      · rw [if_neg fun h => h1 h.1]; simp [h1]
    · intro rc2 d2 hv2
      unfold impl_order_dual_b6
      rw [cdf (by omega), impl_order_dual_a6, wr1 (by omega)]
      refine ih _ ?_
      rw [hv2]
      refine mkT_congr fun a b _ hb => ?_
      congr 1
      rw [decide_eq_true hb, Bool.and_true, ← Bool.decide_or]
      exact decide_eq_decide.2 (by omega)
  · intro rc d hv
    unfold impl_order_dual_b3
    rw [cdf (by omega), impl_order_dual_a3, hv]
    congr 2
    exact mkT_congr fun a b ha _ => by simp [ha]

structure Lat (n : Nat) (le : Nat → Nat → Bool) : Prop where
  ne : 0 < n
  meet : ∀ x y, x < n → y < n → 0 ≤ bnd n le [x, y]
  join : ∀ x y, x < n → y < n → 0 ≤ bnd n (du le) [x, y]

def mt (n : Nat) (le : Nat → Nat → Bool) (x y : Nat) : Nat := (bnd n le [x, y]).toNat

def gb (n : Nat) (le : Nat → Nat → Bool) (S : List Nat) : Nat := (bnd n le S).toNat

def lat (n : Nat) (le : Nat → Nat → Bool) : List (List Bool) × List (List Int) × List (List Int) × Unit :=
  (mkT n le, mkT n (fun x y => ((mt n le x y : Nat) : Int)), mkT n (fun x y => ((mt n (du le) x y : Nat) : Int)), ())

structure LatP (n : Nat) (le : Nat → Nat → Bool) : Prop where
  le10 : n ≤ 10
  ord : Ord n le
  lat : Lat n le

theorem latticeOf_pos {n : Nat} {le : Nat → Nat → Bool} (h : LatP n le) : impl_latticeOf (pos n le) = some ((some (lat n le), true, ()), ()) := by
  have h10 := h.le10
  have h0 := h.lat.ne
  unfold impl_latticeOf impl_latticeOf_s
  simp only [orderOf_pos h.le10 h.ord, Option.bind_some, Bool.not_true, cond_false, mkR_len, cdf (show ¬ ((n : Int) = 0) by omega), meetTable_eq (le := le) (show n ≤ 1048576 by omega), dual_eq (le := le) (show n ≤ 1048576 by omega), meetTable_eq (le := du le) (show n ≤ 1048576 by omega)]
  rw [if_pos h.lat.meet, if_pos h.lat.join]
  simp only [cond_true]
  have e1 : (mkT n fun x y => bnd n le [x, y]) = mkT n fun x y => ((mt n le x y : Nat) : Int) := mkT_congr fun x y hx hy => by
    have := h.lat.meet x y hx hy
    unfold mt; omega
  have e2 : (mkT n fun x y => bnd n (du le) [x, y]) = mkT n fun x y => ((mt n (du le) x y : Nat) : Int) := mkT_congr fun x y hx hy => by
    have := h.lat.join x y hx hy
    unfold mt; omega
  rw [e1, e2]
  rfl

theorem latticeOf_no {p : PT} (hx : ∀ r ∈ p.1, r.length ≤ 4294967296) (h : ¬ (Good p ∧ Lat p.1.length (leP p))) : ∃ l, impl_latticeOf p = some ((l, false, ()), ()) := by
  by_cases hg : Good p
  · have hf := hg.form
    have ho := hg.ord
    have h10 := hg.len
    replace h : ¬ Lat p.1.length (leP p) := fun hl => h ⟨hg, hl⟩
    generalize p.1.length = n at *
    generalize leP p = le at *
    subst hf
    unfold impl_latticeOf impl_latticeOf_s
    simp only [orderOf_pos h10 ho, Option.bind_some, Bool.not_true, cond_false, mkR_len, meetTable_eq (le := le) (show n ≤ 1048576 by omega), dual_eq (le := le) (show n ≤ 1048576 by omega), meetTable_eq (le := du le) (show n ≤ 1048576 by omega)]
    by_cases h0 : n = 0
    · rw [cdt (by omega)]
      exact ⟨_, rfl⟩
    · rw [cdf (by omega)]
      by_cases h1 : ∀ x y, x < n → y < n → 0 ≤ bnd n le [x, y]
      · rw [if_pos h1]
        by_cases h2 : ∀ x y, x < n → y < n → 0 ≤ bnd n (du le) [x, y]
        · exact absurd ⟨by omega, h1, h2⟩ h
        · rw [if_neg h2]
          exact ⟨_, rfl⟩
      · rw [if_neg h1]
        exact ⟨_, rfl⟩
  · obtain ⟨T, hT⟩ := orderOf_no p hx hg
    unfold impl_latticeOf impl_latticeOf_s
    rw [hT, Option.bind_some]
    exact ⟨_, rfl⟩

theorem specDual_pos {n : Nat} {le : Nat → Nat → Bool} (hn : n ≤ 1048576) : spec_l23Dual big (pos n le) = some (pos n (du le), ()) := by
  unfold spec_l23Dual spec_l23Dual_s
  refine spec_l23Dual_h3 n (fun i o => o.1 = mkR i fun y => cs (fl n fun x => le y x)) (by omega) ?_ ?_ 0 (by omega) _ rfl
  · intro rc i o hi hv ih
    unfold spec_l23Dual_b3
    rw [pos_len, cdt (by omega)]
    refine spec_l23Dual_h7 n (fun j l => l = cs (fl j fun x => le i x)) (by omega) ?_ ?_ 0 (by omega) _ rfl
    · intro rc2 j l hj hl ih2
      have hlen := fl_len j fun x => le i x
      unfold spec_l23Dual_b7
      rw [pos_len, cdt (by omega), l23Leq_pos (by omega) hi hj, Option.bind_some, wr1 (by omega)]
      cases h : le i j with
      | true =>
        rw [cond_true, app1 (by rw [hl, cs_len]; omega), Option.bind_some]
        exact ih2 _ (by rw [hl]; exact fl_t (P := fun x => le i x) h)
      | false => exact ih2 _ (by rw [hl]; exact fl_f (P := fun x => le i x) h)
    · intro rc2 l hl
      unfold spec_l23Dual_b7
      rw [pos_len, cdf (by omega), spec_l23Dual_a7, app1 (by rw [hv, mkR_len]; omega), Option.bind_some, wr1 (by omega)]
      exact ih _ (by rw [hl]; show o.1 ++ _ = _; rw [hv]; exact (mkR_succ i fun y => cs (fl n fun x => le y x)).symm)
  · intro rc o hv
    unfold spec_l23Dual_b3
    rw [pos_len, cdf (by omega), spec_l23Dual_a3]
    unfold pos
    congr 2
    exact Prod.ext hv rfl

theorem specBound_pos {n : Nat} {le : Nat → Nat → Bool} (hn : n ≤ 1048576) {S : List Nat} (hS : ∀ s ∈ S, s < n) (hSl : S.length ≤ 4294967296) : spec_l24Bound big (pos n le) (cs S) = some (bnd n le S, ()) := by
  unfold spec_l24Bound spec_l24Bound_s
  refine spec_l24Bound_h3 n (fun i l => l = cs (fl i fun z => S.all fun s => le z s)) (by omega) ?_ ?_ 0 (by omega) _ rfl
  · intro rc i l hi hv ih
    have hlen := fl_len i fun z => S.all fun s => le z s
    unfold spec_l24Bound_b3
    rw [pos_len, cdt (by omega)]
    refine spec_l24Bound_h7 S.length (fun k b => b = (S.take k).all fun s => le i s) (by omega) ?_ ?_ 0 (by omega) _ rfl
    · intro rc2 k b hk hb ih2
      have hs := hS _ (List.getElem_mem hk)
      have ht := @all_take _ S k hk fun s => le i s
      have ha := atI_cs hk
      unfold spec_l24Bound_b7
      rw [cs_len, cdt (by omega), ha, Option.bind_some, wr1 (by omega)]
      generalize S[k] = s at hs ht
      rw [l23Leq_pos (by omega) hi hs, Option.bind_some]
      cases b with
      | true => exact ih2 _ (by rw [ht, ← hb]; rfl)
      | false => exact ih2 _ (by rw [ht, ← hb]; rfl)
    · intro rc2 b hb
      rw [List.take_length] at hb
      unfold spec_l24Bound_b7
      rw [cs_len, cdf (by omega), spec_l24Bound_a7, wr1 (by omega)]
      cases b with
      | true =>
        rw [cond_true, app1 (by rw [hv, cs_len]; omega), Option.bind_some]
        exact ih _ (by rw [hv]; exact fl_t (P := fun z => S.all fun s => le z s) hb.symm)
      | false => exact ih _ (by rw [hv]; exact fl_f (P := fun z => S.all fun s => le z s) hb.symm)
  · intro rc l hv
    unfold spec_l24Bound_b3
    rw [pos_len, cdf (by omega), spec_l24Bound_a3]
    replace hv : l = cs (low n le S) := hv
    rw [hv]
    have hll := @low_len n le S
    unfold bnd
    have hlt := @low_lt n le S
    have hfl : low n le S = fl n fun z => S.all fun s => le z s := rfl
    have hw : ∀ x, x < n → spec_l5Within big (cs (low n le S)) (cs (fl n fun a => le a x)) = some ((low n le S).all fun y => le y x, ()) := by
      intro x hx
      rw [hfl, within_fl (by omega), ← hfl]
      congr 2
      exact tv_eq (by rw [List.all_eq_true]; exact ⟨fun h y hy hp => h y (fl_mem.2 ⟨hy, hp⟩), fun h y hy => h y (fl_mem.1 hy).1 (fl_mem.1 hy).2⟩)
    generalize low n le S = L at *
    refine spec_l24Bound_h13 L.length (fun i => ∀ x ∈ L.take i, ¬ (L.all fun y => le y x) = true) (by omega) ?_ ?_ 0 (by omega) (by simp)
    · intro rc2 i hi hv2 ih2
      have hx := hlt _ (List.getElem_mem hi)
      have hh := @find_hit _ L (fun x => L.all fun y => le y x) i hi hv2
      have hn2 := fun h => ih2 ((all_take_succ hi).2 ⟨hv2, h⟩)
      have ha := atI_cs hi
      have hg := get_cs hi
      unfold spec_l24Bound_b13
      simp only [cs_len, cdt (show (i : Int) < (L.length : Int) by omega), ha, Option.bind_some, Int.toNat_natCast, hg, wr1 (show i ≤ 4611686018427387904 by omega)]
      generalize L[i] = x at hx hh hn2
      rw [atI_pos hx, Option.bind_some, hw x hx, Option.bind_some]
      cases h : L.all fun y => le y x with
      | true =>
        rw [cond_true]
        unfold grt
        rw [hh h]
      | false =>
        rw [cond_false]
        exact hn2 (by rw [h]; simp)
    · intro rc2 hv2
      rw [List.take_length] at hv2
      unfold spec_l24Bound_b13
      rw [cs_len, cdf (by omega), spec_l24Bound_a13]
      unfold grt
      rw [List.find?_eq_none.2 hv2]

theorem bnd_swap {n : Nat} {le : Nat → Nat → Bool} (x y : Nat) : bnd n le [x, y] = bnd n le [y, x] := by
  unfold bnd
  congr 1
  unfold low
  congr 1; funext z; simp [Bool.and_comm]

theorem Ord.du {n : Nat} {le : Nat → Nat → Bool} (h : Ord n le) : Ord n (du le) where
  refl := h.refl
  anti x y hx hy hxy h1 := by
    have h3 : le y x = true := h1
    show le x y = false
    by_cases h2 : le x y = true
    · rw [h.anti x y hx hy hxy h2] at h3; cases h3
    · simpa using h2
  trans x y z hx hy hz h1 h2 := h.trans z y x hz hy hx h2 h1

theorem bnd_self {n : Nat} {le : Nat → Nat → Bool} (ho : Ord n le) {x : Nat} (hx : x < n) : bnd n le [x, x] = (x : Int) :=
  bnd_of_glb ho ⟨hx, by simp [ho.refl x hx], fun z _ h => h x (by simp)⟩

theorem spec24_eq (p : PT) (hx : ∀ r ∈ p.1, r.length ≤ 4294967296) : spec_l24Good big p = some (tv (Good p ∧ Lat p.1.length (leP p)), ()) := by
  unfold spec_l24Good spec_l24Good_s
  rw [specPoset_eq p hx, Option.bind_some]
  by_cases hg : Good p
  · rw [tv_t hg]
    have e : (Good p ∧ Lat p.1.length (leP p)) ↔ Lat p.1.length (leP p) := ⟨fun h => h.2, fun h => ⟨hg, h⟩⟩
    rw [tv_congr e, Bool.not_true, cond_false]
    have hf := hg.form
    have ho := hg.ord
    have h10 := hg.len
    clear e hg hx
    generalize p.1.length = n at *
    generalize leP p = le at *
    subst hf
    by_cases h0 : n = 0
    · rw [cdt (by omega), tv_f fun h => by have := h.ne; omega]
    · rw [cdf (by omega), specDual_pos (by omega), Option.bind_some]
      have key : ∀ x y, x < n → y < n → (0 ≤ bnd n le [x, y] ↔ 0 ≤ bnd n le [y, x]) := fun x y _ _ => by rw [bnd_swap]
      refine spec_l24Good_h5 n (fun i => ∀ x, x < i → ∀ y, y < x → 0 ≤ bnd n le [x, y] ∧ 0 ≤ bnd n (du le) [x, y]) (by omega) ?_ ?_ 0 (by omega) (by intro x hx; omega)
      · intro rc i hi hv ih
        unfold spec_l24Good_b5
        rw [pos_len, cdt (by omega)]
        refine spec_l24Good_h8 i (fun j => ∀ y, y < j → 0 ≤ bnd n le [i, y] ∧ 0 ≤ bnd n (du le) [i, y]) (by omega) ?_ ?_ 0 (by omega) (by intro x hx; omega)
        · intro rc2 j hj hv2 ih2
          unfold spec_l24Good_b8
          have e : ([(i : Int), (j : Int)] : List Int) = cs [i, j] := rfl
          have hS : ∀ s ∈ [i, j], s < n := by intro s hs; simp at hs; omega
          rw [cdt (by omega), e, specBound_pos (by omega) hS (by simp), Option.bind_some, specBound_pos (le := du le) (by omega) hS (by simp), Option.bind_some]
          by_cases h1 : 0 ≤ bnd n le [i, j]
          · rw [cdf (by omega)]
            by_cases h2 : 0 ≤ bnd n (du le) [i, j]
            · rw [cdf (by omega), wr1 (by omega)]
              exact ih2 (all_lt_succ.2 ⟨hv2, h1, h2⟩)
            · rw [cdt (by omega), tv_f fun h => h2 (h.join i j hi (by omega))]
          · rw [cdt (by omega), tv_f fun h => h1 (h.meet i j hi (by omega))]
        · intro rc2 hv2
          unfold spec_l24Good_b8
          rw [cdf (by omega), spec_l24Good_a8, wr1 (by omega)]
          exact ih (all_lt_succ.2 ⟨hv, hv2⟩)
      · intro rc hv
        unfold spec_l24Good_b5
        rw [pos_len, cdf (by omega), spec_l24Good_a5, tv_t]
        refine ⟨by omega, fun x y hx hy => ?_, fun x y hx hy => ?_⟩
        · rcases Nat.lt_trichotomy x y with h | h | h
          · rw [bnd_swap]; exact (hv y hy x h).1
          · subst h; rw [bnd_self ho hx]; omega
          · exact (hv x hx y h).1
        · rcases Nat.lt_trichotomy x y with h | h | h
          · rw [bnd_swap]; exact (hv y hy x h).2
          · subst h; rw [bnd_self ho.du hx]; omega
          · exact (hv x hx y h).2
  · rw [tv_f hg, tv_f fun h => hg h.1]
    rfl

theorem lat_cases {p : PT} (hx : ∀ r ∈ p.1, r.length ≤ 4294967296) : (∃ n le, p = pos n le ∧ LatP n le ∧ spec_l24Good big p = some (true, ()) ∧ impl_latticeOf p = some ((some (lat n le), true, ()), ())) ∨
    (spec_l24Good big p = some (false, ()) ∧ ∃ l, impl_latticeOf p = some ((l, false, ()), ())) := by
  by_cases h : Good p ∧ Lat p.1.length (leP p)
  · have hl : LatP p.1.length (leP p) := ⟨h.1.len, h.1.ord, h.2⟩
    refine .inl ⟨p.1.length, leP p, h.1.form, hl, by rw [spec24_eq p hx, tv_t h], ?_⟩
    have := latticeOf_pos hl
    rw [← h.1.form] at this
    exact this
  · exact .inr ⟨by rw [spec24_eq p hx, tv_f h], latticeOf_no hx h⟩

end Go.Proofs.Ytbegnofapodldaa
