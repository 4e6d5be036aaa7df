import Derived.Test.YtcdlbboeflehdaaPTab
import Derived.Test.YtcdlbboeflehdaaHCO
import Derived.KernelRfl
set_option linter.unusedVariables false
set_option linter.unusedSimpArgs false
namespace Go.Proofs.Ytcdlbboeflehdaa
open Go Go.Gx Go.Proofs
theorem vayu (x a b : Int) : zz6 x a b = some (decide (a ≤ x ∧ x ≤ b), ()) := by
  unfold zz6 vbmg
  by_cases h : a ≤ x <;> simp [h]
def subst (l : Int) (s : List Int) : List Int → List Int
  | [] => []
  | x :: xs => if x = l then s ++ subst l s xs else x :: subst l s xs
def risingB : List Int → Bool
  | x :: y :: r => decide (x < y) && risingB (y :: r)
  | _ => true
def inB (n : Nat) (x : Int) : Bool := decide (0 ≤ x ∧ x < n)
def isSetB (n : Nat) (s : List Int) : Bool := s.all (inB n) && risingB s
theorem vaad (l : List Int) (i : Nat) (h : i < l.length) (h1 : 1 ≤ i) : risingB (l.drop (i - 1)) = (decide (l[i - 1] < l[i]) && risingB (l.drop i)) := by
  rw [List.drop_eq_getElem_cons (show i - 1 < l.length by omega), show i - 1 + 1 = i by omega, List.drop_eq_getElem_cons h]
  rfl
theorem vafc (l : List Int) (i : Nat) (h : l.length ≤ i) (h1 : 1 ≤ i) : risingB (l.drop (i - 1)) = true := by
  by_cases h2 : l.length = i
  · rw [List.drop_eq_getElem_cons (show i - 1 < l.length by omega), List.drop_eq_nil_of_le (by omega)]
    rfl
  · rw [List.drop_eq_nil_of_le (by omega)]
    rfl
theorem vxi (N : Nat) {m : Nat} : ∀ (n : Nat) (l : List Int) (i : Nat), l.length - i < n → i ≤ l.length → l.length ≤ 1099511627776 →
    veh N vpc n l 0 ((m : Int) - 1) i = some ((l.drop i).all (inB m) && risingB (l.drop (i - 1)), ())
  | 0, _, _, h, _, _ => by omega
  | n + 1, l, i, h, hi, hb => by
    simp only [veh, vair]
    by_cases hlt : i < l.length
    · have e : decide (0 ≤ l[i] ∧ l[i] ≤ (m : Int) - 1) = inB m l[i] := by
        unfold inB; congr 1; exact propext ⟨fun h => ⟨h.1, by omega⟩, fun h => ⟨h.1, by omega⟩⟩
      rw [cdt (by omega), vak l i hlt, Option.bind_some, vayu, Option.bind_some, e, wr (n := (i : Int) + 1) (by omega) (by omega), wr (n := (i : Int) - 1) (by omega) (by omega)]
      rw [show ((i : Int) + 1) = ((i + 1 : Nat) : Int) by omega, vxi N n l (i + 1) (by omega) (by omega) hb]
      rw [show i + 1 - 1 = i by omega]
      cases hin : inB m l[i] with
      | false =>
        rw [List.drop_eq_getElem_cons hlt, List.all_cons, hin]
        rfl
      | true =>
        simp only [Bool.not_true, cond_false]
        by_cases h0 : 0 < i
        · rw [cdt (by omega), show ((i : Int) - 1) = ((i - 1 : Nat) : Int) by omega, vak l (i - 1) (by omega), Option.bind_some, Option.bind_some, vaad l i hlt h0]
          by_cases hle : l[i] ≤ l[i - 1]
          · rw [cdt hle, decide_eq_false (by omega)]
            simp
          · rw [cdf hle, decide_eq_true (show l[i - 1] < l[i] by omega), List.drop_eq_getElem_cons hlt, List.all_cons, hin]
            simp
        · rw [cdf (by omega)]
          have : i = 0 := by omega
          subst this
          rw [show (0 : Nat) - 1 = 0 from rfl, List.drop_eq_getElem_cons hlt, List.all_cons, hin]
          simp
    · rw [cdf (by omega), List.drop_eq_nil_of_le (by omega)]
      by_cases h1 : 1 ≤ i
      · rw [vafc l i (by omega) h1]; rfl
      · have : l = [] := List.eq_nil_of_length_eq_zero (by omega)
        subst this
        simp [risingB, vpc]
theorem vauy (N : Nat) {m : Nat} : ∀ (n : Nat) (l : List Int) (i : Nat), l.length - i < n → i ≤ l.length → l.length ≤ 1099511627776 →
    vjd N vyi n (m : Int) l (l.length : Int) i = some ((l.drop i).all (inB m), ())
  | 0, _, _, h, _, _ => by omega
  | n + 1, l, i, h, hi, hb => by
    simp only [vjd, vana]
    by_cases hlt : i < l.length
    · rw [cdt (by omega), vak l i hlt, Option.bind_some, wr (n := (i : Int) + 1) (by omega) (by omega)]
      rw [show ((i : Int) + 1) = ((i + 1 : Nat) : Int) by omega, vauy N n l (i + 1) (by omega) (by omega) hb]
      rw [List.drop_eq_getElem_cons hlt, List.all_cons]
      unfold inB
      by_cases h0 : l[i] < 0
      · rw [cdt h0, decide_eq_false (by omega)]; rfl
      · rw [cdf h0]
        by_cases h1 : (m : Int) ≤ l[i]
        · rw [cdt h1, decide_eq_false (by omega)]; rfl
        · rw [cdf h1, decide_eq_true (by omega)]; rfl
    · rw [cdf (by omega), List.drop_eq_nil_of_le (by omega)]
      rfl
theorem vazi (N : Nat) : ∀ (n : Nat) (l : List Int) (i : Nat), l.length - i < n → 1 ≤ i → l.length ≤ 1099511627776 → i ≤ 1099511627777 →
    vie N vzr n l i = some (risingB (l.drop (i - 1)), ())
  | 0, _, _, h, _, _, _ => by omega
  | n + 1, l, i, h, hi, hb, hi2 => by
    simp only [vie, vail]
    by_cases hlt : i < l.length
    · rw [cdt (by omega), wr (n := (i : Int) - 1) (by omega) (by omega), show ((i : Int) - 1) = ((i - 1 : Nat) : Int) by omega, vak l (i - 1) (by omega), Option.bind_some, vak l i hlt, Option.bind_some, wr (n := (i : Int) + 1) (by omega) (by omega)]
      rw [show ((i : Int) + 1) = ((i + 1 : Nat) : Int) by omega, vazi N n l (i + 1) (by omega) (by omega) hb (by omega), vaad l i hlt hi, show i + 1 - 1 = i by omega]
      by_cases hle : l[i] ≤ l[i - 1]
      · rw [cdt hle, decide_eq_false (by omega)]; rfl
      · rw [cdf hle, decide_eq_true (by omega)]; rfl
    · rw [cdf (by omega), vafc l i (by omega) hi]
      rfl
theorem wr1 {i : Nat} (h : i ≤ 4611686018427387904) : IntKind.i64.wrap ((i : Int) + 1) = ((i + 1 : Nat) : Int) := by rw [wr (by omega) (by omega)]; omega
abbrev PT := List (List Int) × Unit
def pos (n : Nat) (le : Nat → Nat → Bool) : PT := (mkR n fun y => cs (fl n fun x => le x y), ())
def leP (p : PT) (x y : Nat) : Bool := decide ((x : Int) ∈ p.1.getD y [])
structure Ord (n : Nat) (le : Nat → Nat → Bool) : Prop where
  refl : ∀ x, x < n → le x x = true
  anti : ∀ x y, x < n → y < n → x ≠ y → le x y = true → le y x = false
  trans : ∀ x y z, x < n → y < n → z < n → le x y = true → le y z = true → le x z = true
structure Good (p : PT) : Prop where
  len : p.1.length ≤ 10
  rows : ∀ r ∈ p.1, isSetB p.1.length r = true
  ord : Ord p.1.length (leP p)
theorem vvu (l : List Int) (x : Int) (h : l.length ≤ 4294967296) : zz14 big l x = some (decide (x ∈ l), ()) := by
  unfold zz14 vaqy
  refine vbmn l.length (fun i => x ∉ l.take i) (by omega) ?_ ?_ 0 (by omega) (by simp)
  · intro rc i hi hv ih
    unfold vpq
    rw [cdt (by omega), vak l i hi, Option.bind_some]
    by_cases hx : l[i] = x
    · rw [cdt hx, decide_eq_true (hx ▸ List.getElem_mem hi)]
    · rw [cdf hx, wr1 (by omega)]
      refine ih fun h => ?_
      rw [List.take_succ_eq_append_getElem hi, List.mem_append, List.mem_singleton] at h
      exact h.elim hv fun e => hx e.symm
  · intro rc hv
    unfold vpq
    rw [cdf (by omega), vfh, decide_eq_false (by simpa using hv)]
theorem vaqv (S : List Nat) (x : Nat) (h : S.length ≤ 4294967296) : zz14 big (cs S) (x : Int) = some (decide (x ∈ S), ()) := by
  rw [vvu _ _ (by simpa using h)]
  simp only [cs_mem]
theorem vaxc (a b : List Int) (ha : a.length ≤ 4294967296) (hb : b.length ≤ 4294967296) : zz48 big a b = some (tv (∀ x ∈ a, x ∈ b), ()) := by
  unfold zz48 vaus
  refine vbop a.length (fun i => ∀ x ∈ a.take i, x ∈ b) (by omega) ?_ ?_ 0 (by omega) (by simp)
  · intro rc i hi hv ih
    unfold voq
    rw [cdt (by omega), vak a i hi, Option.bind_some, vvu _ _ hb, Option.bind_some]
    by_cases hx : a[i] ∈ b
    · rw [decide_eq_true hx, wr1 (by omega)]
      exact ih ((vca hi).2 ⟨hv, hx⟩)
    · rw [decide_eq_false hx, tv_f fun h => hx (h _ (List.getElem_mem hi))]
      rfl
  · intro rc hv
    unfold voq
    rw [cdf (by omega), vft, tv_t (by simpa using hv)]
theorem vaos (n : Nat) (s : List Int) (hn : n ≤ 1099511627776) (hs : s.length ≤ 1099511627775) : zz47 big s 0 ((n : Int) - 1) = some (isSetB n s, ()) := by
  have hb := vaf
  unfold zz47 vatq vakl
  have := vxi big (m := n) big s 0 (by omega) (by omega) (by omega)
  rw [show veh big vpc big s 0 ((n : Int) - 1) 0 = _ from this]
  rfl
theorem vank (n : Nat) (s : List Int) (hs : s.length ≤ 1099511627775) : zz24 big s (n : Int) = some (s.all (inB n), ()) := by
  have hb := vaf
  unfold zz24 varf vahc
  have h1 := vauy big (m := n) big s 0 (by omega) (by omega) (by omega)
  rw [show (0 : Int) = ((0 : Nat) : Int) from rfl, h1]
  rfl
theorem vbif (s : List Int) (hs : s.length ≤ 1099511627775) : zz23 big s = some (risingB s, ()) := by
  have hb := vaf
  unfold zz23 vatg vajd
  have h2 := vazi big big s 1 (by omega) (by omega) (by omega) (by omega)
  rw [show (1 : Int) = ((1 : Nat) : Int) from rfl, h2]
  rfl
theorem vaab : ∀ {l : List Int}, risingB l = true → l.Pairwise (· < ·)
  | [], _ => List.Pairwise.nil
  | [x], _ => by simp
  | x :: y :: r, h => by
    simp only [risingB, Bool.and_eq_true, decide_eq_true_eq] at h
    have h2 := vaab h.2
    refine List.pairwise_cons.2 ⟨fun z hz => ?_, h2⟩
    rcases List.mem_cons.1 hz with rfl | hz
    · exact h.1
    · have := (List.pairwise_cons.1 h2).1 z hz
      omega
theorem vaat : ∀ {l : List Int}, l.Pairwise (· < ·) → risingB l = true
  | [], _ => rfl
  | [x], _ => rfl
  | x :: y :: r, h => by
    have h1 := List.pairwise_cons.1 h
    simp only [risingB, Bool.and_eq_true, decide_eq_true_eq]
    exact ⟨h1.1 y (by simp), vaat h1.2⟩
theorem vaqe : ∀ {l m : List Int}, l.Pairwise (· < ·) → m.Pairwise (· < ·) → (∀ x, x ∈ l ↔ x ∈ m) → l = m
  | [], [], _, _, _ => rfl
  | [], y :: m, _, _, h => by have := (h y).2 (by simp); simp at this
  | x :: l, [], _, _, h => by have := (h x).1 (by simp); simp at this
  | x :: l, y :: m, h1, h2, h => by
    have p1 := List.pairwise_cons.1 h1
    have p2 := List.pairwise_cons.1 h2
    have e : x = y := by
      rcases List.mem_cons.1 ((h x).1 (by simp)) with e | hx
      · exact e
      · rcases List.mem_cons.1 ((h y).2 (by simp)) with e | hy
        · exact e.symm
        · have := p1.1 y hy
          have := p2.1 x hx
          omega
    subst e
    congr 1
    refine vaqe p1.2 p2.2 fun z => ?_
    constructor
    · intro hz
      rcases List.mem_cons.1 ((h z).1 (List.mem_cons_of_mem _ hz)) with e | hz2
      · have := p1.1 z hz; omega
      · exact hz2
    · intro hz
      rcases List.mem_cons.1 ((h z).2 (List.mem_cons_of_mem _ hz)) with e | hz2
      · have := p2.1 z hz; omega
      · exact hz2
theorem vazf (n : Nat) (P : Nat → Bool) : (cs (fl n P)).Pairwise (· < ·) := by
  unfold cs fl
  rw [List.pairwise_map]
  refine List.Pairwise.filter _ ?_
  have := List.pairwise_lt_range (n := n)
  exact this.imp fun h => by omega
theorem vaoo {n : Nat} {l : List Int} (h : isSetB n l = true) : l = cs (fl n fun x => decide ((x : Int) ∈ l)) := by
  unfold isSetB at h
  rw [Bool.and_eq_true] at h
  refine vaqe (vaab h.2) (vazf _ _) fun x => ?_
  constructor
  · intro hx
    have h1 := List.all_eq_true.1 h.1 x hx
    unfold inB at h1
    rw [decide_eq_true_eq] at h1
    have e : x = ((x.toNat : Nat) : Int) := by omega
    rw [e, cs_mem, fl_mem]
    refine ⟨by omega, decide_eq_true ?_⟩
    rw [← e]; exact hx
  · intro hx
    unfold cs at hx
    obtain ⟨y, hy, e⟩ := List.mem_map.1 hx
    have := (fl_mem.1 hy).2
    rw [decide_eq_true_eq] at this
    exact e ▸ this
theorem vbns (n : Nat) (P : Nat → Bool) : isSetB n (cs (fl n P)) = true := by
  unfold isSetB
  rw [Bool.and_eq_true]
  refine ⟨List.all_eq_true.2 fun x hx => ?_, vaat (vazf n P)⟩
  unfold cs at hx
  obtain ⟨y, hy, e⟩ := List.mem_map.1 hx
  have := (fl_mem.1 hy).1
  unfold inB
  exact decide_eq_true (by omega)
theorem vaqn {p : PT} (h : ∀ r ∈ p.1, isSetB p.1.length r = true) : p = pos p.1.length (leP p) := by
  unfold pos
  refine Prod.ext ?_ rfl
  refine vbqf rfl fun i hi => ?_
  refine (vaoo (h _ (List.getElem_mem hi))).trans ?_
  refine congrArg cs (vabt fun x hx => ?_)
  unfold leP
  simp [hi]
theorem vai (n : Nat) (le : Nat → Nat → Bool) : (pos n le).1.length = n := mkR_len n _
theorem vapo (n : Nat) (le : Nat → Nat → Bool) : ∀ r ∈ (pos n le).1, isSetB (pos n le).1.length r = true := by
  intro r hr
  rw [vai]
  obtain ⟨i, _, e⟩ := mkR_mem.1 hr
  exact e ▸ vbns _ _
theorem vazm {n : Nat} {le : Nat → Nat → Bool} {x y : Nat} (hx : x < n) (hy : y < n) : leP (pos n le) x y = le x y := by
  unfold leP pos
  simp only [List.getD_eq_getElem?_getD, vco hy, Option.getD_some, cs_mem, fl_mem, hx, true_and, Bool.decide_eq_true]
theorem Ord.congr {n : Nat} {le le' : Nat → Nat → Bool} (e : ∀ x y, x < n → y < n → le x y = le' x y) (h : Ord n le) : Ord n le' where
  refl x hx := by rw [← e x x hx hx]; exact h.refl x hx
  anti x y hx hy hxy h1 := by rw [← e y x hy hx]; rw [← e x y hx hy] at h1; exact h.anti x y hx hy hxy h1
  trans x y z hx hy hz h1 h2 := by
    rw [← e x z hx hz]; rw [← e x y hx hy] at h1; rw [← e y z hy hz] at h2
    exact h.trans x y z hx hy hz h1 h2
theorem vbjz {n : Nat} {le : Nat → Nat → Bool} : Good (pos n le) ↔ n ≤ 10 ∧ Ord n le := by
  have e : ∀ x y, x < n → y < n → leP (pos n le) x y = le x y := fun x y hx hy => vazm hx hy
  constructor
  · intro h
    have h1 := h.len; have h2 := h.ord
    rw [vai] at h1 h2
    exact ⟨h1, h2.congr e⟩
  · intro h
    refine ⟨by rw [vai]; exact h.1, vapo n le, ?_⟩
    rw [vai]
    exact h.2.congr fun x y hx hy => (e x y hx hy).symm
theorem Good.form {p : PT} (h : Good p) : p = pos p.1.length (leP p) := vaqn h.rows
theorem vaae {n : Nat} (h : n ≤ 4294967296) : zz22 big (n : Int) = some (mkT n fun _ _ => false, ()) := by
  unfold zz22 vasu
  rw [vazt h, Option.bind_some, Option.bind_some, cdt (by omega), mkR_len]
  refine vbmo n (fun i o => o = mkR n fun x => if x < i then mkR n fun _ => false else []) (by omega) ?_ ?_ 0 (by omega) _ (by simp)
  · intro rc i o hi hv ih
    unfold voe
    rw [cdt (by omega), vazt h, Option.bind_some, Option.bind_some, cdt (by omega), hv, vag hi, Option.bind_some, Int.toNat_natCast, vco hi, Option.bind_some, wr1 (by omega)]
    refine ih _ ?_
    rw [vams]
    refine vci fun x hx => ?_
    by_cases h1 : x = i
    · rw [if_pos h1, if_pos (by omega)]
    · rw [if_neg h1]
      by_cases h2 : x < i
      · rw [if_pos h2, if_pos (by omega)]
      · rw [if_neg h2, if_neg (by omega)]
  · intro rc o hv
    unfold voe
    rw [cdf (by omega), hv, vii]
    congr 2
    exact vci fun x hx => by rw [if_pos hx]
theorem vbaq {n : Nat} {le : Nat → Nat → Bool} (hn : n ≤ 4294967296) : zz25 big (mkT n le) = some (tv (Ord n le), ()) := by
  unfold zz25 vaqo
  rw [mkR_len]
  refine vbmw n (fun i => ∀ x, x < i → le x x = true ∧ (∀ y, y < n → (x ≠ y → le x y = true → le y x = false) ∧ ∀ z, z < n → le x y = true → le y z = true → le x z = true)) (by omega) ?_ ?_ 0 (by omega) (by intro x hx; omega)
  · intro rc i hi hv ih
    unfold vna
    rw [cdt (by omega), vag hi, Option.bind_some, vag hi, Option.bind_some, mkR_len]
    cases h0 : le i i with
    | false =>
      rw [tv_f fun h => by rw [h.refl i hi] at h0; cases h0]
      rfl
    | true =>
      rw [Bool.not_true, cond_false]
      refine vbpf n (fun j => ∀ y, y < j → (i ≠ y → le i y = true → le y i = false) ∧ ∀ z, z < n → le i y = true → le y z = true → le i z = true) (by omega) ?_ ?_ 0 (by omega) (by intro x hx; omega)
      · intro rc2 j hj hv2 ih2
        have inn : (i ≠ j → le i j = true → le j i = false) → vfb big rc2 (vce rc) (mkT n le) (i : Int) (j : Int) (n : Int) (i : Int) (n : Int) (j : Int) (n : Int) ((0 : Nat) : Int) = some (tv (Ord n le), ()) := by
          intro hij
          refine vbjt n (fun k => ∀ z, z < k → le i j = true → le j z = true → le i z = true) (by omega) ?_ ?_ 0 (by omega) (by intro x hx; omega)
          · intro rc3 k hk hv3 ih3
            unfold vfo
            simp only [cdt (show (k : Int) < (n : Int) by omega), vag hi, vag hj, vag hk, Option.bind_some, wr1 (show k ≤ 4611686018427387904 by omega)]
            cases h1 : le i j with
            | false => exact ih3 (all_lt_succ.2 ⟨hv3, by intro h; rw [h1] at h; cases h⟩)
            | true =>
              cases h2 : le j k with
              | false => exact ih3 (all_lt_succ.2 ⟨hv3, by intro _ h; rw [h2] at h; cases h⟩)
              | true =>
                cases h3 : le i k with
                | false =>
                  rw [tv_f fun h => by rw [h.trans i j k hi hj hk h1 h2] at h3; cases h3]
                  rfl
                | true => exact ih3 (all_lt_succ.2 ⟨hv3, fun _ _ => h3⟩)
          · intro rc3 hv3
            unfold vfo
            rw [cdf (by omega), vea, wr1 (by omega)]
            exact ih2 (all_lt_succ.2 ⟨hv2, hij, hv3⟩)
        unfold vpg
        rw [cdt (by omega), vag hi, Option.bind_some, vag hj, Option.bind_some, vag hj, Option.bind_some, vag hi, Option.bind_some, mkR_len]
        by_cases hij : i = j
        · rw [cdf (by omega)]
          exact inn fun h => absurd hij h
        · rw [cdt (by omega)]
          cases h1 : le i j with
          | false => exact inn fun _ h => by rw [h1] at h; cases h
          | true =>
            cases h2 : le j i with
            | false => exact inn fun _ _ => h2
            | true =>
              rw [tv_f fun h => by rw [h.anti i j hi hj hij h1] at h2; cases h2]
              rfl
      · intro rc2 hv2
        unfold vpg
        rw [cdf (by omega), vce, wr1 (by omega)]
        exact ih (all_lt_succ.2 ⟨hv, h0, hv2⟩)
  · intro rc hv
    unfold vna
    rw [cdf (by omega), vcn, tv_t]
    exact ⟨fun x hx => (hv x hx).1, fun x y hx hy => ((hv x hx).2 y hy).1, fun x y z hx hy hz => ((hv x hx).2 y hy).2 z hz⟩
theorem vazp {α : Type} {n : Nat} {f : Nat → Nat → α} {x y : Nat} {v : α} : (mkT n f).set x ((mkR n (f x)).set y v) = mkT n fun a b => if a = x ∧ b = y then v else f a b := by
  rw [vams]
  refine vci fun a ha => ?_
  by_cases h : a = x
  · subst h
    rw [if_pos rfl, vams]
    exact vci fun b hb => by simp
  · rw [if_neg h]
    exact vci fun b hb => by simp [h]
theorem vadz (p : PT) (hl : p.1.length ≤ 10) (hx : ∀ r ∈ p.1, r.length ≤ 4294967296) :
    zz26 big p = some (@ite _ (∀ r ∈ p.1, isSetB p.1.length r = true) (Classical.propDecidable _) (mkT p.1.length (leP p), tv (Ord p.1.length (leP p)), ()) ([], false, ()), ()) := by
  unfold zz26 vagg
  generalize hn : p.1.length = n
  rw [cdf (by omega), vaae (by omega), Option.bind_some]
  refine vbng n (fun i o => (∀ j, j < i → ∀ (h : j < p.1.length), isSetB n p.1[j] = true) ∧ o = mkT n fun a b => decide (b < i) && leP p a b) (by omega) ?_ ?_ 0 (by omega) _ ⟨by intro j hj; omega, vas fun a b _ _ => by simp⟩
  · intro rc i o hi hv ih
    obtain ⟨hv1, hv2⟩ := hv
    unfold vpx
    have hip : i < p.1.length := by omega
    have hrow := hx _ (List.getElem_mem hip)
    rw [cdt (by omega), vak _ i hip, Option.bind_some, vbif _ (by omega), Option.bind_some]
    cases h1 : risingB p.1[i] with
    | false =>
      rw [if_neg fun h => by have := h _ (List.getElem_mem hip); unfold isSetB at this; rw [h1, Bool.and_false] at this; cases this]
      rfl
    | true =>
      rw [Bool.not_true, cond_false, vank n _ (by omega), Option.bind_some]
      cases h2 : p.1[i].all (inB n) with
      | false =>
        rw [if_neg fun h => by have := h _ (List.getElem_mem hip); unfold isSetB at this; rw [h2, Bool.false_and] at this; cases this]
        rfl
      | true =>
        rw [Bool.not_true, cond_false]
        have hset : isSetB n p.1[i] = true := by unfold isSetB; rw [h1, h2]; rfl
        have hle : ∀ a, leP p a i = decide ((a : Int) ∈ p.1[i]) := by intro a; unfold leP; simp [hip]
        have hform := vaoo hset
        have hS : ∀ a, a ∈ fl n (fun x => decide ((x : Int) ∈ p.1[i])) ↔ a < n ∧ leP p a i = true := by
          intro a; rw [fl_mem, hle]
        generalize fl n (fun x => decide ((x : Int) ∈ p.1[i])) = S at hform hS
        rw [hform, cs_len]
        refine vbko S.length (fun k o => o = mkT n fun a b => if b < i then leP p a b else decide (b = i ∧ a ∈ S.take k)) ?_ ?_ ?_ 0 (by omega) _ ?_
        · have := congrArg List.length hform
          rw [cs_len] at this
          have := hx _ (List.getElem_mem hip)
          omega
        · intro rc2 k o2 hk hv3 ih2
          have hkn : S[k] < n := ((hS _).1 (List.getElem_mem hk)).1
          have hkS : S.length ≤ 4294967296 := by have := congrArg List.length hform; rw [cs_len] at this; omega
          unfold vja
          simp only [cdt (show (k : Int) < (S.length : Int) by omega), ver hk, Option.bind_some, hv3, vag hkn, Int.toNat_natCast, vco hkn, vag hi, vco hi, wr1 (show k ≤ 4611686018427387904 by omega)]
          refine ih2 _ ?_
          rw [vazp]
          refine vas fun a b _ _ => ?_
          by_cases hb : b < i
          · rw [if_pos hb, if_pos hb, if_neg (by omega)]
          · rw [if_neg hb, if_neg hb]
            simp only [vwo hk]
            by_cases hbi : b = i
            · by_cases ha : a = S[k]
              · simp [hbi, ha]
              · simp [hbi, ha]
            · simp [hbi]
        · intro rc2 o2 hv3
          unfold vja
          rw [cdf (by omega), vdt, wr1 (by omega)]
          refine ih _ ⟨fun j hj hjp => ?_, ?_⟩
          · rcases Nat.lt_or_ge j i with h | h
            · exact hv1 j h hjp
            · have : j = i := by omega
              subst this; exact hset
          · rw [hv3]
            refine vas fun a b ha _ => ?_
            by_cases hb : b < i
            · rw [if_pos hb]; simp [show b < i + 1 by omega]
            · rw [if_neg hb, List.take_length]
              by_cases hbi : b = i
              · subst hbi
                rw [decide_eq_true (show b < b + 1 by omega), Bool.true_and]
                cases h : leP p a b with
                | true => exact decide_eq_true ⟨rfl, (hS a).2 ⟨ha, h⟩⟩
                | false => exact decide_eq_false fun h3 => by rw [((hS a).1 h3.2).2] at h; cases h
              · simp [hbi, show ¬ b < i + 1 by omega]
        · rw [hv2]
          refine vas fun a b _ _ => ?_
          by_cases hb : b < i
          · simp [hb]
          · simp [hb]
  · intro rc o hv
    obtain ⟨hv1, hv2⟩ := hv
    unfold vpx
    have ho : o = mkT n (leP p) := by rw [hv2]; exact vas fun a b _ hb => by simp [hb]
    rw [cdf (by omega), vcv, ho, vbaq (by omega), Option.bind_some, if_pos]
    intro r hr
    obtain ⟨j, hj, e⟩ := List.getElem_of_mem hr
    exact e ▸ hv1 j (by omega) hj
theorem vavm (p : PT) (hl : ¬ p.1.length ≤ 10) : zz26 big p = some (([], false, ()), ()) := by
  unfold zz26 vagg
  rw [cdt (by omega)]
theorem vbab (p : PT) (hx : ∀ r ∈ p.1, r.length ≤ 4294967296) (h : ¬ Good p) : ∃ T, zz26 big p = some ((T, false, ()), ()) := by
  by_cases hl : p.1.length ≤ 10
  · rw [vadz p hl hx]
    by_cases hr : ∀ r ∈ p.1, isSetB p.1.length r = true
    · rw [if_pos hr, tv_f fun ho => h ⟨hl, hr, ho⟩]
      exact ⟨_, rfl⟩
    · rw [if_neg hr]
      exact ⟨_, rfl⟩
  · exact ⟨_, vavm p hl⟩
theorem vaah {n : Nat} {le : Nat → Nat → Bool} (hn : n ≤ 10) (ho : Ord n le) : zz26 big (pos n le) = some ((mkT n le, true, ()), ()) := by
  have e : ∀ x y, x < n → y < n → leP (pos n le) x y = le x y := fun x y hx hy => vazm hx hy
  rw [vadz _ (by rw [vai]; exact hn) ?_, if_pos (vapo n le), vai, tv_t (ho.congr fun x y hx hy => (e x y hx hy).symm)]
  · congr 3
    exact vas fun x y hx hy => e x y hx hy
  · intro r hr
    obtain ⟨i, _, h⟩ := mkR_mem.1 hr
    rw [← h, cs_len]
    have := vao n fun x => le x i
    omega
theorem vts {n x : Nat} {le : Nat → Nat → Bool} (hx : x < n) : atI (pos n le).1 (x : Int) = some (cs (fl n fun a => le a x)) := vag hx
theorem vcq {n x y : Nat} {le : Nat → Nat → Bool} (hn : n ≤ 4294967296) (hx : x < n) (hy : y < n) : zz15 (pos n le) (x : Int) (y : Int) = some (le x y, ()) := by
  unfold zz15 vbei
  have := vao n fun a => le a y
  rw [vts hy, Option.bind_some, vaqv _ _ (by omega), Option.bind_some]
  congr 2
  rw [Bool.eq_iff_iff, decide_eq_true_eq, fl_mem]
  simp [hx]
theorem vanw {n : Nat} {P Q : Nat → Bool} (hn : n ≤ 4294967296) : zz48 big (cs (fl n P)) (cs (fl n Q)) = some (tv (∀ x, x < n → P x = true → Q x = true), ()) := by
  have h1 := vao n P
  have h2 := vao n Q
  rw [vaxc _ _ (by rw [cs_len]; omega) (by rw [cs_len]; omega)]
  congr 2
  refine vvz ⟨fun h x hx hp => ?_, fun h x hx => ?_⟩
  · exact (fl_mem.1 (cs_mem.1 (h _ (cs_mem.2 (fl_mem.2 ⟨hx, hp⟩))))).2
  · unfold cs at hx
    obtain ⟨y, hy, e⟩ := List.mem_map.1 hx
    have := fl_mem.1 hy
    rw [← e]
    exact cs_mem.2 (fl_mem.2 ⟨this.1, h y this.1 this.2⟩)
theorem vast (p : PT) (hx : ∀ r ∈ p.1, r.length ≤ 4294967296) : zz49 big p = some (tv (Good p), ()) := by
  unfold zz49 vaui
  by_cases hl : p.1.length ≤ 10
  · generalize hn : p.1.length = n
    rw [cdf (by omega)]
    refine vboo n (fun i => ∀ j, j < i → ∀ (h : j < p.1.length), isSetB n p.1[j] = true ∧ leP p j j = true) (by omega) ?_ ?_ 0 (by omega) (by intro j hj; omega)
    · intro rc i hi hv ih
      have hip : i < p.1.length := by omega
      have hrow := hx _ (List.getElem_mem hip)
      have hle : ∀ a, leP p a i = decide ((a : Int) ∈ p.1[i]) := by intro a; unfold leP; simp [hip]
      unfold vno
      rw [cdt (by omega), vak _ i hip, Option.bind_some, wr (by omega) (by omega), vaos n _ (by omega) (by omega), Option.bind_some]
      cases h1 : isSetB n p.1[i] with
      | false =>
        rw [tv_f fun h => by have := h.rows _ (List.getElem_mem hip); rw [hn, h1] at this; cases this]
        rfl
      | true =>
        rw [Bool.not_true, cond_false, Option.bind_some, vvu _ _ hrow, Option.bind_some, ← hle]
        cases h2 : leP p i i with
        | false =>
          rw [tv_f fun h => by have := h.ord.refl i hip; rw [h2] at this; cases this]
          rfl
        | true =>
          rw [Bool.not_true, cond_false, wr1 (by omega)]
          refine ih fun j hj hjp => ?_
          rcases Nat.lt_or_ge j i with h | h
          · exact hv j h hjp
          · have : j = i := by omega
            subst this; exact ⟨h1, h2⟩
    · intro rc hv
      unfold vno
      rw [cdf (by omega), vig]
      have hrows : ∀ r ∈ p.1, isSetB p.1.length r = true := by
        intro r hr
        obtain ⟨j, hj, e⟩ := List.getElem_of_mem hr
        rw [hn]
        exact e ▸ (hv j (by omega) hj).1
      have hform := vaqn hrows
      have hrefl : ∀ x, x < n → leP p x x = true := fun x hxn => (hv x hxn (by omega)).2
      generalize leP p = le at hform hrefl
      rw [hn] at hform
      subst hform
      rw [vvz vbjz]
      refine vbjy n (fun i => ∀ x, x < i → ∀ y, y < n → le y x = true → (y ≠ x → le x y = false) ∧ ∀ z, z < n → le z y = true → le z x = true) (by omega) ?_ ?_ 0 (by omega) (by intro j hj; omega)
      · intro rc2 i hi hv2 ih2
        unfold vfn
        rw [cdt (by omega)]
        have hS : ∀ a, a ∈ fl n (fun a => le a i) ↔ a < n ∧ le a i = true := fun a => fl_mem
        have hSl := vao n fun a => le a i
        refine vbjs (fl n fun a => le a i).length (fun k => ∀ y ∈ (fl n fun a => le a i).take k, (y ≠ i → le i y = false) ∧ ∀ z, z < n → le z y = true → le z i = true) (by omega) ?_ ?_ 0 (by omega) (by simp)
        · intro rc3 k hk hv3 ih3
          have hk2 := (hS _).1 (List.getElem_mem hk)
          have hk3 := ver hk
          have hk4 : ∀ {P : Nat → Prop}, (∀ y ∈ (fl n fun a => le a i).take (k + 1), P y) ↔ _ := vca hk
          unfold vju
          generalize (fl n fun a => le a i)[k] = y at hk2 hk3 hk4
          have hkl := vao n fun a => le a y
          simp only [vts hi, Option.bind_some, cs_len, cdt (show (k : Int) < ((fl n fun a => le a i).length : Int) by omega), hk3, vts hk2.1, vaqv (fl n fun a => le a y) i (by omega), vanw (P := fun a => le a y) (Q := fun a => le a i) (show n ≤ 4294967296 by omega), wr1 (show k ≤ 4611686018427387904 by omega)]
          have e1 : decide (i ∈ fl n fun a => le a y) = le i y := by
            rw [Bool.eq_iff_iff, decide_eq_true_eq, fl_mem]; simp [hi]
          rw [e1]
          have key : (y ≠ i → le i y = false) → cond (!tv (∀ x, x < n → le x y = true → le x i = true)) (some (false, ())) (rc3 (pos n le) (n : Int) (i : Int) ((k + 1 : Nat) : Int)) = some (tv (n ≤ 10 ∧ Ord n le), ()) := by
            intro h1
            by_cases h2 : ∀ x, x < n → le x y = true → le x i = true
            · rw [tv_t h2]
              exact ih3 (hk4.2 ⟨hv3, h1, h2⟩)
            · rw [tv_f h2, tv_f fun h => h2 fun x hxn h3 => h.2.trans _ _ _ hxn hk2.1 hi h3 hk2.2]
              rfl
          by_cases h1 : y = i
          · rw [cdf (by omega)]
            exact key fun h => absurd h1 h
          · rw [cdt (by omega)]
            cases h2 : le i y with
            | true =>
              rw [tv_f (P := n ≤ 10 ∧ Ord n le) fun h => by rw [h.2.anti _ _ hk2.1 hi h1 hk2.2] at h2; cases h2]
              rfl
            | false =>
              rw [cond_false]
              exact key fun _ => h2
        · intro rc3 hv3
          rw [List.take_length] at hv3
          unfold vju
          rw [vts hi, Option.bind_some, cs_len, cdf (by omega), vec, wr1 (by omega)]
          exact ih2 (all_lt_succ.2 ⟨hv2, fun y hy hyi => hv3 y ((hS y).2 ⟨hy, hyi⟩)⟩)
      · intro rc2 hv2
        unfold vfn
        rw [cdf (by omega), vbw, tv_t]
        refine ⟨by rw [vai] at hl; exact hl, fun x hx => hrefl x hx, fun x y hx hy hxy h => ((hv2 y hy x hx h).1 hxy), fun x y z hx hy hz h1 h2 => (hv2 z hz y hy h2).2 x hx h1⟩
  · rw [cdt (by omega), tv_f fun h => hl h.len]
abbrev du (le : Nat → Nat → Bool) : Nat → Nat → Bool := fun x y => le y x
def low (n : Nat) (le : Nat → Nat → Bool) (S : List Nat) : List Nat := fl n fun z => S.all fun s => le z s
def grt (le : Nat → Nat → Bool) (L : List Nat) : Int := match L.find? fun x => L.all fun y => le y x with
  | some x => (x : Int)
  | none => -1
def bnd (n : Nat) (le : Nat → Nat → Bool) (S : List Nat) : Int := grt le (low n le S)
structure IsGlb (n : Nat) (le : Nat → Nat → Bool) (S : List Nat) (m : Nat) : Prop where
  lt : m < n
  lo : ∀ s ∈ S, le m s = true
  gr : ∀ z, z < n → (∀ s ∈ S, le z s = true) → le z m = true
theorem low_mem {n : Nat} {le : Nat → Nat → Bool} {S : List Nat} {z : Nat} : z ∈ low n le S ↔ z < n ∧ ∀ s ∈ S, le z s = true := by
  unfold low
  rw [fl_mem, List.all_eq_true]
theorem vado {n : Nat} {le : Nat → Nat → Bool} {S : List Nat} (h : 0 ≤ bnd n le S) : IsGlb n le S (bnd n le S).toNat := by
  unfold bnd grt at *
  cases hf : (low n le S).find? fun x => (low n le S).all fun y => le y x with
  | none => rw [hf] at h; exact absurd h (by decide)
  | some x =>
    have h1 := List.find?_some hf
    have h2 := low_mem.1 (List.mem_of_find?_eq_some hf)
    simp only [Int.toNat_natCast]
    exact ⟨h2.1, h2.2, fun z hz hs => List.all_eq_true.1 h1 z (low_mem.2 ⟨hz, hs⟩)⟩
theorem vbcn {n : Nat} {le : Nat → Nat → Bool} (ho : Ord n le) {S : List Nat} {m k : Nat} (h : IsGlb n le S m) (h2 : IsGlb n le S k) : m = k := by
  by_cases e : m = k
  · exact e
  · have h3 := h.gr k h2.lt h2.lo
    have h4 := h2.gr m h.lt h.lo
    have := ho.anti m k h.lt h2.lt e h4
    rw [this] at h3; cases h3
theorem vlj {n : Nat} {le : Nat → Nat → Bool} (ho : Ord n le) {S : List Nat} {m : Nat} (h : IsGlb n le S m) : bnd n le S = (m : Int) := by
  have h0 : 0 ≤ bnd n le S := by
    unfold bnd grt
    cases hf : (low n le S).find? fun x => (low n le S).all fun y => le y x with
    | none =>
      have := List.find?_eq_none.1 hf m (low_mem.2 ⟨h.lt, h.lo⟩)
      exact absurd (List.all_eq_true.2 fun y hy => h.gr y (low_mem.1 hy).1 (low_mem.1 hy).2) this
    | some x => simp
  have := vbcn ho (vado h0) h
  omega
theorem vavl {n : Nat} {le : Nat → Nat → Bool} {L : List Nat} (hL : ∀ x ∈ L, x < n) (hl : L.length ≤ 4294967296) : zz27 big (mkT n le) (cs L) = some (grt le L, ()) := by
  unfold zz27 vapx
  rw [cs_len]
  refine vbpe L.length (fun i => ∀ x ∈ L.take i, ¬ (L.all fun y => le y x) = true) (by omega) ?_ ?_ 0 (by omega) (by simp)
  · intro rc i hi hv ih
    have hx := hL _ (List.getElem_mem hi)
    have hh := @vapg _ L (fun x => L.all fun y => le y x) i hi hv
    have hn := fun h => ih ((vca hi).2 ⟨hv, h⟩)
    unfold vlx
    rw [cdt (by omega), ver hi, Option.bind_some, cs_len]
    generalize L[i] = x at hx hh hn
    refine vbpb L.length (fun k b => b = (L.take k).all fun y => le y x) (by omega) ?_ ?_ 0 (by omega) _ rfl
    · intro rc2 k b hk hb ih2
      have hy := hL _ (List.getElem_mem hk)
      have ht := @vasv _ L k hk fun y => le y x
      have ha := ver hk
      unfold voa
      rw [cdt (by omega), ha, Option.bind_some, wr1 (by omega)]
      generalize L[k] = y at hy ht
      cases b with
      | false => exact ih2 _ (by rw [ht, ← hb]; rfl)
      | true =>
        rw [cond_true, vag hy, Option.bind_some, vag hx, Option.bind_some]
        exact ih2 _ (by rw [ht, ← hb]; rfl)
    · intro rc2 b hb
      rw [List.take_length] at hb
      unfold voa
      rw [cdf (by omega), vgb, hb]
      cases h : L.all fun y => le y x with
      | true =>
        rw [cond_true]
        unfold grt
        rw [hh h]
      | false =>
        rw [cond_false, wr1 (by omega)]
        exact hn (by rw [h]; simp)
  · intro rc hv
    rw [List.take_length] at hv
    unfold vlx
    rw [cdf (by omega), vdh]
    unfold grt
    rw [List.find?_eq_none.2 hv]
theorem low2 {n : Nat} {le : Nat → Nat → Bool} {x y : Nat} : low n le [x, y] = fl n fun z => le z x && le z y := by
  unfold low
  congr 1; funext z; simp
theorem vbao {n : Nat} {le : Nat → Nat → Bool} (hn : n ≤ 1048576) {x y : Nat} (hx : x < n) (hy : y < n) : zz29 big (mkT n le) (mkT n le, (x : Int), (y : Int), ()) = some (cs (low n le [x, y]), ()) := by
  unfold zz29 vatc
  rw [mkR_len, low2]
  refine vbno n (fun i l => l = cs (fl i fun z => le z x && le z y)) (by omega) ?_ ?_ 0 (by omega) _ rfl
  · intro rc i l hi hv ih
    have hl := vao i fun z => le z x && le z y
    unfold vmg zz28 vbeo
    simp only [cdt (show (i : Int) < (n : Int) by omega), vag hi, vag hx, vag hy, Option.bind_some, wr1 (show i ≤ 4611686018427387904 by omega)]
    cases h1 : le i x with
    | false => exact ih _ (by rw [hv]; exact fl_f (P := fun z => le z x && le z y) (by simp [h1]))
    | true =>
      simp only [cond_true, Option.bind_some]
      cases h2 : le i y with
      | false => exact ih _ (by rw [hv]; exact fl_f (P := fun z => le z x && le z y) (by simp [h1, h2]))
      | true =>
        rw [cond_true, app1 (by rw [hv, cs_len]; omega), Option.bind_some]
        exact ih _ (by rw [hv]; exact fl_t (P := fun z => le z x && le z y) (by simp [h1, h2]))
  · intro rc l hv
    unfold vmg
    rw [cdf (by omega), vjl, hv]
theorem vbfh {n : Nat} {le : Nat → Nat → Bool} {S : List Nat} : ∀ x ∈ low n le S, x < n := fun x hx => (low_mem.1 hx).1
theorem vazv {n : Nat} {le : Nat → Nat → Bool} {S : List Nat} : (low n le S).length ≤ n := vao _ _
theorem vep {n : Nat} {le : Nat → Nat → Bool} (hn : n ≤ 1048576) : zz30 big (mkT n le) = some (@ite _ (∀ x y, x < n → y < n → 0 ≤ bnd n le [x, y]) (Classical.propDecidable _) (mkT n fun x y => bnd n le [x, y], true, ()) ([], false, ()), ()) := by
  unfold zz30 vauh
  rw [mkR_len]
  refine vbpl n (fun i t => t = (mkR i fun x => mkR n fun y => bnd n le [x, y]) ∧ ∀ x, x < i → ∀ y, y < n → 0 ≤ bnd n le [x, y]) (by omega) ?_ ?_ 0 (by omega) _ ⟨rfl, by intro x hx; omega⟩
  · intro rc i t hi hv ih
    unfold vlo
    rw [cdt (by omega), mkR_len]
    refine vbnt n (fun j r => r = (mkR j fun y => bnd n le [i, y]) ∧ ∀ y, y < j → 0 ≤ bnd n le [i, y]) (by omega) ?_ ?_ 0 (by omega) _ ⟨rfl, by intro x hx; omega⟩
    · intro rc2 j r hj hr ih2
      unfold vqd
      rw [cdt (by omega), vbao hn hi hj, Option.bind_some, vavl vbfh (by have := @vazv n le [i, j]; omega), Option.bind_some]
      show cond (decide (bnd n le [i, j] < 0)) _ ((appI r [bnd n le [i, j]]).bind _) = _
      by_cases h : 0 ≤ bnd n le [i, j]
      · rw [cdf (by omega), app1 (by rw [hr.1, mkR_len]; omega), Option.bind_some, wr1 (by omega)]
        exact ih2 _ ⟨by rw [hr.1]; exact (vvo j _).symm, all_lt_succ.2 ⟨hr.2, h⟩⟩
      · rw [cdt (by omega), if_neg fun h2 => h (h2 i j hi hj)]
    · intro rc2 r hr
      unfold vqd
      rw [cdf (by omega), vgi, app1 (by rw [hv.1, mkR_len]; omega), Option.bind_some, wr1 (by omega)]
      refine ih _ ⟨?_, all_lt_succ.2 ⟨hv.2, hr.2⟩⟩
      rw [hv.1, hr.1]
      exact (vvo i fun x => mkR n fun y => bnd n le [x, y]).symm
  · intro rc t hv
    unfold vlo
    rw [cdf (by omega), vdj, if_pos fun x y hx hy => hv.2 x hx y hy, hv.1]
theorem vazr {n : Nat} {le : Nat → Nat → Bool} (hn : n ≤ 1048576) : zz31 big (mkT n le) = some (mkT n (du le), ()) := by
  unfold zz31 vard
  rw [mkR_len, vaae (by omega), Option.bind_some]
  refine vbod n (fun i d => d = mkT n fun a b => decide (a < i) && le b a) (by omega) ?_ ?_ 0 (by omega) _ (vas fun a b _ _ => by simp)
  · intro rc i d hi hv ih
    unfold vmv
    rw [cdt (by omega), mkR_len]
    refine vbms n (fun j d => d = mkT n fun a b => (decide (a < i) || decide (a = i) && decide (b < j)) && le b a) (by omega) ?_ ?_ 0 (by omega) _ (by rw [hv]; exact vas fun a b _ _ => by simp)
    · intro rc2 j d2 hj hv2 ih2
      unfold vod
      generalize hf : (fun a b => (decide (a < i) || decide (a = i) && decide (b < j)) && le b a) = f at hv2
      simp only [cdt (show (j : Int) < (n : Int) by omega), hv2, vag hi, vco hi, Option.bind_some, vag hj, vco hj, Int.toNat_natCast, wr1 (show j ≤ 4611686018427387904 by omega)]
      refine ih2 _ ?_
      rw [vazp, ← hf]
      refine vas fun a b _ _ => ?_
      by_cases h1 : a = i
      · subst h1
        by_cases h2 : b = j
        · subst h2; simp
        · rw [if_neg fun h => h2 h.2, show decide (b < j + 1) = decide (b < j) from decide_eq_decide.2 (by omega)]
      · rw [if_neg fun h => h1 h.1]; simp [h1]
    · intro rc2 d2 hv2
      unfold vod
      rw [cdf (by omega), vgj, wr1 (by omega)]
      refine ih _ ?_
      rw [hv2]
      refine vas fun a b _ hb => ?_
      congr 1
      rw [decide_eq_true hb, Bool.and_true, ← Bool.decide_or]
      exact decide_eq_decide.2 (by omega)
  · intro rc d hv
    unfold vmv
    rw [cdf (by omega), vdg, hv]
    congr 2
    exact vas fun a b ha _ => by simp [ha]
structure Lat (n : Nat) (le : Nat → Nat → Bool) : Prop where
  ne : 0 < n
  meet : ∀ x y, x < n → y < n → 0 ≤ bnd n le [x, y]
  join : ∀ x y, x < n → y < n → 0 ≤ bnd n (du le) [x, y]
def mt (n : Nat) (le : Nat → Nat → Bool) (x y : Nat) : Nat := (bnd n le [x, y]).toNat
def gb (n : Nat) (le : Nat → Nat → Bool) (S : List Nat) : Nat := (bnd n le S).toNat
def lat (n : Nat) (le : Nat → Nat → Bool) : List (List Bool) × List (List Int) × List (List Int) × Unit :=
  (mkT n le, mkT n (fun x y => ((mt n le x y : Nat) : Int)), mkT n (fun x y => ((mt n (du le) x y : Nat) : Int)), ())
structure LatP (n : Nat) (le : Nat → Nat → Bool) : Prop where
  le10 : n ≤ 10
  ord : Ord n le
  lat : Lat n le
theorem vaz {n : Nat} {le : Nat → Nat → Bool} (h : LatP n le) : zz32 (pos n le) = some ((some (lat n le), true, ()), ()) := by
  have h10 := h.le10
  have h0 := h.lat.ne
  unfold zz32 vaff
  simp only [vaah h.le10 h.ord, Option.bind_some, Bool.not_true, cond_false, mkR_len, cdf (show ¬ ((n : Int) = 0) by omega), vep (le := le) (show n ≤ 1048576 by omega), vazr (le := le) (show n ≤ 1048576 by omega), vep (le := du le) (show n ≤ 1048576 by omega)]
  rw [if_pos h.lat.meet, if_pos h.lat.join]
  simp only [cond_true]
  have e1 : (mkT n fun x y => bnd n le [x, y]) = mkT n fun x y => ((mt n le x y : Nat) : Int) := vas fun x y hx hy => by
    have := h.lat.meet x y hx hy
    unfold mt; omega
  have e2 : (mkT n fun x y => bnd n (du le) [x, y]) = mkT n fun x y => ((mt n (du le) x y : Nat) : Int) := vas fun x y hx hy => by
    have := h.lat.join x y hx hy
    unfold mt; omega
  rw [e1, e2]
  rfl
theorem vaqh {p : PT} (hx : ∀ r ∈ p.1, r.length ≤ 4294967296) (h : ¬ (Good p ∧ Lat p.1.length (leP p))) : ∃ l, zz32 p = some ((l, false, ()), ()) := by
  by_cases hg : Good p
  · have hf := hg.form
    have ho := hg.ord
    have h10 := hg.len
    replace h : ¬ Lat p.1.length (leP p) := fun hl => h ⟨hg, hl⟩
    generalize p.1.length = n at *
    generalize leP p = le at *
    subst hf
    unfold zz32 vaff
    simp only [vaah h10 ho, Option.bind_some, Bool.not_true, cond_false, mkR_len, vep (le := le) (show n ≤ 1048576 by omega), vazr (le := le) (show n ≤ 1048576 by omega), vep (le := du le) (show n ≤ 1048576 by omega)]
    by_cases h0 : n = 0
    · rw [cdt (by omega)]
      exact ⟨_, rfl⟩
    · rw [cdf (by omega)]
      by_cases h1 : ∀ x y, x < n → y < n → 0 ≤ bnd n le [x, y]
      · rw [if_pos h1]
        by_cases h2 : ∀ x y, x < n → y < n → 0 ≤ bnd n (du le) [x, y]
        · exact absurd ⟨by omega, h1, h2⟩ h
        · rw [if_neg h2]
          exact ⟨_, rfl⟩
      · rw [if_neg h1]
        exact ⟨_, rfl⟩
  · obtain ⟨T, hT⟩ := vbab p hx hg
    unfold zz32 vaff
    rw [hT, Option.bind_some]
    exact ⟨_, rfl⟩
theorem vra {n : Nat} {le : Nat → Nat → Bool} (hn : n ≤ 1048576) : zz50 big (pos n le) = some (pos n (du le), ()) := by
  unfold zz50 vaut
  refine vbnn n (fun i o => o.1 = mkR i fun y => cs (fl n fun x => le y x)) (by omega) ?_ ?_ 0 (by omega) _ rfl
  · intro rc i o hi hv ih
    unfold vok
    rw [vai, cdt (by omega)]
    refine vbnb n (fun j l => l = cs (fl j fun x => le i x)) (by omega) ?_ ?_ 0 (by omega) _ rfl
    · intro rc2 j l hj hl ih2
      have hlen := vao j fun x => le i x
      unfold vqe
      rw [vai, cdt (by omega), vcq (by omega) hi hj, Option.bind_some, wr1 (by omega)]
      cases h : le i j with
      | true =>
        rw [cond_true, app1 (by rw [hl, cs_len]; omega), Option.bind_some]
        exact ih2 _ (by rw [hl]; exact fl_t (P := fun x => le i x) h)
      | false => exact ih2 _ (by rw [hl]; exact fl_f (P := fun x => le i x) h)
    · intro rc2 l hl
      unfold vqe
      rw [vai, cdf (by omega), vho, app1 (by rw [hv, mkR_len]; omega), Option.bind_some, wr1 (by omega)]
      exact ih _ (by rw [hl]; show o.1 ++ _ = _; rw [hv]; exact (vvo i fun y => cs (fl n fun x => le y x)).symm)
  · intro rc o hv
    unfold vok
    rw [vai, cdf (by omega), vdd]
    unfold pos
    congr 2
    exact Prod.ext hv rfl
theorem vcb {n : Nat} {le : Nat → Nat → Bool} (hn : n ≤ 1048576) {S : List Nat} (hS : ∀ s ∈ S, s < n) (hSl : S.length ≤ 4294967296) : zz51 big (pos n le) (cs S) = some (bnd n le S, ()) := by
  unfold zz51 vaqw
  refine vbnx n (fun i l => l = cs (fl i fun z => S.all fun s => le z s)) (by omega) ?_ ?_ 0 (by omega) _ rfl
  · intro rc i l hi hv ih
    have hlen := vao i fun z => S.all fun s => le z s
    unfold vmr
    rw [vai, cdt (by omega)]
    refine vbos S.length (fun k b => b = (S.take k).all fun s => le i s) (by omega) ?_ ?_ 0 (by omega) _ rfl
    · intro rc2 k b hk hb ih2
      have hs := hS _ (List.getElem_mem hk)
      have ht := @vasv _ S k hk fun s => le i s
      have ha := ver hk
      unfold vqh
      rw [cs_len, cdt (by omega), ha, Option.bind_some, wr1 (by omega)]
      generalize S[k] = s at hs ht
      rw [vcq (by omega) hi hs, Option.bind_some]
      cases b with
      | true => exact ih2 _ (by rw [ht, ← hb]; rfl)
      | false => exact ih2 _ (by rw [ht, ← hb]; rfl)
    · intro rc2 b hb
      rw [List.take_length] at hb
      unfold vqh
      rw [cs_len, cdf (by omega), vgw, wr1 (by omega)]
      cases b with
      | true =>
        rw [cond_true, app1 (by rw [hv, cs_len]; omega), Option.bind_some]
        exact ih _ (by rw [hv]; exact fl_t (P := fun z => S.all fun s => le z s) hb.symm)
      | false => exact ih _ (by rw [hv]; exact fl_f (P := fun z => S.all fun s => le z s) hb.symm)
  · intro rc l hv
    unfold vmr
    rw [vai, cdf (by omega), vda]
    replace hv : l = cs (low n le S) := hv
    rw [hv]
    have hll := @vazv n le S
    unfold bnd
    have hlt := @vbfh n le S
    have hfl : low n le S = fl n fun z => S.all fun s => le z s := rfl
    have hw : ∀ x, x < n → zz48 big (cs (low n le S)) (cs (fl n fun a => le a x)) = some ((low n le S).all fun y => le y x, ()) := by
      intro x hx
      rw [hfl, vanw (by omega), ← hfl]
      congr 2
      exact vxz (by rw [List.all_eq_true]; exact ⟨fun h y hy hp => h y (fl_mem.2 ⟨hy, hp⟩), fun h y hy => h y (fl_mem.1 hy).1 (fl_mem.1 hy).2⟩)
    generalize low n le S = L at *
    refine vbls L.length (fun i => ∀ x ∈ L.take i, ¬ (L.all fun y => le y x) = true) (by omega) ?_ ?_ 0 (by omega) (by simp)
    · intro rc2 i hi hv2 ih2
      have hx := hlt _ (List.getElem_mem hi)
      have hh := @vapg _ L (fun x => L.all fun y => le y x) i hi hv2
      have hn2 := fun h => ih2 ((vca hi).2 ⟨hv2, h⟩)
      have ha := ver hi
      have hg := vaeg hi
      unfold vkk
      simp only [cs_len, cdt (show (i : Int) < (L.length : Int) by omega), ha, Option.bind_some, Int.toNat_natCast, hg, wr1 (show i ≤ 4611686018427387904 by omega)]
      generalize L[i] = x at hx hh hn2
      rw [vts hx, Option.bind_some, hw x hx, Option.bind_some]
      cases h : L.all fun y => le y x with
      | true =>
        rw [cond_true]
        unfold grt
        rw [hh h]
      | false =>
        rw [cond_false]
        exact hn2 (by rw [h]; simp)
    · intro rc2 hv2
      rw [List.take_length] at hv2
      unfold vkk
      rw [cs_len, cdf (by omega), vef]
      unfold grt
      rw [List.find?_eq_none.2 hv2]
theorem vwf {n : Nat} {le : Nat → Nat → Bool} (x y : Nat) : bnd n le [x, y] = bnd n le [y, x] := by
  unfold bnd
  congr 1
  unfold low
  congr 1; funext z; simp [Bool.and_comm]
theorem Ord.du {n : Nat} {le : Nat → Nat → Bool} (h : Ord n le) : Ord n (du le) where
  refl := h.refl
  anti x y hx hy hxy h1 := by
    have h3 : le y x = true := h1
    show le x y = false
    by_cases h2 : le x y = true
    · rw [h.anti x y hx hy hxy h2] at h3; cases h3
    · simpa using h2
  trans x y z hx hy hz h1 h2 := h.trans z y x hz hy hx h2 h1
theorem vasm {n : Nat} {le : Nat → Nat → Bool} (ho : Ord n le) {x : Nat} (hx : x < n) : bnd n le [x, x] = (x : Int) :=
  vlj ho ⟨hx, by simp [ho.refl x hx], fun z _ h => h x (by simp)⟩
theorem vanl (p : PT) (hx : ∀ r ∈ p.1, r.length ≤ 4294967296) : zz52 big p = some (tv (Good p ∧ Lat p.1.length (leP p)), ()) := by
  unfold zz52 vapi
  rw [vast p hx, Option.bind_some]
  by_cases hg : Good p
  · rw [tv_t hg]
    have e : (Good p ∧ Lat p.1.length (leP p)) ↔ Lat p.1.length (leP p) := ⟨fun h => h.2, fun h => ⟨hg, h⟩⟩
    rw [vvz e, Bool.not_true, cond_false]
    have hf := hg.form
    have ho := hg.ord
    have h10 := hg.len
    clear e hg hx
    generalize p.1.length = n at *
    generalize leP p = le at *
    subst hf
    by_cases h0 : n = 0
    · rw [cdt (by omega), tv_f fun h => by have := h.ne; omega]
    · rw [cdf (by omega), vra (by omega), Option.bind_some]
      have key : ∀ x y, x < n → y < n → (0 ≤ bnd n le [x, y] ↔ 0 ≤ bnd n le [y, x]) := fun x y _ _ => by rw [vwf]
      refine vboc n (fun i => ∀ x, x < i → ∀ y, y < x → 0 ≤ bnd n le [x, y] ∧ 0 ≤ bnd n (du le) [x, y]) (by omega) ?_ ?_ 0 (by omega) (by intro x hx; omega)
      · intro rc i hi hv ih
        unfold voh
        rw [vai, cdt (by omega)]
        refine vbot i (fun j => ∀ y, y < j → 0 ≤ bnd n le [i, y] ∧ 0 ≤ bnd n (du le) [i, y]) (by omega) ?_ ?_ 0 (by omega) (by intro x hx; omega)
        · intro rc2 j hj hv2 ih2
          unfold vos
          have e : ([(i : Int), (j : Int)] : List Int) = cs [i, j] := rfl
          have hS : ∀ s ∈ [i, j], s < n := by intro s hs; simp at hs; omega
          rw [cdt (by omega), e, vcb (by omega) hS (by simp), Option.bind_some, vcb (le := du le) (by omega) hS (by simp), Option.bind_some]
          by_cases h1 : 0 ≤ bnd n le [i, j]
          · rw [cdf (by omega)]
            by_cases h2 : 0 ≤ bnd n (du le) [i, j]
            · rw [cdf (by omega), wr1 (by omega)]
              exact ih2 (all_lt_succ.2 ⟨hv2, h1, h2⟩)
            · rw [cdt (by omega), tv_f fun h => h2 (h.join i j hi (by omega))]
          · rw [cdt (by omega), tv_f fun h => h1 (h.meet i j hi (by omega))]
        · intro rc2 hv2
          unfold vos
          rw [cdf (by omega), vfr, wr1 (by omega)]
          exact ih (all_lt_succ.2 ⟨hv, hv2⟩)
      · intro rc hv
        unfold voh
        rw [vai, cdf (by omega), vdi, tv_t]
        refine ⟨by omega, fun x y hx hy => ?_, fun x y hx hy => ?_⟩
        · rcases Nat.lt_trichotomy x y with h | h | h
          · rw [vwf]; exact (hv y hy x h).1
          · subst h; rw [vasm ho hx]; omega
          · exact (hv x hx y h).1
        · rcases Nat.lt_trichotomy x y with h | h | h
          · rw [vwf]; exact (hv y hy x h).2
          · subst h; rw [vasm ho.du hx]; omega
          · exact (hv x hx y h).2
  · rw [tv_f hg, tv_f fun h => hg h.1]
    rfl
theorem vkw {p : PT} (hx : ∀ r ∈ p.1, r.length ≤ 4294967296) : (∃ n le, p = pos n le ∧ LatP n le ∧ zz52 big p = some (true, ()) ∧ zz32 p = some ((some (lat n le), true, ()), ())) ∨
    (zz52 big p = some (false, ()) ∧ ∃ l, zz32 p = some ((l, false, ()), ())) := by
  by_cases h : Good p ∧ Lat p.1.length (leP p)
  · have hl : LatP p.1.length (leP p) := ⟨h.1.len, h.1.ord, h.2⟩
    refine .inl ⟨p.1.length, leP p, h.1.form, hl, by rw [vanl p hx, tv_t h], ?_⟩
    have := vaz hl
    rw [← h.1.form] at this
    exact this
  · exact .inr ⟨by rw [vanl p hx, tv_f h], vaqh hx h⟩
theorem vck {n : Nat} {o : List (List Bool)} (ho : o.length = n) (hn : n ≤ 1048576) {c : ((Option ((List (List Bool)) × ((List (List Int)) × ((List (List Int)) × Unit)))) × (Int × (Int × Unit)))} {P : Nat → Bool} (h : ∀ i, i < n → zz73 (i : Int) c.1 c.2.1 c.2.2.1 = some (P i, ())) : zz74 big o c = some (cs (fl n P), ()) := by
  unfold zz74 vatw
  rw [ho]
  refine vbow n (fun i l => l = cs (fl i P)) (by omega) ?_ ?_ 0 (by omega) _ rfl
  · intro rc i l hi hv ih
    have hl := vao i P
    unfold vqj
    rw [cdt (by omega), h i hi, Option.bind_some, wr1 (by omega)]
    cases hp : P i with
    | true => rw [cond_true, app1 (by rw [hv, cs_len]; omega), Option.bind_some]; exact ih _ (by rw [hv]; exact fl_t hp)
    | false => exact ih _ (by rw [hv]; exact fl_f hp)
  · intro rc l hv
    unfold vqj
    rw [cdf (by omega), vgu, hv]
theorem vem {n : Nat} {o : List (List Bool)} (ho : o.length = n) (hn : n ≤ 1048576) {c : ((Option ((List (List Bool)) × ((List (List Int)) × ((List (List Int)) × Unit)))) × Unit)} {P : Nat → Bool} (h : ∀ i, i < n → zz68 (i : Int) c.1 = some (P i, ())) : zz69 big o c = some (cs (fl n P), ()) := by
  unfold zz69 vaqc
  rw [ho]
  refine vbmx n (fun i l => l = cs (fl i P)) (by omega) ?_ ?_ 0 (by omega) _ rfl
  · intro rc i l hi hv ih
    have hl := vao i P
    unfold vof
    rw [cdt (by omega), h i hi, Option.bind_some, wr1 (by omega)]
    cases hp : P i with
    | true => rw [cond_true, app1 (by rw [hv, cs_len]; omega), Option.bind_some]; exact ih _ (by rw [hv]; exact fl_t hp)
    | false => exact ih _ (by rw [hv]; exact fl_f hp)
  · intro rc l hv
    unfold vof
    rw [cdf (by omega), vgd, hv]
theorem vdk {n : Nat} {o : List (List Bool)} (ho : o.length = n) (hn : n ≤ 1048576) {c : ((Option ((List (List Bool)) × ((List (List Int)) × ((List (List Int)) × Unit)))) × Unit)} {P : Nat → Bool} (h : ∀ i, i < n → zz42 big c.1 (i : Int) = some (P i, ())) : zz43 big o c = some (cs (fl n P), ()) := by
  unfold zz43 vaqk
  rw [ho]
  refine vbpc n (fun i l => l = cs (fl i P)) (by omega) ?_ ?_ 0 (by omega) _ rfl
  · intro rc i l hi hv ih
    have hl := vao i P
    unfold vmx
    rw [cdt (by omega), h i hi, Option.bind_some, wr1 (by omega)]
    cases hp : P i with
    | true => rw [cond_true, app1 (by rw [hv, cs_len]; omega), Option.bind_some]; exact ih _ (by rw [hv]; exact fl_t hp)
    | false => exact ih _ (by rw [hv]; exact fl_f hp)
  · intro rc l hv
    unfold vmx
    rw [cdf (by omega), vex, hv]
theorem vky {n : Nat} {o : List (List Bool)} (ho : o.length = n) (hn : n ≤ 1048576) {c : ((Option ((List (List Bool)) × ((List (List Int)) × ((List (List Int)) × Unit)))) × (Int × (Int × Unit)))} {P : Nat → Bool} (h : ∀ i, i < n → zz39 (i : Int) c.1 c.2.1 c.2.2.1 = some (P i, ())) : zz40 big o c = some (cs (fl n P), ()) := by
  unfold zz40 vaqg
  rw [ho]
  refine vbna n (fun i l => l = cs (fl i P)) (by omega) ?_ ?_ 0 (by omega) _ rfl
  · intro rc i l hi hv ih
    have hl := vao i P
    unfold vll
    rw [cdt (by omega), h i hi, Option.bind_some, wr1 (by omega)]
    cases hp : P i with
    | true => rw [cond_true, app1 (by rw [hv, cs_len]; omega), Option.bind_some]; exact ih _ (by rw [hv]; exact fl_t hp)
    | false => exact ih _ (by rw [hv]; exact fl_f hp)
  · intro rc l hv
    unfold vll
    rw [cdf (by omega), vjk, hv]
theorem ven {n : Nat} {o : List (List Bool)} (ho : o.length = n) (hn : n ≤ 1048576) {c : ((Option ((List (List Bool)) × ((List (List Int)) × ((List (List Int)) × Unit)))) × Unit)} {P : Nat → Bool} (h : ∀ i, i < n → zz61 (i : Int) c.1 = some (P i, ())) : zz62 big o c = some (cs (fl n P), ()) := by
  unfold zz62 varl
  rw [ho]
  refine vbni n (fun i l => l = cs (fl i P)) (by omega) ?_ ?_ 0 (by omega) _ rfl
  · intro rc i l hi hv ih
    have hl := vao i P
    unfold vph
    rw [cdt (by omega), h i hi, Option.bind_some, wr1 (by omega)]
    cases hp : P i with
    | true => rw [cond_true, app1 (by rw [hv, cs_len]; omega), Option.bind_some]; exact ih _ (by rw [hv]; exact fl_t hp)
    | false => exact ih _ (by rw [hv]; exact fl_f hp)
  · intro rc l hv
    unfold vph
    rw [cdf (by omega), vjv, hv]
theorem vle {n : Nat} {o : List (List Bool)} (ho : o.length = n) (hn : n ≤ 1048576) {c : ((Option ((List (List Bool)) × ((List (List Int)) × ((List (List Int)) × Unit)))) × (Int × (Int × (Int × Unit))))} {P : Nat → Bool} (h : ∀ i, i < n → zz35 (i : Int) c.1 c.2.1 c.2.2.1 c.2.2.2.1 = some (P i, ())) : zz36 big o c = some (cs (fl n P), ()) := by
  unfold zz36 vapp
  rw [ho]
  refine vbph n (fun i l => l = cs (fl i P)) (by omega) ?_ ?_ 0 (by omega) _ rfl
  · intro rc i l hi hv ih
    have hl := vao i P
    unfold vml
    rw [cdt (by omega), h i hi, Option.bind_some, wr1 (by omega)]
    cases hp : P i with
    | true => rw [cond_true, app1 (by rw [hv, cs_len]; omega), Option.bind_some]; exact ih _ (by rw [hv]; exact fl_t hp)
    | false => exact ih _ (by rw [hv]; exact fl_f hp)
  · intro rc l hv
    unfold vml
    rw [cdf (by omega), vhd, hv]
def SmallP (p : PT) : Prop := p.1.length ≤ 1048576 ∧ ∀ r ∈ p.1, r.length ≤ 1048576
theorem SmallP.rows {p : PT} (h : SmallP p) : ∀ r ∈ p.1, r.length ≤ 4294967296 := fun r hr => by have := h.2 r hr; omega
theorem vapf {n : Nat} {le : Nat → Nat → Bool} (s : List Int) (h : s.length ≤ 4294967296) : zz88 (mkT n le) s = some (s.all (inB n), ()) := by
  unfold zz88 vbfq
  rw [mkR_len, vank n s (by omega)]; rfl
theorem vrq {n : Nat} {le : Nat → Nat → Bool} (x : Int) : zz90 (pos n le) x = some (inB n x, ()) := by
  unfold zz90 vbfy inB
  rw [vai]
  by_cases h : 0 ≤ x
  · rw [cdt h]; simp [h]
  · rw [cdf h]; simp [h]
theorem vdq {n : Nat} {x : Int} (h : inB n x = true) : ∃ k : Nat, k < n ∧ x = (k : Int) := by
  unfold inB at h
  rw [decide_eq_true_eq] at h
  exact ⟨x.toNat, by omega, by omega⟩
theorem LatP.du {n : Nat} {le : Nat → Nat → Bool} (h : LatP n le) : LatP n (du le) := ⟨h.le10, Ord.du h.ord, h.lat.ne, h.lat.join, h.lat.meet⟩
theorem LatP.glb {n : Nat} {le : Nat → Nat → Bool} (h : LatP n le) {x y : Nat} (hx : x < n) (hy : y < n) : IsGlb n le [x, y] (mt n le x y) := vado (h.lat.meet x y hx hy)
theorem LatP.bnd2 {n : Nat} {le : Nat → Nat → Bool} (h : LatP n le) {x y : Nat} (hx : x < n) (hy : y < n) : bnd n le [x, y] = ((mt n le x y : Nat) : Int) := by
  have := h.lat.meet x y hx hy
  unfold mt; omega
theorem LatP.mlt {n : Nat} {le : Nat → Nat → Bool} (h : LatP n le) {x y : Nat} (hx : x < n) (hy : y < n) : mt n le x y < n := (h.glb hx hy).lt
theorem LatP.m1 {n : Nat} {le : Nat → Nat → Bool} (h : LatP n le) {x y : Nat} (hx : x < n) (hy : y < n) : le (mt n le x y) x = true := (h.glb hx hy).lo x (by simp)
theorem LatP.m2 {n : Nat} {le : Nat → Nat → Bool} (h : LatP n le) {x y : Nat} (hx : x < n) (hy : y < n) : le (mt n le x y) y = true := (h.glb hx hy).lo y (by simp)
theorem LatP.mg {n : Nat} {le : Nat → Nat → Bool} (h : LatP n le) {x y z : Nat} (hx : x < n) (hy : y < n) (hz : z < n) (h1 : le z x = true) (h2 : le z y = true) : le z (mt n le x y) = true :=
  (h.glb hx hy).gr z hz (by simp [h1, h2])
theorem LatP.tr {n : Nat} {le : Nat → Nat → Bool} (h : LatP n le) {x y z : Nat} (hx : x < n) (hy : y < n) (hz : z < n) (h1 : le x y = true) (h2 : le y z = true) : le x z = true := h.ord.trans x y z hx hy hz h1 h2
theorem LatP.as {n : Nat} {le : Nat → Nat → Bool} (h : LatP n le) {x y : Nat} (hx : x < n) (hy : y < n) (h1 : le x y = true) (h2 : le y x = true) : x = y := by
  by_cases e : x = y
  · exact e
  · rw [h.ord.anti x y hx hy e h1] at h2; cases h2
theorem vel {n : Nat} {le : Nat → Nat → Bool} (x y : Nat) : mt n le x y = mt n le y x := by unfold mt; rw [vwf]
theorem topEx {n : Nat} {le : Nat → Nat → Bool} (h : LatP n le) : ∃ t, IsGlb n le [] t := by
  have key : ∀ i, i ≤ n → ∃ t, t < n ∧ ∀ x, x < i → le x t = true := by
    intro i
    induction i with
    | zero => exact fun _ => ⟨0, h.lat.ne, by intro x hx; omega⟩
    | succ i ih =>
      intro hi
      obtain ⟨t, ht, h1⟩ := ih (by omega)
      have hin : i < n := by omega
      refine ⟨mt n (Ytcdlbboeflehdaa.du le) t i, h.du.mlt ht hin, all_lt_succ.2 ⟨fun x hx => ?_, h.du.m2 ht hin⟩⟩
      exact h.tr (by omega) ht (h.du.mlt ht hin) (h1 x hx) (h.du.m1 ht hin)
  obtain ⟨t, ht, h1⟩ := key n (by omega)
  exact ⟨t, ht, by simp, fun z hz _ => h1 z hz⟩
theorem glbEx {n : Nat} {le : Nat → Nat → Bool} (h : LatP n le) : ∀ S : List Nat, (∀ s ∈ S, s < n) → ∃ m, IsGlb n le S m
  | [], _ => topEx h
  | s :: S, hS => by
    obtain ⟨m, hm⟩ := glbEx h S fun x hx => hS x (by simp [hx])
    have hs := hS s (by simp)
    refine ⟨mt n le s m, h.mlt hs hm.lt, fun x hx => ?_, fun z hz hx => ?_⟩
    · rcases List.mem_cons.1 hx with rfl | hx'
      · exact h.m1 hs hm.lt
      · exact h.tr (h.mlt hs hm.lt) hm.lt (hS x hx) (h.m2 hs hm.lt) (hm.lo x hx')
    · exact h.mg hs hm.lt hz (hx s (by simp)) (hm.gr z hz fun x hx' => hx x (by simp [hx']))
theorem LatP.gbs {n : Nat} {le : Nat → Nat → Bool} (h : LatP n le) {S : List Nat} (hS : ∀ s ∈ S, s < n) : IsGlb n le S (gb n le S) := by
  obtain ⟨m, hm⟩ := glbEx h S hS
  unfold gb
  rw [vlj h.ord hm]
  exact hm
theorem LatP.bnds {n : Nat} {le : Nat → Nat → Bool} (h : LatP n le) {S : List Nat} (hS : ∀ s ∈ S, s < n) : bnd n le S = ((gb n le S : Nat) : Int) := vlj h.ord (h.gbs hS)
theorem vbmk {n : Nat} {le : Nat → Nat → Bool} (h : LatP n le) {S : List Nat} {m : Nat} (hm : IsGlb n le S m) : gb n le S = m := by
  unfold gb; rw [vlj h.ord hm]; rfl
theorem noneLt {n : Nat} : ∀ s ∈ ([] : List Nat), s < n := fun s hs => by cases hs
theorem lat1 (n : Nat) (le : Nat → Nat → Bool) : (lat n le).1 = mkT n le := rfl
theorem lat2 (n : Nat) (le : Nat → Nat → Bool) : (lat n le).2.1 = mkT n fun x y => ((mt n le x y : Nat) : Int) := rfl
theorem lat3 (n : Nat) (le : Nat → Nat → Bool) : (lat n le).2.2.1 = mkT n fun x y => ((mt n (du le) x y : Nat) : Int) := rfl
theorem veq {n : Nat} {le : Nat → Nat → Bool} (h : LatP n le) {x y : Nat} (hx : x < n) (hy : y < n) : zz55 (pos n le) (x : Int) (y : Int) = some (((mt n le x y : Nat) : Int), ()) := by
  have := h.le10
  unfold zz55 vbhx
  rw [show ([(x : Int), (y : Int)] : List Int) = cs [x, y] from rfl, vcb (by omega) (by simp [hx, hy]) (by simp), Option.bind_some, h.bnd2 hx hy]
theorem vew {n : Nat} {le : Nat → Nat → Bool} (h : LatP n le) {x y : Nat} (hx : x < n) (hy : y < n) : zz56 (pos n le) (x : Int) (y : Int) = some (((mt n (du le) x y : Nat) : Int), ()) := by
  have := h.le10
  unfold zz56 vbeb
  rw [vra (by omega), Option.bind_some, show ([(x : Int), (y : Int)] : List Int) = cs [x, y] from rfl, vcb (by omega) (by simp [hx, hy]) (by simp), Option.bind_some, h.du.bnd2 hx hy]
theorem specBoundL {n : Nat} {le : Nat → Nat → Bool} (h : LatP n le) {S : List Nat} (hS : ∀ s ∈ S, s < n) (hl : S.length ≤ 4294967296) : zz51 big (pos n le) (cs S) = some (((gb n le S : Nat) : Int), ()) := by
  have := h.le10
  rw [vcb (by omega) hS hl, h.bnds hS]
theorem vwl {n : Nat} {le : Nat → Nat → Bool} (h : LatP n le) : zz54 (pos n le) = some (((gb n le [] : Nat) : Int), ()) := by
  unfold zz54 vbhp
  rw [show ([] : List Int) = cs [] from rfl, specBoundL h noneLt (by simp)]; rfl
theorem vkz {n : Nat} {le : Nat → Nat → Bool} (h : LatP n le) : zz53 (pos n le) = some (((gb n (du le) [] : Nat) : Int), ()) := by
  have := h.le10
  unfold zz53 vbgy
  rw [vra (by omega), Option.bind_some, show ([] : List Int) = cs [] from rfl, specBoundL h.du noneLt (by simp)]; rfl
theorem vbqe {n : Nat} {le : Nat → Nat → Bool} (h : LatP n le) : zz34 big (some (lat n le)) = some (((gb n le [] : Nat) : Int), ()) := by
  have h10 := h.le10
  unfold zz34 vari
  rw [Option.bind_some, lat1, mkR_len]
  refine vbps n (fun i t => ∃ k : Nat, t = (k : Int) ∧ k < n ∧ ∀ x, x < i → le x k = true) (by omega) ?_ ?_ 0 (by omega) _ ⟨0, rfl, h.lat.ne, by intro x hx; omega⟩
  · intro rc i t hi hv ih
    obtain ⟨k, e, hk, h1⟩ := hv
    subst e
    unfold vpb
    rw [cdt (by omega), Option.bind_some, lat3, vag hk, Option.bind_some, vag hi, Option.bind_some, wr1 (by omega)]
    refine ih _ ⟨mt n (Ytcdlbboeflehdaa.du le) k i, rfl, h.du.mlt hk hi, all_lt_succ.2 ⟨fun x hx => ?_, h.du.m2 hk hi⟩⟩
    exact h.tr (by omega) hk (h.du.mlt hk hi) (h1 x hx) (h.du.m1 hk hi)
  · intro rc t hv
    obtain ⟨k, e, hk, h1⟩ := hv
    subst e
    unfold vpb
    rw [cdf (by omega), vic, vbmk h ⟨hk, by simp, fun z hz _ => h1 z hz⟩]
theorem vbga {n : Nat} {le : Nat → Nat → Bool} (h : LatP n le) : zz33 big (some (lat n le)) = some (((gb n (du le) [] : Nat) : Int), ()) := by
  have h10 := h.le10
  unfold zz33 vasw
  rw [Option.bind_some, lat1, mkR_len]
  refine vbnl n (fun i t => ∃ k : Nat, t = (k : Int) ∧ k < n ∧ ∀ x, x < i → le k x = true) (by omega) ?_ ?_ 0 (by omega) _ ⟨0, rfl, h.lat.ne, by intro x hx; omega⟩
  · intro rc i t hi hv ih
    obtain ⟨k, e, hk, h1⟩ := hv
    subst e
    unfold vox
    rw [cdt (by omega), Option.bind_some, lat2, vag hk, Option.bind_some, vag hi, Option.bind_some, wr1 (by omega)]
    refine ih _ ⟨mt n le k i, rfl, h.mlt hk hi, all_lt_succ.2 ⟨fun x hx => ?_, h.m2 hk hi⟩⟩
    exact h.tr (h.mlt hk hi) hk (by omega) (h.m1 hk hi) (h1 x hx)
  · intro rc t hv
    obtain ⟨k, e, hk, h1⟩ := hv
    subst e
    unfold vox
    rw [cdf (by omega), vgz, vbmk h.du ⟨hk, by simp, fun z hz _ => h1 z hz⟩]
abbrev bt (n : Nat) (le : Nat → Nat → Bool) : Nat := gb n (du le) []
abbrev tp (n : Nat) (le : Nat → Nat → Bool) : Nat := gb n le []
def Dis (n : Nat) (le : Nat → Nat → Bool) : Prop := ∀ x y z, x < n → y < n → z < n → mt n le x (mt n (du le) y z) = mt n (du le) (mt n le x y) (mt n le x z)
theorem vyh {n : Nat} {le : Nat → Nat → Bool} (h : LatP n le) : bt n le < n := (h.du.gbs noneLt).lt
theorem vwm {n : Nat} {le : Nat → Nat → Bool} (h : LatP n le) : tp n le < n := (h.gbs noneLt).lt
theorem vyd {n : Nat} {le : Nat → Nat → Bool} (h : LatP n le) {x : Nat} (hx : x < n) : le (bt n le) x = true := (h.du.gbs noneLt).gr x hx (by simp)
theorem vzf {n : Nat} {le : Nat → Nat → Bool} (h : LatP n le) {x : Nat} (hx : x < n) : le x (tp n le) = true := (h.gbs noneLt).gr x hx (by simp)
theorem jlt {n : Nat} {le : Nat → Nat → Bool} (h : LatP n le) {x y : Nat} (hx : x < n) (hy : y < n) : mt n (du le) x y < n := h.du.mlt hx hy
theorem j1 {n : Nat} {le : Nat → Nat → Bool} (h : LatP n le) {x y : Nat} (hx : x < n) (hy : y < n) : le x (mt n (du le) x y) = true := h.du.m1 hx hy
theorem j2 {n : Nat} {le : Nat → Nat → Bool} (h : LatP n le) {x y : Nat} (hx : x < n) (hy : y < n) : le y (mt n (du le) x y) = true := h.du.m2 hx hy
theorem jg {n : Nat} {le : Nat → Nat → Bool} (h : LatP n le) {x y z : Nat} (hx : x < n) (hy : y < n) (hz : z < n) (h1 : le x z = true) (h2 : le y z = true) : le (mt n (du le) x y) z = true := h.du.mg hx hy hz h1 h2
theorem vbha {n : Nat} {le : Nat → Nat → Bool} (h : LatP n le) : ∃ U, zz80 big (some (lat n le)) = some (U, ()) ∧ U.isNone = tv (Dis n le) := by
  have h10 := h.le10
  unfold zz80 vase
  rw [Option.bind_some, lat1, mkR_len]
  refine vbnk (Q := fun o => ∃ U, o = some (U, ()) ∧ U.isNone = tv (Dis n le)) n (fun i => ∀ x, x < i → ∀ y, y < n → ∀ z, z < n → mt n le x (mt n (du le) y z) = mt n (du le) (mt n le x y) (mt n le x z)) (by omega) ?_ ?_ 0 (by omega) (by intro x hx; omega)
  · intro rc i hi hv ih
    unfold vmt
    rw [cdt (by omega), Option.bind_some, lat1, mkR_len]
    refine vbpo (Q := fun o => ∃ U, o = some (U, ()) ∧ U.isNone = tv (Dis n le)) n (fun j => ∀ y, y < j → ∀ z, z < n → mt n le i (mt n (du le) y z) = mt n (du le) (mt n le i y) (mt n le i z)) (by omega) ?_ ?_ 0 (by omega) (by intro x hx; omega)
    · intro rc2 j hj hv2 ih2
      unfold vpa
      rw [cdt (by omega), Option.bind_some, lat1, mkR_len]
      refine vbpq (Q := fun o => ∃ U, o = some (U, ()) ∧ U.isNone = tv (Dis n le)) n (fun k => ∀ z, z < k → mt n le i (mt n (du le) j z) = mt n (du le) (mt n le i j) (mt n le i z)) (by omega) ?_ ?_ 0 (by omega) (by intro x hx; omega)
      · intro rc3 k hk hv3 ih3
        unfold vmu
        simp only [cdt (show (k : Int) < (n : Int) by omega), Option.bind_some, lat2, lat3, vag hi, vag hj, vag hk, vag (jlt h hj hk), vag (h.mlt hi hj), vag (h.mlt hi hk), wr1 (show k ≤ 4611686018427387904 by omega)]
        by_cases e : mt n le i (mt n (du le) j k) = mt n (du le) (mt n le i j) (mt n le i k)
        · rw [cdf (by omega)]
          exact ih3 (all_lt_succ.2 ⟨hv3, e⟩)
        · rw [cdt (by omega)]
          exact ⟨_, rfl, by rw [tv_f fun hd => e (hd i j k hi hj hk)]; rfl⟩
      · intro rc3 hv3
        unfold vmu
        rw [cdf (by omega), vjy, wr1 (by omega)]
        exact ih2 (all_lt_succ.2 ⟨hv2, hv3⟩)
    · intro rc2 hv2
      unfold vpa
      rw [cdf (by omega), vdb, wr1 (by omega)]
      exact ih (all_lt_succ.2 ⟨hv, hv2⟩)
  · intro rc hv
    unfold vmt
    rw [cdf (by omega), vde]
    exact ⟨none, rfl, by rw [tv_t (P := Dis n le) fun x y z hx hy hz => hv x hx y hy z hz]; rfl⟩
def rel (n : Nat) (le : Nat → Nat → Bool) (x y z : Nat) : List Nat := fl n fun c => decide (mt n le c y = x) && decide (mt n (du le) c y = z)
def comp (n : Nat) (le : Nat → Nat → Bool) (x : Nat) : List Nat := rel n le (bt n le) x (tp n le)
theorem vsa {n : Nat} {le : Nat → Nat → Bool} (h : LatP n le) {x y z : Nat} (hy : y < n) : zz37 (some (lat n le)) (x : Int) (y : Int) (z : Int) = some (cs (rel n le x y z), ()) := by
  have h10 := h.le10
  unfold zz37 vbhm
  rw [Option.bind_some, lat1, vle (mkR_len n _) (by omega) (P := fun c => decide (mt n le c y = x) && decide (mt n (du le) c y = z))]
  · rfl
  · intro i hi
    unfold zz35 vbff
    simp only [Option.bind_some, lat2, lat3, vag hi, vag hy]
    by_cases e : mt n le i y = x
    · rw [cdt (by omega), decide_eq_true e, Bool.true_and]
      congr 2
      exact decide_eq_decide.2 (by omega)
    · rw [cdf (by omega), decide_eq_false e, Bool.false_and]
theorem veu {n : Nat} {le : Nat → Nat → Bool} (h : LatP n le) {x y z : Nat} (hy : y < n) : zz57 big (pos n le) (x : Int) (y : Int) (z : Int) = some (cs (rel n le x y z), ()) := by
  have h10 := h.le10
  unfold zz57 vasj
  refine vbmt n (fun i l => l = cs (fl i fun c => decide (mt n le c y = x) && decide (mt n (du le) c y = z))) (by omega) ?_ ?_ 0 (by omega) _ rfl
  · intro rc i l hi hv ih
    have hl := vao i fun c => decide (mt n le c y = x) && decide (mt n (du le) c y = z)
    unfold vmz
    rw [vai, cdt (by omega), veq h hy hi, Option.bind_some, vew h hy hi, Option.bind_some, vel, vel (le := du le), wr1 (by omega)]
    by_cases e : mt n le i y = x
    · rw [cdt (by omega)]
      by_cases e2 : mt n (du le) i y = z
      · rw [cdt (by omega), app1 (by rw [hv, cs_len]; omega), Option.bind_some]
        exact ih _ (by rw [hv]; exact fl_t (P := fun c => decide (mt n le c y = x) && decide (mt n (du le) c y = z)) (by simp [e, e2]))
      · rw [cdf (by omega)]
        exact ih _ (by rw [hv]; exact fl_f (P := fun c => decide (mt n le c y = x) && decide (mt n (du le) c y = z)) (by simp [e2]))
    · rw [cdf (by omega)]
      exact ih _ (by rw [hv]; exact fl_f (P := fun c => decide (mt n le c y = x) && decide (mt n (du le) c y = z)) (by simp [e]))
  · intro rc l hv
    unfold vmz
    rw [vai, cdf (by omega), vfx, hv]
    rfl
theorem vcz {n : Nat} {le : Nat → Nat → Bool} (h : LatP n le) {x : Nat} (hx : x < n) : zz38 (some (lat n le)) (x : Int) = some (cs (comp n le x), ()) := by
  unfold zz38 vbed
  rw [vbga h, Option.bind_some, vbqe h, Option.bind_some, vsa h hx]; rfl
def Cmp (n : Nat) (le : Nat → Nat → Bool) : Prop := ∀ x, x < n → comp n le x ≠ []
theorem vacx {n : Nat} {le : Nat → Nat → Bool} (h : LatP n le) : zz64 (some (lat n le)) = some (tv (Cmp n le), ()) := by
  have h10 := h.le10
  unfold zz64 vbeq zz63 vbhs
  rw [Option.bind_some, lat1, ven (mkR_len n _) (by omega) (P := fun x => decide ((comp n le x).length = 0))]
  · simp only [Option.bind_some, cs_len]
    congr 2
    symm
    refine vxz ?_
    rw [decide_eq_true_eq]
    constructor
    · intro e x hx hc
      have : x ∈ fl n fun x => decide ((comp n le x).length = 0) := fl_mem.2 ⟨hx, by simp [hc]⟩
      have := List.length_pos_of_mem this
      omega
    · intro hc
      have : (fl n fun x => decide ((comp n le x).length = 0)) = [] := List.eq_nil_iff_forall_not_mem.2 fun x hx => by
        have := fl_mem.1 hx
        exact hc x this.1 (List.eq_nil_of_length_eq_zero (by simpa using this.2))
      rw [this]; rfl
  · intro i hi
    unfold zz61 vbfx
    rw [vcz h hi, Option.bind_some, cs_len]
    congr 2
    exact decide_eq_decide.2 (by omega)
theorem vanh {n : Nat} {le : Nat → Nat → Bool} (h : LatP n le) : zz66 big (pos n le) = some (mkR n fun x => ((comp n le x).length : Int), ()) := by
  have h10 := h.le10
  unfold zz66 vauw
  refine vbpk n (fun i l => l = mkR i fun x => ((comp n le x).length : Int)) (by omega) ?_ ?_ 0 (by omega) _ rfl
  · intro rc i l hi hv ih
    unfold vpw
    rw [vai, cdt (by omega), vkz h, Option.bind_some, vwl h, Option.bind_some, veu h hi, Option.bind_some, app1 (by rw [hv, mkR_len]; omega), Option.bind_some, wr1 (by omega)]
    exact ih _ (by rw [hv, cs_len]; exact (vvo i fun x => ((comp n le x).length : Int)).symm)
  · intro rc l hv
    unfold vpw
    rw [vai, cdf (by omega), vke, hv]
theorem implBool {n : Nat} {le : Nat → Nat → Bool} (h : LatP n le) (hg : zz32 (pos n le) = some ((some (lat n le), true, ()), ())) : zz82 (pos n le) = some ((some (lat n le), tv (Dis n le ∧ Cmp n le), ()), ()) := by
  unfold zz82 vbfj zz81 vbgc
  obtain ⟨U, h1, h2⟩ := vbha h
  rw [hg, Option.bind_some]
  simp only [cond_true, h1, Option.bind_some, h2]
  by_cases hd : Dis n le
  · rw [tv_t hd, cond_true, vacx h, Option.bind_some, vvz (show Cmp n le ↔ Dis n le ∧ Cmp n le from ⟨fun hc => ⟨hd, hc⟩, fun hh => hh.2⟩)]
  · rw [tv_f hd, tv_f fun hh => hd hh.1]; rfl
def Cen (n : Nat) (le : Nat → Nat → Bool) (x y : Nat) : Prop := ∀ z, z < n → mt n (du le) (mt n le z x) (mt n le z y) = z ∧ mt n le (mt n (du le) z x) (mt n (du le) z y) = z
theorem vbcx {n : Nat} {le : Nat → Nat → Bool} (h : LatP n le) {x y : Nat} (hx : x < n) (hy : y < n) : zz58 big (pos n le) (x : Int) (y : Int) = some (tv (Cen n le x y), ()) := by
  have h10 := h.le10
  unfold zz58 varc
  refine vbmu n (fun i => ∀ z, z < i → mt n (du le) (mt n le z x) (mt n le z y) = z ∧ mt n le (mt n (du le) z x) (mt n (du le) z y) = z) (by omega) ?_ ?_ 0 (by omega) (by intro z hz; omega)
  · intro rc i hi hv ih
    have l1 := h.mlt hi hx
    have l2 := h.mlt hi hy
    have l3 := jlt h hi hx
    have l4 := jlt h hi hy
    unfold vmw
    simp only [vai, cdt (show (i : Int) < (n : Int) by omega), veq h hi hx, veq h hi hy, Option.bind_some, vew h l1 l2, vew h hi hx, vew h hi hy, veq h l3 l4, wr1 (show i ≤ 4611686018427387904 by omega)]
    by_cases e1 : mt n (du le) (mt n le i x) (mt n le i y) = i
    · rw [cdf (by omega)]
      by_cases e2 : mt n le (mt n (du le) i x) (mt n (du le) i y) = i
      · rw [cdf (by omega)]
        exact ih (all_lt_succ.2 ⟨hv, e1, e2⟩)
      · rw [cdt (by omega), tv_f fun hc => e2 (hc i hi).2]
    · rw [cdt (by omega), tv_f fun hc => e1 (hc i hi).1]
  · intro rc hv
    unfold vmw
    rw [vai, cdf (by omega), vjf, tv_t (P := Cen n le x y) hv]
theorem vbce {n : Nat} {le : Nat → Nat → Bool} (h : LatP n le) {x y : Nat} (hx : x < n) (hy : y < n) : zz41 (mkT n le) (some (lat n le), (x : Int), (y : Int), ()) = some (tv (Cen n le x y), ()) := by
  have h10 := h.le10
  unfold zz41 vbfr
  rw [vky (mkR_len n _) (by omega) (P := fun z => decide (mt n (du le) (mt n le z x) (mt n le z y) ≠ z) || decide (mt n le (mt n (du le) z x) (mt n (du le) z y) ≠ z))]
  · rw [Option.bind_some, cs_len]
    congr 2
    symm
    refine vxz ?_
    rw [decide_eq_true_eq]
    constructor
    · intro e z hz
      have hn : ¬ (decide (mt n (du le) (mt n le z x) (mt n le z y) ≠ z) || decide (mt n le (mt n (du le) z x) (mt n (du le) z y) ≠ z)) = true := fun hp => by
        have := List.length_pos_of_mem (fl_mem.2 ⟨hz, hp⟩ : z ∈ fl n fun z => decide (mt n (du le) (mt n le z x) (mt n le z y) ≠ z) || decide (mt n le (mt n (du le) z x) (mt n (du le) z y) ≠ z))
        omega
      simpa using hn
    · intro hc
      have : (fl n fun z => decide (mt n (du le) (mt n le z x) (mt n le z y) ≠ z) || decide (mt n le (mt n (du le) z x) (mt n (du le) z y) ≠ z)) = [] := List.eq_nil_iff_forall_not_mem.2 fun z hz => by
        have h1 := fl_mem.1 hz
        have h2 := hc z h1.1
        simp [h2.1, h2.2] at h1
      rw [this]; rfl
  · intro i hi
    have l1 := h.mlt hi hx
    have l2 := h.mlt hi hy
    have l3 := jlt h hi hx
    have l4 := jlt h hi hy
    unfold zz39 vbgk
    simp only [Option.bind_some, lat2, lat3, vag hi, vag hx, vag hy, vag l1, vag l2, vag l3, vag l4]
    by_cases e1 : mt n (du le) (mt n le i x) (mt n le i y) = i
    · rw [cdf (by omega)]
      by_cases e2 : mt n le (mt n (du le) i x) (mt n (du le) i y) = i
      · simp [e1, e2]
      · have e3 : ¬ ((mt n le (mt n (du le) i x) (mt n (du le) i y) : Int) = (i : Int)) := by omega
        simp [e1, e2, e3]
    · rw [cdt (by omega)]; simp [e1]
noncomputable def cenB (n : Nat) (le : Nat → Nat → Bool) (x : Nat) : Bool := (comp n le x).any fun y => tv (Cen n le x y)
theorem vago {n : Nat} {le : Nat → Nat → Bool} {x y : Nat} (hy : y ∈ comp n le x) : y < n := (fl_mem.1 hy).1
theorem vxo {n : Nat} {le : Nat → Nat → Bool} (h : LatP n le) {x : Nat} (hx : x < n) : zz42 big (some (lat n le)) (x : Int) = some (cenB n le x, ()) := by
  have h10 := h.le10
  have hl : (comp n le x).length ≤ n := vao _ _
  unfold zz42 vash
  rw [vcz h hx, Option.bind_some, cs_len]
  refine vbnm (comp n le x).length (fun i => ∀ y ∈ (comp n le x).take i, ¬ Cen n le x y) (by omega) ?_ ?_ 0 (by omega) (by simp)
  · intro rc i hi hv ih
    have hm := List.getElem_mem hi
    unfold vps
    simp only [cdt (show (i : Int) < ((comp n le x).length : Int) by omega), ver hi, Option.bind_some, Int.toNat_natCast, vaeg hi, lat1, vbce h hx (vago hm), wr1 (show i ≤ 4611686018427387904 by omega)]
    by_cases hc : Cen n le x (comp n le x)[i]
    · rw [tv_t hc, cond_true]
      have : cenB n le x = true := List.any_eq_true.2 ⟨_, hm, tv_t hc⟩
      rw [this]
    · rw [tv_f hc, cond_false]
      exact ih ((vca hi).2 ⟨hv, hc⟩)
  · intro rc hv
    rw [List.take_length] at hv
    unfold vps
    rw [cdf (by omega), vgn]
    have : cenB n le x = false := List.any_eq_false.2 fun y hy => by rw [tv_f (hv y hy)]; simp
    rw [this]
theorem vbis {α : Type} {l : List α} {i : Nat} (h : i < l.length) {p : α → Bool} : (l.take (i + 1)).any p = ((l.take i).any p || p l[i]) := by
  rw [List.take_succ_eq_append_getElem h, List.any_append]; simp only [List.any_cons, List.any_nil, Bool.or_false]
theorem vbdc (p : PT) (hx : ∀ r ∈ p.1, r.length ≤ 4294967296) : ∃ v : List Int × Bool × Unit, zz59 big p = some (v, ()) ∧ zz46 p = some (v, ()) ∧ v.1.length ≤ 10 := by
  unfold zz59 vapl zz46 vadg zz45 vada
  rcases vkw hx with ⟨n, le, e, h, h1, h2⟩ | ⟨h1, l, h2⟩
  · subst e
    have h10 := h.le10
    have hfl := vao n fun x => cenB n le x
    rw [h1, h2]
    refine ⟨(cs (fl n fun x => cenB n le x), true, ()), ?_, ?_, by rw [cs_len]; omega⟩
    · simp only [Option.bind_some, Bool.not_true, cond_false]
      refine vbne n (fun i l => l = cs (fl i fun x => cenB n le x)) (by omega) ?_ ?_ 0 (by omega) _ rfl
      · intro rc i l hi hv ih
        have hl := vao i fun x => cenB n le x
        have hcl : (comp n le i).length ≤ n := vao _ _
        unfold vol
        rw [vai, cdt (by omega), vkz h, Option.bind_some, vwl h, Option.bind_some, veu h hi, Option.bind_some]
        refine vboy (comp n le i).length (fun k b => b = ((comp n le i).take k).any fun y => tv (Cen n le i y)) (by omega) ?_ ?_ 0 (by omega) _ rfl
        · intro rc2 k b hk hb ih2
          have hm := vago (List.getElem_mem hk)
          have hat : atI (cs (rel n le (bt n le) i (tp n le))) (k : Int) = _ := ver hk
          have hgt : (cs (rel n le (bt n le) i (tp n le)))[k]? = _ := vaeg hk
          have ht := vbis hk (p := fun y => tv (Cen n le i y))
          unfold vlk
          rw [cs_len, show ((rel n le (bt n le) i (tp n le)).length) = (comp n le i).length from rfl, cdt (by omega), wr1 (by omega)]
          cases b with
          | true => exact ih2 _ (by rw [ht, ← hb]; rfl)
          | false =>
            rw [cond_false, hat, Option.bind_some, Int.toNat_natCast, hgt, Option.bind_some]
            refine (congrArg (fun o : Option (Bool × Unit) => o.bind _) (vbcx h hi hm)).trans ?_
            rw [Option.bind_some]
            exact ih2 _ (by rw [ht, ← hb]; rfl)
        · intro rc2 b hb
          rw [List.take_length] at hb
          unfold vlk
          rw [cs_len, show ((rel n le (bt n le) i (tp n le)).length) = (comp n le i).length from rfl, cdf (by omega), vgc, wr1 (by omega)]
          cases b with
          | true => rw [cond_true, app1 (by rw [hv, cs_len]; omega), Option.bind_some]; exact ih _ (by rw [hv]; exact fl_t (P := fun x => cenB n le x) hb.symm)
          | false => exact ih _ (by rw [hv]; exact fl_f (P := fun x => cenB n le x) hb.symm)
      · intro rc l hv
        unfold vol
        rw [vai, cdf (by omega), vcu, hv]
    · unfold zz44 vatd
      simp only [Option.bind_some, Bool.not_true, cond_false, lat1]
      rw [vdk (mkR_len n _) (by omega) (P := fun x => cenB n le x)]
      · rfl
      · intro i hi
        exact vxo h hi
  · rw [h1, h2]
    exact ⟨_, rfl, rfl, by simp⟩
abbrev P2 := Int × Int × Unit
def lx : List Int → List Int → Bool
  | a :: s, b :: t => if a ≠ b then decide (a < b) else lx s t
  | _, _ => false
def upd (b f : List Int) (g : Bool) : List Int := if g && (decide (b.length = 0) || lx f b) then f else b
def f5 (n : Nat) (le : Nat → Nat → Bool) (o : Nat) (x y z i : Nat) : List Int := [(o : Int), (x : Int), (y : Int), (z : Int), (i : Int)]
theorem vbmj {n : Nat} {P Q : Nat → Bool} (h : ∀ x, x < n → P x = true → Q x = true) {y : Nat} (hy : y < n) (h1 : Q y = true) (h2 : P y = false) : (fl n P).length < (fl n Q).length := by
  have hm : (fl n P).Sublist (fl n Q) := by
    have e : fl n P = (fl n Q).filter P := by
      unfold fl
      rw [List.filter_filter]
      refine List.filter_congr fun x hx => ?_
      have := h x (List.mem_range.1 hx)
      cases hp : P x with
      | true => simp [this hp]
      | false => simp
    rw [e]; exact List.filter_sublist
  refine Nat.lt_of_le_of_ne hm.length_le fun e => ?_
  have := hm.eq_of_length e
  have hq := Go.Gx.fl_inj this hy
  rw [h1, h2] at hq
  exact absurd hq (by simp)
structure Pt (n : Nat) (P : Nat → Nat) : Prop where
  lo : ∀ x, x < n → P x ≤ x
  id : ∀ x, x < n → P (P x) = P x
theorem Pt.lt {n : Nat} {P : Nat → Nat} (h : Pt n P) {x : Nat} (hx : x < n) : P x < n := Nat.lt_of_le_of_lt (h.lo x hx) hx
def Lep (n : Nat) (P C : Nat → Nat) : Prop := ∀ x, x < n → C (P x) = C x
theorem Lep.refl {n : Nat} {P : Nat → Nat} (h : Pt n P) : Lep n P P := h.id
theorem Lep.trans {n : Nat} {P Q C : Nat → Nat} (h : Pt n P) (h1 : Lep n P Q) (h2 : Lep n Q C) : Lep n P C := fun x hx => by
  have e1 := h1 x hx
  have e2 := h2 (P x) (h.lt hx)
  have e3 := h2 x hx
  rw [← e2, e1, e3]
inductive Wd where
  | v (n : Int)
  | op (g : Int) (a b : Wd)
def Wd.fl : Wd → List Int
  | .v n => [n]
  | .op g a b => g :: (a.fl ++ b.fl)
def Wd.ok : Wd → Prop
  | .v n => 0 ≤ n ∧ n < 5
  | .op g a b => (g = -1 ∨ g = -2) ∧ a.ok ∧ b.ok
theorem Wd.pos : ∀ A : Wd, 0 < A.fl.length
  | .v n => by simp [Wd.fl]
  | .op g a b => by simp [Wd.fl]
def At (s : List Int) (i : Nat) (A : Wd) : Prop := A.ok ∧ ∃ r, s.drop i = A.fl ++ r
theorem At.lt {s : List Int} {i : Nat} {A : Wd} (h : At s i A) : i + A.fl.length ≤ s.length := by
  obtain ⟨_, r, e⟩ := h
  have := congrArg List.length e
  have := A.pos
  simp only [List.length_drop, List.length_append] at *
  omega
def ea (E : List P2) (i : Nat) : Nat := (E.getD i (0, 0, ())).1.toNat
def eb (E : List P2) (i : Nat) : Nat := (E.getD i (0, 0, ())).2.1.toNat
abbrev Cu := List Int × Int × Int × Unit
def COk (k : Nat) (c : Cu) : Prop := 0 ≤ c.2.1 ∧ c.2.1 + k ≤ 4611686018427387904 ∧ c.1.length ≤ 65536 ∧ ∀ x ∈ c.1, 0 ≤ x ∧ x ≤ 255
theorem and255 (x : Int) : ∃ n : Nat, n ≤ 255 ∧ bitI .and .u64 x 255 = (n : Int) := by
  refine ⟨(BitVec.ofInt IntKind.u64.bits x &&& BitVec.ofInt IntKind.u64.bits 255).toNat, ?_, ?_⟩
  · rw [BitVec.toNat_and]
    exact Nat.le_trans Nat.and_le_right (by decide)
  · have h : (BitVec.ofInt IntKind.u64.bits x &&& BitVec.ofInt IntKind.u64.bits 255).toNat ≤ 255 := by
      rw [BitVec.toNat_and]
      exact Nat.le_trans Nat.and_le_right (by decide)
    unfold bitI
    exact IntWalk.u64_in _ (by omega)
theorem vart {k : Nat} {c : Cu} (h : COk (k + 1) c) : ∃ v c', zz1 c = some (v, (c', ())) ∧ 0 ≤ v ∧ v ≤ 255 ∧ COk k c' := by
  obtain ⟨h0, h1, h2, h3⟩ := h
  obtain ⟨l, a, s, u⟩ := c
  simp only at h0 h1 h2 h3
  have hw : IntKind.i64.wrap (a + 1) = a + 1 := wr (by omega) (by omega)
  have key : ∀ s' : Int, COk k (l, a + 1, s', u) := fun s' => ⟨by show 0 ≤ a + 1; omega, by show a + 1 + k ≤ _; omega, h2, h3⟩
  have tail : ∀ s' : Int, ∃ v c', ((shrI IntKind.u64 s' (40 : Int)).bind fun xq => some (IntKind.i64.wrap (bitI .and IntKind.u64 xq (255 : Int)), ((l, a + 1, s', u), ()))) = some (v, (c', ())) ∧ 0 ≤ v ∧ v ≤ 255 ∧ COk k c' := by
    intro s'
    obtain ⟨n, hn, e⟩ := and255 (s'.fdiv (2 ^ min (40 : Int).toNat IntKind.u64.bits))
    unfold shrI
    rw [if_neg (by omega), Option.bind_some, e, wr (by omega) (by omega)]
    exact ⟨_, _, rfl, by omega, by omega, key s'⟩
  unfold zz1 vbme
  dsimp only
  rw [hw]
  by_cases ha : a < (l.length : Int)
  · rw [cdt ha]
    have hal : a.toNat < l.length := by omega
    have e : atI l a = some l[a.toNat] := by
      have := vak l a.toNat hal
      rwa [show ((a.toNat : Nat) : Int) = a by omega] at this
    have hb := h3 _ (List.getElem_mem hal)
    rw [e, Option.bind_some]
    by_cases c : a + 1 ≤ (l.length : Int)
    · rw [cdt c, wr (by omega) (by omega)]
      exact ⟨_, _, rfl, hb.1, hb.2, key _⟩
    · rw [cdf c]
      exact tail _
  · rw [cdf ha]
    by_cases c : a + 1 ≤ (l.length : Int)
    · rw [cdt c]
      exact ⟨_, _, rfl, by omega, by omega, key _⟩
    · rw [cdf c]
      exact tail _
theorem COk.mono {k j : Nat} {c : Cu} (h : COk k c) (hj : j ≤ k) : COk j c := by
  obtain ⟨h0, h1, h2, h3⟩ := h
  exact ⟨h0, by omega, h2, h3⟩
theorem vasl {a n : Int} (ha : 0 ≤ a) (hn : 0 < n) : ∃ v, remI a n = some v ∧ 0 ≤ v ∧ v < n := by
  refine ⟨a.tmod n, ?_, Int.tmod_nonneg n ha, Int.tmod_lt_of_pos a hn⟩
  unfold remI
  rw [if_neg (by omega)]
theorem vbg {k : Nat} {c : Cu} (h : COk (k + 2) c) (n : Int) : ∃ v c', zz2 c n = some (v, (c', ())) ∧ 0 ≤ v ∧ (1 ≤ n → v < n) ∧ COk k c' := by
  unfold zz2 vbml
  by_cases h1 : n ≤ 1
  · rw [cdt h1]
    exact ⟨_, _, rfl, by omega, by omega, h.mono (by omega)⟩
  · obtain ⟨v, c1, e1, a1, a2, k1⟩ := vart (k := k + 1) h
    rw [cdf h1, e1, Option.bind_some]
    by_cases h2 : 200 < n
    · obtain ⟨v2, c2, e2, b1, b2, k2⟩ := vart k1
      rw [cdt h2]
      dsimp only
      rw [e2, Option.bind_some]
      dsimp only
      rw [wr (n := v * 256) (by omega) (by omega), wr (by omega) (by omega)]
      obtain ⟨z, ez, z0, z1⟩ := vasl (a := v * 256 + v2) (n := n) (by omega) (by omega)
      rw [ez, Option.bind_some]
      exact ⟨_, _, rfl, z0, fun _ => z1, k2⟩
    · rw [cdf h2]
      dsimp only
      obtain ⟨z, ez, z0, z1⟩ := vasl (a := v) (n := n) a1 (by omega)
      rw [ez, Option.bind_some]
      exact ⟨_, _, rfl, z0, fun _ => z1, k1.mono (by omega)⟩
theorem vhy {k : Nat} {c : Cu} (h : COk (k + 2) c) (n : Int) : ∃ b c', zz3 c n = some (b, (c', ())) ∧ COk k c' := by
  obtain ⟨v, c1, e1, _, _, k1⟩ := vbg h n
  unfold zz3 vbmi
  rw [e1, Option.bind_some]
  exact ⟨_, _, rfl, k1⟩
theorem vry {k : Nat} {c : Cu} (h : COk (k + 2) c) {l : List Int} (hl : l ≠ []) : ∃ v c', zz4 c l = some (v, (c', ())) ∧ v ∈ l ∧ COk k c' := by
  obtain ⟨v, c1, e1, h0, h1, k1⟩ := vbg h (l.length : Int)
  have hp := List.length_pos_iff.2 hl
  have hv := h1 (by omega)
  have hvl : v.toNat < l.length := by omega
  have e : atI l v = some l[v.toNat] := by
    have := vak l v.toNat hvl
    rwa [show ((v.toNat : Nat) : Int) = v by omega] at this
  unfold zz4 vbmc
  rw [e1, Option.bind_some]
  dsimp only
  rw [e, Option.bind_some]
  exact ⟨_, _, rfl, List.getElem_mem hvl, k1⟩
def Codes (code : List Int) : Prop := code.length ≤ 65536 ∧ ∀ x ∈ code, 0 ≤ x ∧ x ≤ 255
theorem Codes.start {code : List Int} (h : Codes code) : COk 10000 (code, (0 : Int), (0 : Int), ()) := ⟨Int.le_refl _, by show (0 : Int) + (10000 : Nat) ≤ _; omega, h.1, h.2⟩
abbrev PTd := List (List Int) × Unit
def DrP (m : Nat) (p : PTd) : Prop := p.1.length ≤ m ∧ ∀ r ∈ p.1, r.length ≤ m
theorem vaup {n : Int} (h1 : -1000 ≤ n) (h2 : n ≤ 1000) {l : List Int} (hl : l.length ≤ 1000) : ∃ b, zz7 big n l = some (b, ()) ∧ (b = true → ∀ x ∈ l, 0 ≤ x ∧ x < n) := by
  unfold zz7 vbbn
  refine vbpy (Q := fun r => ∃ b, r = some (b, ()) ∧ (b = true → ∀ x ∈ l, 0 ≤ x ∧ x < n)) l.length (fun i => ∀ x ∈ l.take i, 0 ≤ x ∧ x < n) (by omega) (fun rc i hi hI hr => ?_) (fun rc hI => ?_) 0 (by omega) (by simp)
  · unfold vsy
    rw [cdt (by omega), vak l i hi, Option.bind_some, vayu, Option.bind_some, wr (by omega) (by omega)]
    by_cases c : 0 ≤ l[i] ∧ l[i] ≤ n - 1
    · rw [decide_eq_true c]
      simp only [Bool.not_true, cond_false]
      rw [wr (by omega) (by omega)]
      refine hr fun x hx => ?_
      rw [List.take_succ_eq_append_getElem hi, List.mem_append, List.mem_singleton] at hx
      rcases hx with hx | rfl
      · exact hI x hx
      · omega
    · rw [decide_eq_false c]
      simp only [Bool.not_false, cond_true]
      exact ⟨_, rfl, fun h => by cases h⟩
  · unfold vsy vrb
    rw [cdf (by omega)]
    refine ⟨_, rfl, fun _ => ?_⟩
    have hI : ∀ x ∈ l.take l.length, 0 ≤ x ∧ x < n := hI
    rwa [List.take_of_length_le (Nat.le_refl _)] at hI
theorem vauq {n : Nat} (hn : n ≤ 1000) {l : List Int} (hl : l.length ≤ 1000) : ∃ b, zz8 big l (n : Int) = some (b, ()) ∧ (b = true → l.length = n ∧ ∀ x ∈ l, 0 ≤ x ∧ x < n) := by
  unfold zz8 vbcj
  by_cases h : (l.length : Int) ≠ (n : Int)
  · rw [cdt h]
    exact ⟨_, rfl, fun h => by cases h⟩
  · rw [cdf h]
    have hln : l.length = n := by omega
    obtain ⟨b, e, hb⟩ := vaup (n := (n : Int)) (by omega) (by omega) hl
    rw [e, Option.bind_some]
    cases b with
    | false => exact ⟨_, rfl, fun h => by cases h⟩
    | true =>
      have hb := hb rfl
      simp only [Bool.not_true, cond_false]
      rw [vazo false n (by omega), Option.bind_some, Option.bind_some, cdt (by omega)]
      refine vbqd (Q := fun r => ∃ b, r = some (b, ()) ∧ (b = true → l.length = n ∧ ∀ x ∈ l, 0 ≤ x ∧ x < n)) n (fun i s => s.length = n) (by omega) (fun rc i s hi hI hr => ?_) (fun rc s hI => ?_) 0 (by omega) _ (by simp)
      · unfold vtf
        have hil : i < l.length := by omega
        have hx := hb _ (List.getElem_mem hil)
        have hxl : l[i].toNat < s.length := by rw [hI]; omega
        have ea : atI s l[i] = some s[l[i].toNat] := by
          have := vak s l[i].toNat hxl
          rwa [show ((l[i].toNat : Nat) : Int) = l[i] by omega] at this
        rw [cdt (by omega), vak l i hil, Option.bind_some, ea, Option.bind_some, List.getElem?_eq_getElem hxl, Option.bind_some]
        cases s[l[i].toNat] with
        | true => exact ⟨_, rfl, fun h => by cases h⟩
        | false =>
          rw [cond_false, Option.bind_some, ea, Option.bind_some, List.getElem?_eq_getElem hxl, Option.bind_some, wr (by omega) (by omega)]
          exact hr _ (by simpa using hI)
      · unfold vtf vqu
        rw [cdf (by omega)]
        exact ⟨_, rfl, fun _ => ⟨hln, hb⟩⟩
theorem vacj {k n : Nat} (hn : n ≤ 1000) {c : Cu} (h : COk (k + 2 * n + 6) c) : ∃ l c', zz5 big c (n : Int) = some (l, (c', ())) ∧ l.length ≤ n + 1 ∧ COk k c' := by
  unfold zz5 vbdb
  refine vbqb (Q := fun r => ∃ l c', r = some (l, (c', ())) ∧ l.length ≤ n + 1 ∧ COk k c') n (fun i c l => l.length = i ∧ COk (k + 2 * (n - i) + 6) c) (by omega) (fun rc i c l hi hI hr => ?_) (fun rc c l hI => ?_) 0 (by omega) _ _ ⟨rfl, by simpa using h⟩
  · obtain ⟨hl, hc⟩ := hI
    unfold vuv
    obtain ⟨v, c', e, v0, v1, hc'⟩ := vbg (k := k + 2 * (n - (i + 1)) + 6) (hc.mono (by omega)) ((l.length : Int) + 1)
    have hv := v1 (by omega)
    rw [cdt (by omega), wr (n := (l.length : Int) + 1) (by omega) (by omega), e, Option.bind_some]
    dsimp only
    have s1 : slI l 0 v = some ((l.drop 0).take (v - 0).toNat) := by unfold slI; rw [if_pos (by omega)]; rfl
    have s2 : slI l v (l.length : Int) = some ((l.drop v.toNat).take ((l.length : Int) - v).toNat) := by unfold slI; rw [if_pos (by omega)]
    rw [s1, Option.bind_some, vbd (by simp; omega), Option.bind_some, vbd (by simp; omega), Option.bind_some, s2, Option.bind_some, vbd (by simp; omega), Option.bind_some, wr (by omega) (by omega)]
    refine hr _ _ ⟨?_, hc'⟩
    simp
    omega
  · obtain ⟨hl, hc⟩ := hI
    unfold vuv vrg
    rw [cdf (by omega)]
    obtain ⟨v, c', e, v0, v1, hc'⟩ := vbg (k := k + 4) (hc.mono (by omega)) 24
    rw [e, Option.bind_some]
    dsimp only
    by_cases h0 : v = 0
    · rw [cdt h0, vbd (by simp; omega), Option.bind_some]
      exact ⟨_, _, rfl, by simp [hl], hc'.mono (by omega)⟩
    · rw [cdf h0]
      by_cases h1 : v = 1
      · rw [cdt h1]
        by_cases h2 : (0 : Int) < n
        · rw [cdt h2]
          obtain ⟨v2, c2, e2, a0, a1, hc2⟩ := vbg (k := k + 2) (hc'.mono (by omega)) (n : Int)
          have ha := a1 (by omega)
          obtain ⟨v3, c3, e3, _, hc3⟩ := vry (k := k) hc2 (l := [(0 : Int), -1, (n : Int)]) (by simp)
          have hvl : v2.toNat < l.length := by omega
          have ea : atI l v2 = some l[v2.toNat] := by
            have := vak l v2.toNat hvl
            rwa [show ((v2.toNat : Nat) : Int) = v2 by omega] at this
          rw [e2, Option.bind_some]
          dsimp only
          rw [e3, Option.bind_some]
          dsimp only
          rw [ea, Option.bind_some, List.getElem?_eq_getElem hvl, Option.bind_some]
          exact ⟨_, _, rfl, by simp [hl], hc3⟩
        · rw [cdf h2]
          exact ⟨_, _, rfl, by omega, hc'.mono (by omega)⟩
      · rw [cdf h1]
        exact ⟨_, _, rfl, by omega, hc'.mono (by omega)⟩
def MX (n : Nat) (m : List (List Bool)) : Prop := m.length = n ∧ (∀ r ∈ m, r.length = n) ∧ ∀ i, i < n → ∃ r, m[i]? = some r ∧ r[i]? = some true
theorem MX.set {n : Nat} {m : List (List Bool)} (h : MX n m) {x y : Nat} {r : List Bool} (hr : m[x]? = some r) {v : Bool} (hv : x = y → v = true) : MX n (m.set x (r.set y v)) := by
  obtain ⟨h1, h2, h3⟩ := h
  have hx := (List.getElem?_eq_some_iff.1 hr).1
  refine ⟨by simpa using h1, fun q hq => ?_, fun i hi => ?_⟩
  · rcases List.mem_or_eq_of_mem_set hq with hq | rfl
    · exact h2 q hq
    · rw [List.length_set]; exact h2 r (List.mem_of_getElem? hr)
  · obtain ⟨q, q1, q2⟩ := h3 i hi
    by_cases e : x = i
    · subst e
      rw [hr] at q1
      cases q1
      refine ⟨_, by rw [List.getElem?_set_self hx], ?_⟩
      by_cases e : y = x
      · subst e
        have hl : y < r.length := (List.getElem?_eq_some_iff.1 q2).1
        rw [List.getElem?_set_self hl, hv rfl]
      · rw [List.getElem?_set_ne e]; exact q2
    · exact ⟨q, by rw [List.getElem?_set_ne e]; exact q1, q2⟩
theorem MX.at {n : Nat} {m : List (List Bool)} (h : MX n m) {x y : Nat} (hx : x < n) (hy : y < n) : ∃ r v, m[x]? = some r ∧ atI m (x : Int) = some r ∧ r[y]? = some v ∧ atI r (y : Int) = some v ∧ (x = y → v = true) := by
  obtain ⟨h1, h2, h3⟩ := h
  have hl : x < m.length := by omega
  have hr := h2 _ (List.getElem_mem hl)
  have hyl : y < (m[x]).length := by omega
  refine ⟨m[x], (m[x])[y], List.getElem?_eq_getElem hl, vak m x hl, List.getElem?_eq_getElem hyl, vak _ y hyl, fun e => ?_⟩
  subst e
  obtain ⟨q, q1, q2⟩ := h3 x hx
  rw [List.getElem?_eq_getElem hl] at q1
  cases q1
  rw [List.getElem?_eq_getElem hyl] at q2
  exact Option.some.inj q2
def Fr (n : Nat) (r : Option (PTd × Unit)) : Prop := ∃ p : PTd, r = some (p, ()) ∧ p.1.length = n ∧ ∀ q ∈ p.1, 1 ≤ q.length ∧ q.length ≤ n
theorem vbhn {n : Nat} (hn : n ≤ 100) {t4 : PTd} {m : List (List Bool)} (hm : MX n m) : Fr n (vcf big (n : Int) t4 m ([], ()) (0 : Int)) := by
  refine vbof (Q := Fr n) n (fun i p => p.1.length = i ∧ ∀ q ∈ p.1, 1 ≤ q.length ∧ q.length ≤ n) (by omega) (fun rc i p hi hI hr => ?_) (fun rc p hI => ?_) 0 (by omega) _ ⟨rfl, by simp⟩
  · obtain ⟨hI1, hI2⟩ := hI
    unfold vmo
    rw [cdt (by omega)]
    refine vbmm (Q := Fr n) n (fun j b => b.length ≤ j ∧ (i < j → 1 ≤ b.length)) (by omega) (fun rc2 j b hj hJ hr2 => ?_) (fun rc2 b hJ => ?_) 0 (by omega) _ ⟨by simp, by omega⟩
    · unfold vpy
      obtain ⟨r, v, e1, e2, e3, e4, e5⟩ := hm.at hj hi
      rw [cdt (by omega), e2, Option.bind_some, Int.toNat_natCast, e1, Option.bind_some, Option.bind_some, e4, Option.bind_some, Option.bind_some, Int.toNat_natCast, e3, Option.bind_some]
      cases v with
      | true =>
        rw [cond_true, vbd (by simp; omega), Option.bind_some, wr (by omega) (by omega)]
        exact hr2 _ ⟨by simp; omega, fun _ => by simp⟩
      | false =>
        rw [cond_false, wr (by omega) (by omega)]
        refine hr2 _ ⟨by omega, fun h => hJ.2 ?_⟩
        rcases Nat.lt_or_ge i j with h' | h'
        · exact h'
        · have : j = i := by omega
          exact absurd (e5 this) (by simp)
    · unfold vpy vgl
      rw [cdf (by omega), vbd (by simp; omega), Option.bind_some, wr (by omega) (by omega)]
      refine hr _ ⟨by simp [hI1], fun q hq => ?_⟩
      rcases List.mem_append.1 hq with hq | hq
      · exact hI2 q hq
      · rw [List.mem_singleton] at hq
        subst hq
        exact ⟨hJ.2 hi, hJ.1⟩
  · unfold vmo vcw
    rw [cdf (by omega)]
    exact ⟨_, rfl, hI.1, hI.2⟩
theorem vbbq {n : Nat} (hn : n ≤ 100) {t4 : PTd} {m : List (List Bool)} (hm : MX n m) : Fr n (vei big (n : Int) t4 m (0 : Int)) := by
  refine vbnz (Q := Fr n) n (fun _ m => MX n m) (by omega) (fun rc z m hz hm hr => ?_) (fun rc m hm => ?_) 0 (by omega) _ hm
  · unfold vlt
    rw [cdt (by omega)]
    refine vbox (Q := Fr n) n (fun _ m => MX n m) (by omega) (fun rc x m hx hm hr2 => ?_) (fun rc m hm => ?_) 0 (by omega) _ hm
    · unfold voz
      rw [cdt (by omega)]
      refine vboi (Q := Fr n) n (fun _ m => MX n m) (by omega) (fun rc y m hy hm hr3 => ?_) (fun rc m hm => ?_) 0 (by omega) _ hm
      · unfold vqc
        obtain ⟨r, v, e1, e2, e3, e4, e5⟩ := hm.at hx hy
        obtain ⟨r', v', f1, f2, f3, f4, f5⟩ := hm.at hx hz
        rw [e1] at f1
        cases f1
        obtain ⟨s, u, g1, g2, g3, g4, g5⟩ := hm.at hz hy
        simp only [Int.toNat_natCast, cdt (show (y : Int) < n by omega), e1, e2, e3, e4, f3, f4, g1, g2, g3, g4, Option.bind_some]
        rw [wr (by omega) (by omega), show (y : Int) + 1 = ((y + 1 : Nat) : Int) by omega]
        cases v with
        | true =>
          rw [cond_true]
          exact hr3 _ (hm.set e1 fun _ => rfl)
        | false =>
          have hxy : x ≠ y := fun e => by have := e5 e; cases this
          rw [cond_false]
          cases v' with
          | true => rw [cond_true]; exact hr3 _ (hm.set e1 fun e => absurd e hxy)
          | false => rw [cond_false]; exact hr3 _ (hm.set e1 fun e => absurd e hxy)
      · unfold vqc vjm
        rw [cdf (by omega), wr (by omega) (by omega)]
        exact hr2 _ hm
    · unfold voz vcx
      rw [cdf (by omega), wr (by omega) (by omega)]
      exact hr _ hm
  · unfold vlt vcp
    rw [cdf (by omega)]
    exact vbhn hn hm
theorem vapz {n : Nat} (hn : n ≤ 100) {ps : List (Int × (Int × Unit))} (hl : ps.length ≤ 100000) (hp : ∀ p ∈ ps, (0 ≤ p.1 ∧ p.1 < n) ∧ 0 ≤ p.2.1 ∧ p.2.1 < n) : Fr n (zz9 big (n : Int) ps) := by
  unfold zz9 vbaj
  refine vbqc (Q := Fr n) n (fun i m => m.length = i ∧ (∀ r ∈ m, r.length = n) ∧ ∀ j, j < i → ∃ r, m[j]? = some r ∧ r[j]? = some true) (by omega) (fun rc i m hi hI hr => ?_) (fun rc m hI => ?_) 0 (by omega) _ ⟨rfl, by simp, by omega⟩
  · obtain ⟨h1, h2, h3⟩ := hI
    unfold vux
    have hil : i < (List.replicate n false).length := by simpa using hi
    rw [cdt (by omega), vazo false n (by omega), Option.bind_some, Option.bind_some, cdt (by omega), vak _ i hil, Option.bind_some, Int.toNat_natCast, List.getElem?_eq_getElem hil, Option.bind_some, vbd (by simp; omega), Option.bind_some, wr (by omega) (by omega)]
    refine hr _ ⟨by simp [h1], fun r hr => ?_, fun j hj => ?_⟩
    · rcases List.mem_append.1 hr with hr | hr
      · exact h2 r hr
      · rw [List.mem_singleton] at hr; rw [hr]; simp
    · by_cases e : j < i
      · obtain ⟨r, r1, r2⟩ := h3 j e
        exact ⟨r, by rw [List.getElem?_append_left (by omega)]; exact r1, r2⟩
      · have e : j = i := by omega
        subst e
        refine ⟨_, by rw [List.getElem?_append_right (by omega), h1, Nat.sub_self]; rfl, ?_⟩
        rw [List.getElem?_set_self hil]
  · unfold vux vqt
    rw [cdf (by omega)]
    refine vbqg (Q := Fr n) ps.length (fun _ m => MX n m) (by omega) (fun rc i m hi hm hr => ?_) (fun rc m hm => ?_) 0 (by omega) _ hI
    · unfold vsk
      obtain ⟨⟨a0, a1⟩, b0, b1⟩ := hp _ (List.getElem_mem hi)
      generalize hq : ps[i] = q at a0 a1 b0 b1
      obtain ⟨x, y, u⟩ := q
      simp only at a0 a1 b0 b1
      obtain ⟨x, rfl⟩ : ∃ x' : Nat, x = (x' : Int) := ⟨x.toNat, by omega⟩
      obtain ⟨y, rfl⟩ : ∃ y' : Nat, y = (y' : Int) := ⟨y.toNat, by omega⟩
      obtain ⟨r, v, e1, e2, e3, e4, e5⟩ := hm.at (x := x) (y := y) (by omega) (by omega)
      have ea : atI ps (i : Int) = some ((x : Int), ((y : Int), u)) := by rw [vak ps i hi, hq]
      simp only [Int.toNat_natCast, cdt (show (i : Int) < ps.length by omega), ea, e1, e2, e3, e4, Option.bind_some]
      rw [wr (by omega) (by omega)]
      exact hr _ (hm.set e1 fun _ => rfl)
    · unfold vsk vqo
      rw [cdf (by omega)]
      exact vbbq hn hm
theorem vbon {l : List Int} (hl : l.length ≤ 1000000) (n : Int) : ∃ l', zz10 big l n = some (l', ()) ∧ l'.length ≤ l.length + 1 := by
  have done : ∀ i : Nat, i ≤ l.length → ∃ l', veg l n (i : Int) = some (l', ()) ∧ l'.length ≤ l.length + 1 := by
    intro i hi
    unfold veg
    have s1 : slI l 0 (i : Int) = some ((l.drop 0).take i) := by unfold slI; rw [if_pos (by omega)]; simp
    have s2 : slI l (i : Int) (l.length : Int) = some ((l.drop i).take (l.length - i)) := by unfold slI; rw [if_pos (by omega), show ((l.length : Int) - (i : Int)).toNat = l.length - i by omega, Int.toNat_natCast]
    have tail : ∃ l', ((slI l 0 (i : Int)).bind fun xq8 => (appI [] xq8).bind fun xq9 => (appI xq9 [n]).bind fun xq10 => (slI l (i : Int) (l.length : Int)).bind fun xq11 => (appI xq10 xq11).bind fun xq12 => some (xq12, (()))) = some (l', ()) ∧ l'.length ≤ l.length + 1 := by
      rw [s1, Option.bind_some, vbd (by simp; omega), Option.bind_some, vbd (by simp; omega), Option.bind_some, s2, Option.bind_some, vbd (by simp; omega), Option.bind_some]
      exact ⟨_, rfl, by simp; omega⟩
    by_cases h : i < l.length
    · rw [cdt (by omega), vak l i h, Option.bind_some]
      by_cases c : l[i] = n
      · rw [cdt c]; exact ⟨l, rfl, by omega⟩
      · rw [cdf c]; exact tail
    · rw [cdf (by omega)]; exact tail
  unfold zz10 vark
  refine vbnf (Q := fun r => ∃ l', r = some (l', ()) ∧ l'.length ≤ l.length + 1) l.length (fun _ => True) (by omega) (fun rc i hi _ hr => ?_) (fun rc _ => ?_) 0 (by omega) trivial
  · unfold vnn
    rw [cdt (by omega), vak l i hi, Option.bind_some]
    by_cases c : l[i] < n
    · rw [cdt c, wr (by omega) (by omega)]; exact hr trivial
    · rw [cdf c]; exact done i (by omega)
  · unfold vnn
    rw [cdf (by omega)]
    exact done _ (by omega)
def Dq (m k : Nat) (r : Option (PTd × (Cu × Unit))) : Prop := ∃ p c', r = some (p, (c', ())) ∧ DrP m p ∧ COk k c'
theorem vbds {k : Nat} {t2 : PTd} {p : PTd} {c : Cu} (hp : p.1.length ≤ 11) (hr : ∀ r ∈ p.1, r.length ≤ 12) (hc : COk (k + 2 * (12 - p.1.length) + 2) c) : Dq 12 k (vaq big c t2 p) := by
  refine vbkw (Q := Dq 12 k) (fun _ p => 12 - p.1.length) (fun c p => p.1.length ≤ 11 ∧ (∀ r ∈ p.1, r.length ≤ 12) ∧ COk (k + 2 * (12 - p.1.length) + 2) c) (fun rc c p hI hrec => ?_) c p (by omega) ⟨hp, hr, hc⟩
  obtain ⟨h1, h2, h3⟩ := hI
  unfold vwd vif
  obtain ⟨v, c', e, v0, v1, hc'⟩ := vbg (k := k + 2 * (12 - p.1.length)) h3 2
  have hv := v1 (by omega)
  rw [e, Option.bind_some]
  dsimp only
  rw [wr (by omega) (by omega)]
  by_cases c : (p.1.length : Int) < 10 + v
  · rw [cdt c, vbd (by simp; omega), Option.bind_some]
    refine hrec _ _ ⟨by simp; omega, fun r hr => ?_, ?_⟩ (by simp; omega)
    · rcases List.mem_append.1 hr with hr | hr
      · exact h2 r hr
      · rw [List.mem_singleton] at hr; rw [hr]; simp
    · simp only [List.length_append, List.length_singleton]
      exact hc'.mono (by omega)
  · rw [cdf c]
    exact ⟨_, _, rfl, ⟨by omega, h2⟩, hc'.mono (by omega)⟩
theorem vww {k n : Nat} (hn : n ≤ 7) {t2 : PTd} {c : Cu} {ps : List (Int × (Int × Unit))} (hl : ps.length ≤ 1000) (hp : ∀ p ∈ ps, (0 ≤ p.1 ∧ p.1 < n) ∧ 0 ≤ p.2.1 ∧ p.2.1 < n) (hc : COk (k + 40) c) :
    Dq 12 k (vch (vaq big) c t2 (n : Int) ps) := by
  obtain ⟨p, e, p1, p2⟩ := vapz (n := n) (by omega) (by omega) hp
  have hd : DrP 12 p := ⟨by omega, fun r hr => by have := p2 r hr; omega⟩
  unfold vch
  rw [e, Option.bind_some]
  by_cases h0 : (n : Int) = 0
  · rw [cdt h0]
    exact ⟨_, _, rfl, hd, hc.mono (by omega)⟩
  · rw [cdf h0]
    obtain ⟨b, c1, e1, hc1⟩ := vhy (k := k + 38) hc 16
    rw [e1, Option.bind_some]
    cases b with
    | false => exact ⟨_, _, rfl, hd, hc1.mono (by omega)⟩
    | true =>
      simp only [Bool.not_true, cond_false]
      obtain ⟨x, c2, e2, x0, x1, hc2⟩ := vbg (k := k + 36) hc1 (n : Int)
      have hx := x1 (by omega)
      obtain ⟨v, c3, e3, _, _, hc3⟩ := vbg (k := k + 34) hc2 4
      rw [e2, Option.bind_some]
      dsimp only
      rw [e3, Option.bind_some]
      dsimp only
      have hxl : x.toNat < p.1.length := by omega
      have ea : atI p.1 x = some p.1[x.toNat] := by
        have := vak p.1 x.toNat hxl
        rwa [show ((x.toNat : Nat) : Int) = x by omega] at this
      have eb : p.1[x.toNat]? = some p.1[x.toNat] := List.getElem?_eq_getElem hxl
      have hrow := p2 _ (List.getElem_mem hxl)
      have upd : ∀ r : List Int, r.length ≤ 12 → DrP 12 (p.1.set x.toNat r, p.2) := fun r hr => ⟨by simp; omega, fun q hq => by
        rcases List.mem_or_eq_of_mem_set hq with hq | rfl
        · exact hd.2 q hq
        · exact hr⟩
      simp only [ea, eb, Option.bind_some]
      by_cases c0 : v = 0
      · rw [cdt c0]
        have s1 : slI p.1[x.toNat] (1 : Int) (p.1[x.toNat].length : Int) = some ((p.1[x.toNat].drop 1).take (p.1[x.toNat].length - 1)) := by unfold slI; rw [if_pos (by omega), show ((p.1[x.toNat].length : Int) - 1).toNat = p.1[x.toNat].length - 1 by omega]; rfl
        rw [s1, Option.bind_some]
        exact ⟨_, _, rfl, upd _ (by simp; omega), hc3.mono (by omega)⟩
      · rw [cdf c0]
        by_cases c1 : v = 1
        · rw [cdt c1, vbd (by simp; omega), Option.bind_some]
          exact ⟨_, _, rfl, upd _ (by simp; omega), hc3.mono (by omega)⟩
        · rw [cdf c1]
          by_cases c2' : v = 2
          · rw [cdt c2']
            obtain ⟨y, c4, e4, _, _, hc4⟩ := vbg (k := k + 32) hc3 (n : Int)
            obtain ⟨l', e5, hl'⟩ := vbon (l := p.1[x.toNat]) (by omega) y
            rw [e4, Option.bind_some]
            dsimp only
            rw [e5, Option.bind_some]
            exact ⟨_, _, rfl, upd _ (by simp only; omega), hc4.mono (by omega)⟩
          · rw [cdf c2']
            by_cases c3' : v = 3
            · rw [cdt c3']
              exact vbds (by omega) (fun r hr => by have := p2 r hr; omega) (hc3.mono (by omega))
            · rw [cdf c3']
              exact ⟨_, _, rfl, hd, hc3.mono (by omega)⟩
theorem vafa {n : Nat} {names : List Int} (hl : names.length = n) (hn : ∀ x ∈ names, 0 ≤ x ∧ x < n) {x : Int} (h0 : 0 ≤ x) (h1 : x < n) : ∃ v, atI names x = some v ∧ names[x.toNat]? = some v ∧ 0 ≤ v ∧ v < n := by
  have hx : x.toNat < names.length := by omega
  refine ⟨names[x.toNat], ?_, List.getElem?_eq_getElem hx, hn _ (List.getElem_mem hx)⟩
  have := vak names x.toNat hx
  rwa [show ((x.toNat : Nat) : Int) = x by omega] at this
theorem vbgz {k : Nat} {c : Cu} (hc : COk (k + 300) c) : Dq 12 k (zz11 big c) := by
  unfold zz11 varr
  obtain ⟨n, c0, e, hn, hc0⟩ := vry (k := k + 298) hc (l := [(0 : Int), 1, 2, 3, 4, 4, 5, 5, 6, 7]) (by simp)
  rw [e, Option.bind_some]
  dsimp only
  obtain ⟨n, rfl⟩ : ∃ m : Nat, n = (m : Int) := ⟨n.toNat, by simp at hn; omega⟩
  have hn7 : n ≤ 7 := by simp at hn; omega
  refine vboz (Q := Dq 12 k) n (fun i c ps => ps.length ≤ i * n ∧ (∀ p ∈ ps, (0 ≤ p.1 ∧ p.1 < n) ∧ 0 ≤ p.2.1 ∧ p.2.1 < n) ∧ COk (k + 100 + 2 * (n * (n - i))) c) (by omega) (fun rc i c ps hi hI hr => ?_) (fun rc c ps hI => ?_) 0 (by omega) _ _ ⟨by simp, by simp, hc0.mono (by have : n * (n - 0) ≤ 7 * 7 := Nat.mul_le_mul hn7 (by omega); omega)⟩
  · obtain ⟨h1, h2, h3⟩ := hI
    unfold vly
    rw [cdt (by omega), wr (by omega) (by omega), show (i : Int) + 1 = ((i + 1 : Nat) : Int) by omega]
    have hmul : n * (n - i) = n * (n - (i + 1)) + n := by
      rw [show n - i = (n - (i + 1)) + 1 by omega, Nat.mul_succ]
    have hmul2 : (i + 1) * n = i * n + n := Nat.succ_mul i n
    refine vbnu (Q := Dq 12 k) n (fun j c ps => ps.length ≤ i * n + j ∧ (∀ p ∈ ps, (0 ≤ p.1 ∧ p.1 < n) ∧ 0 ≤ p.2.1 ∧ p.2.1 < n) ∧ COk (k + 100 + 2 * (n * (n - (i + 1))) + 2 * (n - j)) c) (by omega) (fun rc2 j c ps hj hJ hr2 => ?_) (fun rc2 c ps hJ => ?_) (i + 1) (by omega) _ _ ⟨by omega, h2, h3.mono (by omega)⟩
    · obtain ⟨j1, j2, j3⟩ := hJ
      unfold vnf
      obtain ⟨b, c', e, hc'⟩ := vhy (k := k + 100 + 2 * (n * (n - (i + 1))) + 2 * (n - (j + 1))) (j3.mono (by omega)) 3
      have hin : i * n ≤ 7 * 7 := Nat.mul_le_mul (by omega) hn7
      rw [cdt (by omega), e, Option.bind_some, wr (by omega) (by omega)]
      cases b with
      | true =>
        rw [cond_true, vbd (by simp; omega), Option.bind_some]
        refine hr2 _ _ ⟨by simp; omega, fun p hp => ?_, hc'⟩
        rcases List.mem_append.1 hp with hp | hp
        · exact j2 p hp
        · rw [List.mem_singleton] at hp
          rw [hp]
          exact ⟨⟨by simp, by simp; omega⟩, by simp, by simp; omega⟩
      | false =>
        rw [cond_false]
        exact hr2 _ _ ⟨by omega, j2, hc'⟩
    · obtain ⟨j1, j2, j3⟩ := hJ
      unfold vnf vgp
      rw [cdf (by omega), wr (by omega) (by omega)]
      exact hr _ _ ⟨by omega, j2, j3.mono (by omega)⟩
  · obtain ⟨h1, h2, h3⟩ := hI
    have hnn : n * n ≤ 7 * 7 := Nat.mul_le_mul hn7 hn7
    unfold vly vcr
    rw [cdf (by omega)]
    obtain ⟨names, c1, e1, hl1, hc1⟩ := vacj (k := k + 60) (n := n) (by omega) (h3.mono (by omega))
    obtain ⟨b, e2, hb⟩ := vauq (n := n) (by omega) (l := names) (by omega)
    rw [e1, Option.bind_some]
    dsimp only
    rw [e2, Option.bind_some]
    cases b with
    | false =>
      rw [cond_false]
      exact vww hn7 (by omega) h2 (hc1.mono (by omega))
    | true =>
      obtain ⟨hb1, hb2⟩ := hb rfl
      obtain ⟨b, c2, e3, hc2⟩ := vhy (k := k + 58) hc1 2
      rw [cond_true, e3, Option.bind_some]
      cases b with
      | false =>
        rw [cond_false]
        exact vww hn7 (by omega) h2 (hc2.mono (by omega))
      | true =>
        rw [cond_true]
        refine vblw (Q := Dq 12 k) ps.length (fun _ qs => qs.length = ps.length ∧ ∀ p ∈ qs, (0 ≤ p.1 ∧ p.1 < n) ∧ 0 ≤ p.2.1 ∧ p.2.1 < n) (by omega) (fun rc2 i qs hi hI hr => ?_) (fun rc2 qs hI => ?_) 0 (by omega) _ ⟨rfl, h2⟩
        · obtain ⟨i1, i2⟩ := hI
          have hil : i < qs.length := by omega
          obtain ⟨⟨a0, a1⟩, b0, b1⟩ := i2 _ (List.getElem_mem hil)
          obtain ⟨x, x1, x2, x3, x4⟩ := vafa hb1 hb2 a0 a1
          obtain ⟨y, y1, y2, y3, y4⟩ := vafa hb1 hb2 b0 b1
          unfold vgh
          simp only [Int.toNat_natCast, cdt (show (i : Int) < qs.length by omega), vak qs i hil, List.getElem?_eq_getElem hil, x1, x2, y1, y2, Option.bind_some]
          rw [wr (by omega) (by omega)]
          refine hr _ ⟨by simpa using i1, fun p hp => ?_⟩
          rcases List.mem_or_eq_of_mem_set hp with hp | rfl
          · exact i2 p hp
          · exact ⟨⟨x3, x4⟩, y3, y4⟩
        · obtain ⟨i1, i2⟩ := hI
          unfold vgh
          rw [cdf (by omega)]
          exact vww hn7 (by omega) i2 (hc2.mono (by omega))
def okKnown (k : Nat) : Bool := match zz13 (k : Int) with
  | some (p, ()) => decide (p.1.length ≤ 9) && p.1.all (fun r => decide (r.length ≤ 9)) && (match zz18 big p with
    | some (ps, ()) => decide (ps.length ≤ 100) && ps.all fun q => decide (0 ≤ q.1) && decide (q.1 < (p.1.length : Int)) && decide (0 ≤ q.2.1) && decide (q.2.1 < (p.1.length : Int))
    | none => false)
  | none => false
theorem vaxl : (List.range 12).all okKnown = true := by kernel_rfl
theorem vbhk {k : Int} (h0 : 0 ≤ k) (h1 : k < 12) : ∃ p ps, zz13 k = some (p, ()) ∧ DrP 9 p ∧ zz18 big p = some (ps, ()) ∧ ps.length ≤ 100 ∧ ∀ q ∈ ps, (0 ≤ q.1 ∧ q.1 < p.1.length) ∧ 0 ≤ q.2.1 ∧ q.2.1 < p.1.length := by
  have h := List.all_eq_true.1 vaxl k.toNat (List.mem_range.2 (by omega))
  unfold okKnown at h
  rw [show ((k.toNat : Nat) : Int) = k by omega] at h
  split at h
  case h_2 => cases h
  rename_i p e
  simp only [Bool.and_eq_true, decide_eq_true_eq, List.all_eq_true] at h
  obtain ⟨⟨h1, h2⟩, h3⟩ := h
  split at h3
  case h_2 => cases h3
  rename_i ps e2
  simp only [Bool.and_eq_true, decide_eq_true_eq, List.all_eq_true] at h3
  exact ⟨p, ps, e, ⟨h1, h2⟩, e2, h3.1, fun q hq => by
    obtain ⟨⟨⟨a, b⟩, c⟩, d⟩ := h3.2 q hq
    exact ⟨⟨a, b⟩, c, d⟩⟩
theorem vawl {k : Nat} {c : Cu} (hc : COk (k + 400) c) : Dq 12 k (zz19 big c) := by
  unfold zz19 vaph
  obtain ⟨b, c1, e1, hc1⟩ := vhy (k := k + 398) hc 10
  rw [e1, Option.bind_some]
  cases b with
  | true =>
    rw [cond_true]
    obtain ⟨p, c2, e2, hp, hc2⟩ := vbgz (k := k + 98) hc1
    rw [e2, Option.bind_some]
    exact ⟨_, _, rfl, hp, hc2.mono (by omega)⟩
  | false =>
    rw [cond_false]
    obtain ⟨v, c2, e2, v0, v1, hc2⟩ := vbg (k := k + 396) hc1 12
    obtain ⟨p, ps, e3, hp, e4, hl, hps⟩ := vbhk v0 (v1 (by omega))
    have hp' : DrP 12 p := ⟨by have := hp.1; omega, fun r hr => by have := hp.2 r hr; omega⟩
    have hn := hp.1
    obtain ⟨names, c3, e5, hl1, hc3⟩ := vacj (k := k + 300) (n := p.1.length) (by omega) (hc2.mono (by omega))
    obtain ⟨b, e6, hb⟩ := vauq (n := p.1.length) (by omega) (l := names) (by omega)
    rw [e2, Option.bind_some]
    dsimp only
    rw [e3, Option.bind_some]
    dsimp only
    rw [e5, Option.bind_some]
    dsimp only
    rw [e6, Option.bind_some]
    cases b with
    | false => exact ⟨_, _, rfl, hp', hc3.mono (by omega)⟩
    | true =>
      obtain ⟨hb1, hb2⟩ := hb rfl
      obtain ⟨b, c4, e7, hc4⟩ := vhy (k := k + 298) hc3 2
      rw [cond_true, e7, Option.bind_some]
      cases b with
      | false => exact ⟨_, _, rfl, hp', hc4.mono (by omega)⟩
      | true =>
        rw [cond_true, e4, Option.bind_some]
        refine vbpu (Q := Dq 12 k) ps.length (fun _ qs => qs.length = ps.length ∧ ∀ q ∈ qs, (0 ≤ q.1 ∧ q.1 < p.1.length) ∧ 0 ≤ q.2.1 ∧ q.2.1 < p.1.length) (by omega) (fun rc2 i qs hi hI hr => ?_) (fun rc2 qs hI => ?_) 0 (by omega) _ ⟨rfl, hps⟩
        · obtain ⟨i1, i2⟩ := hI
          have hil : i < qs.length := by omega
          obtain ⟨⟨a0, a1⟩, b0, b1⟩ := i2 _ (List.getElem_mem hil)
          obtain ⟨x, x1, x2, x3, x4⟩ := vafa hb1 hb2 a0 a1
          obtain ⟨y, y1, y2, y3, y4⟩ := vafa hb1 hb2 b0 b1
          unfold von
          simp only [Int.toNat_natCast, cdt (show (i : Int) < qs.length by omega), vak qs i hil, List.getElem?_eq_getElem hil, x1, x2, y1, y2, Option.bind_some]
          rw [wr (by omega) (by omega)]
          refine hr _ ⟨by simpa using i1, fun q hq => ?_⟩
          rcases List.mem_or_eq_of_mem_set hq with hq | rfl
          · exact i2 q hq
          · exact ⟨⟨x3, x4⟩, y3, y4⟩
        · obtain ⟨i1, i2⟩ := hI
          unfold von vfc
          obtain ⟨p', e8, p1, p2⟩ := vapz (n := p.1.length) (by omega) (by omega) i2
          rw [cdf (by omega), e8, Option.bind_some]
          exact ⟨_, _, rfl, ⟨by show p'.1.length ≤ 12; omega, fun r hr => by have := p2 r hr; omega⟩, hc4.mono (by omega)⟩
theorem vkq {k : Nat} {c : Cu} (hc : COk (k + 4) c) {p : PTd} (hp : p.1.length ≤ 1000) : ∃ v c', zz85 c p = some (v, (c', ())) ∧ -1 ≤ v ∧ v ≤ p.1.length ∧ COk k c' := by
  unfold zz85 vbgb
  by_cases h : (p.1.length : Int) = 0
  · obtain ⟨v, c1, e, hv, hc1⟩ := vry (k := k + 2) hc (l := [(-1 : Int), (p.1.length : Int)]) (by simp)
    rw [cdt h, e, Option.bind_some]
    refine ⟨_, _, rfl, ?_, ?_, hc1.mono (by omega)⟩ <;> (simp at hv; simp only; omega)
  · obtain ⟨b, c1, e, hc1⟩ := vhy (k := k + 2) hc 24
    rw [cdf h, e, Option.bind_some]
    cases b with
    | true =>
      obtain ⟨v, c2, e, hv, hc2⟩ := vry (k := k) hc1 (l := [(-1 : Int), (p.1.length : Int)]) (by simp)
      rw [cond_true, e, Option.bind_some]
      refine ⟨_, _, rfl, ?_, ?_, hc2⟩ <;> (simp at hv; simp only; omega)
    | false =>
      obtain ⟨v, c2, e, v0, v1, hc2⟩ := vbg (k := k) hc1 (p.1.length : Int)
      have := v1 (by omega)
      rw [cond_false, e, Option.bind_some]
      exact ⟨_, _, rfl, by simp only; omega, by simp only; omega, hc2⟩
theorem vbjf {code : List Int} (hw : Wf (.pair (.sl (.int .u8)) .unit) (code, ())) (h : code.length ≤ 65536) : Codes code := by
  refine ⟨h, fun x hx => ?_⟩
  have := hw.1.2 x hx
  have h2 : (Lit.int .u8 x).wf = true := this
  simp only [Lit.wf, Bool.and_eq_true, decide_eq_true_eq] at h2
  have e1 : IntKind.u8.min = 0 := rfl
  have e2 : IntKind.u8.max = 255 := rfl
  rw [e1, e2] at h2
  exact h2
def Wd.dual : Wd → Wd
  | .v n => .v n
  | .op g a b => .op (-3 - g) a.dual b.dual
theorem cmp_mem {n : Nat} {le : Nat → Nat → Bool} {x y : Nat} : y ∈ comp n le x ↔ y < n ∧ mt n le y x = bt n le ∧ mt n (du le) y x = tp n le := by
  unfold comp rel
  rw [fl_mem, Bool.and_eq_true, decide_eq_true_eq, decide_eq_true_eq]
theorem vye {n : Nat} {le : Nat → Nat → Bool} {x y : Nat} (hx : x < n) (hy : y ∈ comp n le x) : x ∈ comp n le y := by
  obtain ⟨h1, h2, h3⟩ := cmp_mem.1 hy
  exact cmp_mem.2 ⟨hx, by rw [vel]; exact h2, by rw [vel]; exact h3⟩
def UniC (n : Nat) (le : Nat → Nat → Bool) : Prop := ∀ x, x < n → (comp n le x).length = 1
theorem UniC.cmp {n : Nat} {le : Nat → Nat → Bool} (h : UniC n le) : Cmp n le := fun x hx e => by have := h x hx; rw [e] at this; cases this
theorem UniC.one {n : Nat} {le : Nat → Nat → Bool} (h : UniC n le) {x a b : Nat} (hx : x < n) (ha : a ∈ comp n le x) (hb : b ∈ comp n le x) : a = b := by
  have := h x hx
  match hc : comp n le x with
  | [] => rw [hc] at ha; cases ha
  | [y] => rw [hc] at ha hb; simp at ha hb; omega
  | y :: z :: t => rw [hc] at this; simp at this
def Atm (n : Nat) (le : Nat → Nat → Bool) (p : Nat) : Prop := p < n ∧ p ≠ bt n le ∧ ∀ q, q < n → le q p = true → q = bt n le ∨ q = p
theorem vyv {n : Nat} {le : Nat → Nat → Bool} (h : LatP n le) {x : Nat} (hx : x < n) (e : le x (bt n le) = true) : x = bt n le := h.as hx (vyh h) e (vyd h hx)
theorem vadi {n : Nat} {le : Nat → Nat → Bool} (h : LatP n le) {x : Nat} (hx : x < n) (e : le (tp n le) x = true) : x = tp n le := h.as hx (vwm h) (vzf h hx) e
theorem vbhl {n : Nat} {le : Nat → Nat → Bool} (h : LatP n le) : ∀ k x, x < n → x ≠ bt n le → (fl n fun y => le y x).length ≤ k → ∃ p, Atm n le p ∧ le p x = true
  | 0, x, hx, _, hk => by
    have : x ∈ fl n fun y => le y x := fl_mem.2 ⟨hx, h.ord.refl x hx⟩
    have := List.length_pos_of_mem this
    omega
  | k + 1, x, hx, hb, hk => by
    by_cases ha : ∀ q, q < n → le q x = true → q = bt n le ∨ q = x
    · exact ⟨x, ⟨hx, hb, ha⟩, h.ord.refl x hx⟩
    · have ⟨q, hq⟩ := Classical.not_forall.1 ha
      have ⟨hq1, hq2⟩ := Classical.not_imp.1 hq
      have ⟨hq3, hq4⟩ := Classical.not_imp.1 hq2
      have h1 : q ≠ bt n le := fun e => hq4 (.inl e)
      have h2 : q ≠ x := fun e => hq4 (.inr e)
      have hlt : (fl n fun y => le y q).length < (fl n fun y => le y x).length :=
        vbmj (fun y hy e => h.tr hy hq1 hx e hq3) hx (h.ord.refl x hx) (by
          cases e : le x q with
          | false => rfl
          | true => exact absurd (h.as hq1 hx hq3 e) h2)
      obtain ⟨p, hp, hpq⟩ := vbhl h k q hq1 h1 (by omega)
      exact ⟨p, hp, h.tr hp.1 hq1 hx hpq hq3⟩
theorem vbfb {n : Nat} {le : Nat → Nat → Bool} (h : LatP n le) {x : Nat} (hx : x < n) (hb : x ≠ bt n le) : ∃ p, Atm n le p ∧ le p x = true := vbhl h _ x hx hb (Nat.le_refl _)
theorem vaoq {n : Nat} {le : Nat → Nat → Bool} (h : LatP n le) (hu : UniC n le) {x z : Nat} (hx : x < n) (hz : z < n) (ha : ∀ p, Atm n le p → le p x = true → le p z = true) : le x z = true := by
  have key : mt n le x z = x := by
    have hy := h.mlt hx hz
    obtain ⟨c, hc⟩ := List.exists_mem_of_ne_nil _ (hu.cmp (mt n le x z) hy)
    obtain ⟨c1, c2, c3⟩ := cmp_mem.1 hc
    have hcy := vye hy hc
    have hyx := h.m1 hx hz
    have h1 : mt n le x c = bt n le := by
      by_cases e : mt n le x c = bt n le
      · exact e
      · obtain ⟨p, hp, hpl⟩ := vbfb h (h.mlt hx c1) e
        have q1 := h.tr hp.1 (h.mlt hx c1) hx hpl (h.m1 hx c1)
        have q2 := h.tr hp.1 (h.mlt hx c1) c1 hpl (h.m2 hx c1)
        have q3 := h.mg hx hz hp.1 q1 (ha p hp q1)
        have q4 := h.mg c1 hy hp.1 q2 q3
        rw [c2] at q4
        exact absurd (vyv h hp.1 q4) hp.2.1
    have h2 : mt n (du le) x c = tp n le := by
      refine vadi h (jlt h hx c1) ?_
      rw [← c3]
      exact jg h c1 hy (jlt h hx c1) (j2 h hx c1) (h.tr hy hx (jlt h hx c1) hyx (j1 h hx c1))
    exact hu.one c1 hcy (cmp_mem.2 ⟨hx, h1, h2⟩)
  rw [← key]
  exact h.m2 hx hz
theorem vaoj {n : Nat} {le : Nat → Nat → Bool} (h : LatP n le) (hu : UniC n le) {p c : Nat} (hp : Atm n le p) (hc : c ∈ comp n le p) {x : Nat} (hx : x < n) (hn : ¬ le p x = true) : le x c = true := by
  obtain ⟨c1, c2, c3⟩ := cmp_mem.1 hc
  refine vaoq h hu hx c1 fun q hq hqx => ?_
  have hqp : q ≠ p := fun e => hn (e ▸ hqx)
  by_cases e : le q c = true
  · exact e
  · exfalso
    have hw := jlt h hq.1 c1
    have hqc : mt n le q c = bt n le := by
      rcases hq.2.2 _ (h.mlt hq.1 c1) (h.m1 hq.1 c1) with r | r
      · exact r
      · exact absurd (r ▸ h.m2 hq.1 c1) e
    have hwt : mt n (du le) q c ≠ tp n le := fun r => hqp (hu.one c1 (cmp_mem.2 ⟨hq.1, hqc, r⟩) (vye hp.1 hc))
    have hpw : ¬ le p (mt n (du le) q c) = true := fun r => hwt (vadi h hw (by
      rw [← c3]
      exact jg h c1 hp.1 hw (j2 h hq.1 c1) r))
    have h1 : mt n le (mt n (du le) q c) p = bt n le := by
      rcases hp.2.2 _ (h.mlt hw hp.1) (h.m2 hw hp.1) with r | r
      · exact r
      · exact absurd (r ▸ h.m1 hw hp.1) hpw
    have h2 : mt n (du le) (mt n (du le) q c) p = tp n le := vadi h (jlt h hw hp.1) (by
      rw [← c3]
      exact jg h c1 hp.1 (jlt h hw hp.1) (h.tr c1 hw (jlt h hw hp.1) (j2 h hq.1 c1) (j1 h hw hp.1)) (j2 h hw hp.1))
    have := hu.one hp.1 (cmp_mem.2 ⟨hw, h1, h2⟩) hc
    exact e (this ▸ j1 h hq.1 c1)
theorem vbmy {n : Nat} {le : Nat → Nat → Bool} (h : LatP n le) (hu : UniC n le) : Dis n le := fun x y z hx hy hz => by
  have h1 := jlt h hy hz
  have h2 := h.mlt hx hy
  have h3 := h.mlt hx hz
  refine h.as (h.mlt hx h1) (jlt h h2 h3) (vaoq h hu (h.mlt hx h1) (jlt h h2 h3) fun p hp hpl => ?_) ?_
  · have q1 := h.tr hp.1 (h.mlt hx h1) hx hpl (h.m1 hx h1)
    have q2 := h.tr hp.1 (h.mlt hx h1) h1 hpl (h.m2 hx h1)
    by_cases e1 : le p y = true
    · exact h.tr hp.1 h2 (jlt h h2 h3) (h.mg hx hy hp.1 q1 e1) (j1 h h2 h3)
    · by_cases e2 : le p z = true
      · exact h.tr hp.1 h3 (jlt h h2 h3) (h.mg hx hz hp.1 q1 e2) (j2 h h2 h3)
      · exfalso
        obtain ⟨c, hc⟩ := List.exists_mem_of_ne_nil _ (hu.cmp p hp.1)
        obtain ⟨c1, c2, c3⟩ := cmp_mem.1 hc
        have r1 := vaoj h hu hp hc hy e1
        have r2 := vaoj h hu hp hc hz e2
        have r3 := h.tr hp.1 h1 c1 q2 (jg h hy hz c1 r1 r2)
        have r4 := h.mg c1 hp.1 hp.1 r3 (h.ord.refl p hp.1)
        rw [c2] at r4
        exact hp.2.1 (vyv h hp.1 r4)
  · exact jg h h2 h3 (h.mlt hx h1) (h.mg hx h1 h2 (h.m1 hx hy) (h.tr h2 hy h1 (h.m2 hx hy) (j1 h hy hz))) (h.mg hx h1 h3 (h.m1 hx hz) (h.tr h3 hz h1 (h.m2 hx hz) (j2 h hy hz)))
theorem vazy {n : Nat} {le : Nat → Nat → Bool} (h : LatP n le) (hd : Dis n le) {x a b : Nat} (hx : x < n) (ha : a ∈ comp n le x) (hb : b ∈ comp n le x) : le a b = true := by
  obtain ⟨a1, a2, a3⟩ := cmp_mem.1 ha
  obtain ⟨b1, b2, b3⟩ := cmp_mem.1 hb
  have e := hd a b x a1 b1 hx
  rw [b3, a2] at e
  have : le a (mt n le a (tp n le)) = true := h.mg a1 (vwm h) a1 (h.ord.refl a a1) (vzf h a1)
  rw [e] at this
  exact h.tr a1 (jlt h (h.mlt a1 b1) (vyh h)) b1 this (jg h (h.mlt a1 b1) (vyh h) b1 (h.m2 a1 b1) (vyd h b1))
theorem vboh {n : Nat} {le : Nat → Nat → Bool} (h : LatP n le) (hd : Dis n le) (hc : Cmp n le) : UniC n le := fun x hx => by
  match e : comp n le x with
  | [] => exact absurd e (hc x hx)
  | [y] => rfl
  | y :: z :: t =>
    exfalso
    have m1 : y ∈ comp n le x := by rw [e]; simp
    have m2 : z ∈ comp n le x := by rw [e]; simp
    have := h.as (cmp_mem.1 m1).1 (cmp_mem.1 m2).1 (vazy h hd hx m1 m2) (vazy h hd hx m2 m1)
    have nd : (comp n le x).Nodup := List.nodup_range.filter _
    rw [e, this] at nd
    simp at nd
theorem vbez {n : Nat} {le : Nat → Nat → Bool} (h : LatP n le) (hd : Dis n le) {v a b : Nat} (hv : v < n) (ha : a < n) (hb : b < n) (e : le v (mt n (du le) a b) = true) : le v (mt n (du le) (mt n le v a) (mt n le v b)) = true := by
  rw [← hd v a b hv ha hb]
  exact h.mg hv (jlt h ha hb) hv (h.ord.refl v hv) e
theorem vbir {n : Nat} {le : Nat → Nat → Bool} (h : LatP n le) (hd : Dis n le) {x y : Nat} (hx : x < n) (hy : y ∈ comp n le x) : Cen n le x y := fun z hz => by
  obtain ⟨y1, y2, y3⟩ := cmp_mem.1 hy
  have h1 : mt n (du le) (mt n le z x) (mt n le z y) = z := by
    rw [← hd z x y hz hx y1, vel (le := du le), y3]
    exact h.as (h.mlt hz (vwm h)) hz (h.m1 hz (vwm h)) (h.mg hz (vwm h) hz (h.ord.refl z hz) (vzf h hz))
  refine ⟨h1, ?_⟩
  have l1 := jlt h hz hx
  have l2 := jlt h hz y1
  have l3 := h.mlt l1 l2
  refine h.as l3 hz ?_ (h.mg l1 l2 hz (j1 h hz hx) (j1 h hz y1))
  refine h.tr l3 (jlt h (h.mlt l3 hz) (h.mlt l3 hx)) hz (vbez h hd l3 hz hx (h.m1 l1 l2)) ?_
  refine jg h (h.mlt l3 hz) (h.mlt l3 hx) hz (h.m2 l3 hz) ?_
  have k1 := h.mlt l3 hx
  refine h.tr k1 (jlt h (h.mlt k1 hz) (h.mlt k1 y1)) hz (vbez h hd k1 hz y1 (h.tr k1 l3 l2 (h.m1 l3 hx) (h.m2 l1 l2))) ?_
  refine jg h (h.mlt k1 hz) (h.mlt k1 y1) hz (h.m2 k1 hz) ?_
  have k2 := h.mlt k1 y1
  have k3 := h.mg y1 hx k2 (h.m2 k1 y1) (h.tr k2 k1 hx (h.m1 k1 y1) (h.m2 l3 hx))
  rw [y2] at k3
  exact h.tr k2 (vyh h) hz k3 (vyd h hz)
theorem cenB_iff {n : Nat} {le : Nat → Nat → Bool} {x : Nat} : cenB n le x = true ↔ ∃ y, y ∈ comp n le x ∧ Cen n le x y := by
  unfold cenB
  rw [List.any_eq_true]
  exact ⟨fun ⟨y, h1, h2⟩ => ⟨y, h1, tv_iff.1 h2⟩, fun ⟨y, h1, h2⟩ => ⟨y, h1, tv_iff.2 h2⟩⟩
theorem cenA {n : Nat} {le : Nat → Nat → Bool} (h : LatP n le) {x y w : Nat} (hx : x < n) (hy : y < n) (hw : w < n) (hc : Cen n le x y) {u : Nat} (hu : u < n) (h1 : le (mt n le w x) u = true) (h2 : le (mt n le w y) u = true) : le w u = true := by
  have := (hc w hw).1
  rw [← this]
  exact jg h (h.mlt hw hx) (h.mlt hw hy) hu h1 h2
theorem cenBm {n : Nat} {le : Nat → Nat → Bool} (h : LatP n le) {x y w : Nat} (hx : x < n) (hy : y < n) (hw : w < n) (hc : Cen n le x y) {u : Nat} (hu : u < n) (h1 : le u (mt n (du le) w x) = true) (h2 : le u (mt n (du le) w y) = true) : le u w = true := by
  have := (hc w hw).2
  rw [← this]
  exact h.mg (jlt h hw hx) (jlt h hw hy) hu h1 h2
theorem vbec {n : Nat} {le : Nat → Nat → Bool} (h : LatP n le) {x y : Nat} (hx : x < n) (hy : y < n) (hA : ∀ w u, w < n → u < n → le (mt n le w x) u = true → le (mt n le w y) u = true → le w u = true)
    (hB : ∀ w u, w < n → u < n → le u (mt n (du le) w x) = true → le u (mt n (du le) w y) = true → le u w = true) : Cen n le x y := fun z hz => by
  have a1 := h.mlt hz hx
  have a2 := h.mlt hz hy
  have b1 := jlt h hz hx
  have b2 := jlt h hz hy
  exact ⟨h.as (jlt h a1 a2) hz (jg h a1 a2 hz (h.m1 hz hx) (h.m1 hz hy)) (hA z _ hz (jlt h a1 a2) (j1 h a1 a2) (j2 h a1 a2)),
    h.as (h.mlt b1 b2) hz (hB z _ hz (h.mlt b1 b2) (h.m1 b1 b2) (h.m2 b1 b2)) (h.mg b1 b2 hz (j1 h hz hx) (j1 h hz hy))⟩
theorem Cen.dual {n : Nat} {le : Nat → Nat → Bool} {x y : Nat} (hc : Cen n le x y) : Cen n (du le) x y := fun z hz => ⟨(hc z hz).2, (hc z hz).1⟩
theorem comp_dual {n : Nat} {le : Nat → Nat → Bool} {x y : Nat} : y ∈ comp n (du le) x ↔ y ∈ comp n le x := by
  rw [cmp_mem, cmp_mem]
  exact ⟨fun ⟨a, b, c⟩ => ⟨a, c, b⟩, fun ⟨a, b, c⟩ => ⟨a, c, b⟩⟩
structure CP (n : Nat) (le : Nat → Nat → Bool) (x y : Nat) : Prop where
  lx : x < n
  c : y ∈ comp n le x
  z : Cen n le x y
theorem CP.ly {n : Nat} {le : Nat → Nat → Bool} {x y : Nat} (p : CP n le x y) : y < n := (cmp_mem.1 p.c).1
theorem CP.sym {n : Nat} {le : Nat → Nat → Bool} {x y : Nat} (p : CP n le x y) : CP n le y x := ⟨p.ly, vye p.lx p.c, fun z hz => by
  have := p.z z hz
  rw [vel (le := du le) (mt n le z y), vel (mt n (du le) z y)]; exact this⟩
theorem CP.dual {n : Nat} {le : Nat → Nat → Bool} {x y : Nat} (p : CP n le x y) : CP n (du le) x y := ⟨p.lx, comp_dual.2 p.c, p.z.dual⟩
theorem CP.meet {n : Nat} {le : Nat → Nat → Bool} (h : LatP n le) {x x' a a' : Nat} (p : CP n le x x') (q : CP n le a a') : CP n le (mt n le x a) (mt n (du le) x' a') := by
  have hx := p.lx
  have hx' := p.ly
  have ha := q.lx
  have ha' := q.ly
  have lm := h.mlt hx ha
  have lj := jlt h hx' ha'
  obtain ⟨_, px1, px2⟩ := cmp_mem.1 p.c
  obtain ⟨_, qa1, qa2⟩ := cmp_mem.1 q.c
  refine ⟨lm, cmp_mem.2 ⟨lj, ?_, ?_⟩, vbec h lm lj ?_ ?_⟩
  · have k := h.mlt lj lm
    refine vyv h k ?_
    have k1 := h.m1 lj lm
    have k2 := h.tr k lm hx (h.m2 lj lm) (h.m1 hx ha)
    have k3 := h.tr k lm ha (h.m2 lj lm) (h.m2 hx ha)
    have k4 := cenBm h ha ha' hx' q.z k (h.tr k ha (jlt h hx' ha) k3 (j2 h hx' ha)) k1
    rw [← px1]
    exact h.mg hx' hx k k4 k2
  · have k := jlt h lj lm
    refine vadi h k ?_
    rw [← px2]
    refine jg h hx' hx k (h.tr hx' lj k (j1 h hx' ha') (j1 h lj lm)) ?_
    refine cenA h ha ha' hx q.z k (j2 h lj lm) ?_
    exact h.tr (h.mlt hx ha') ha' k (h.m2 hx ha') (h.tr ha' lj k (j2 h hx' ha') (j1 h lj lm))
  · intro w u hw hu e1 e2
    have wx := h.mlt hw hx
    have wj := h.mlt hw lj
    refine cenA h hx hx' hw p.z hu (cenA h ha ha' wx q.z hu ?_ ?_) ?_
    · have k := h.mlt wx ha
      have k1 := h.tr k wx hw (h.m1 wx ha) (h.m1 hw hx)
      have k2 := h.tr k wx hx (h.m1 wx ha) (h.m2 hw hx)
      exact h.tr k (h.mlt hw lm) hu (h.mg hw lm k k1 (h.mg hx ha k k2 (h.m2 wx ha))) e1
    · have k := h.mlt wx ha'
      have k1 := h.tr k wx hw (h.m1 wx ha') (h.m1 hw hx)
      exact h.tr k wj hu (h.mg hw lj k k1 (h.tr k ha' lj (h.m2 wx ha') (j2 h hx' ha'))) e2
    · have k := h.mlt hw hx'
      exact h.tr k wj hu (h.mg hw lj k (h.m1 hw hx') (h.tr k hx' lj (h.m2 hw hx') (j1 h hx' ha'))) e2
  · intro w u hw hu e1 e2
    have uz := h.mlt hu hx
    have uz' := h.mlt hu hx'
    have wm := jlt h hw lm
    have wj := jlt h hw lj
    refine cenA h hx hx' hu p.z hw (cenA h ha ha' uz q.z hw ?_ ?_) ?_
    · have k := h.mlt uz ha
      have k0 := h.tr k uz hu (h.m1 uz ha) (h.m1 hu hx)
      have k1 := h.tr k uz hx (h.m1 uz ha) (h.m2 hu hx)
      have k2 := h.m2 uz ha
      have wx' := jlt h hw hx'
      have k3 : le (mt n le (mt n le u x) a) (mt n (du le) w x') = true := by
        refine cenBm h ha ha' wx' q.z k (h.tr k ha (jlt h wx' ha) k2 (j2 h wx' ha)) ?_
        have t := jlt h wx' ha'
        refine h.tr k wj t (h.tr k hu wj k0 e2) (jg h hw lj t (h.tr hw wx' t (j1 h hw hx') (j1 h wx' ha')) (jg h hx' ha' t (h.tr hx' wx' t (j2 h hw hx') (j1 h wx' ha')) (j2 h wx' ha')))
      exact cenBm h hx hx' hw p.z k (h.tr k hx (jlt h hw hx) k1 (j2 h hw hx)) k3
    · have k := h.mlt uz ha'
      have k0 := h.tr k uz hu (h.m1 uz ha') (h.m1 hu hx)
      have wa := jlt h hw ha
      exact cenBm h ha ha' hw q.z k (h.tr k wm wa (h.tr k hu wm k0 e1) (jg h hw lm wa (j1 h hw ha) (h.tr lm ha wa (h.m2 hx ha) (j2 h hw ha)))) (h.tr k ha' (jlt h hw ha') (h.m2 uz ha') (j2 h hw ha'))
    · have wx := jlt h hw hx
      exact cenBm h hx hx' hw p.z uz' (h.tr uz' wm wx (h.tr uz' hu wm (h.m1 hu hx') e1) (jg h hw lm wx (j1 h hw hx) (h.tr lm hx wx (h.m1 hx ha) (j2 h hw hx)))) (h.tr uz' hx' (jlt h hw hx') (h.m2 hu hx') (j2 h hw hx'))
theorem CP.join {n : Nat} {le : Nat → Nat → Bool} (h : LatP n le) {x x' a a' : Nat} (p : CP n le x x') (q : CP n le a a') : CP n le (mt n (du le) x a) (mt n le x' a') :=
  (CP.meet h.du p.dual q.dual).dual
theorem vbom {n : Nat} {le : Nat → Nat → Bool} {x : Nat} (hx : x < n) : cenB n le x = true ↔ ∃ y, CP n le x y := by
  rw [cenB_iff]
  exact ⟨fun ⟨y, a, b⟩ => ⟨y, hx, a, b⟩, fun ⟨y, p⟩ => ⟨y, p.c, p.z⟩⟩
theorem CP.bot {n : Nat} {le : Nat → Nat → Bool} (h : LatP n le) : CP n le (bt n le) (tp n le) := by
  have b := vyh h
  have t := vwm h
  refine ⟨b, cmp_mem.2 ⟨t, vyv h (h.mlt t b) (h.m2 t b), vadi h (jlt h t b) (j1 h t b)⟩, vbec h b t ?_ ?_⟩
  · intro w u hw hu _ e
    exact h.tr hw (h.mlt hw t) hu (h.mg hw t hw (h.ord.refl w hw) (vzf h hw)) e
  · intro w u hw hu e _
    exact h.tr hu (jlt h hw b) hw e (jg h hw b hw (h.ord.refl w hw) (vyd h hw))
noncomputable def cbl (n : Nat) (le : Nat → Nat → Bool) (c : Nat) : List Nat := fl n fun z => cenB n le z && le z c
theorem vcg {n : Nat} {le : Nat → Nat → Bool} {c z : Nat} (hz : z < n) : z ∈ cbl n le c ↔ (∃ y, CP n le z y) ∧ le z c = true := by
  unfold cbl
  rw [fl_mem, Bool.and_eq_true, vbom hz]
  exact ⟨fun q => q.2, fun q => ⟨hz, q⟩⟩
theorem vkv {n : Nat} {le : Nat → Nat → Bool} {c z : Nat} (hz : z ∈ cbl n le c) : z < n := (fl_mem.1 hz).1
theorem cbl_nodup {n : Nat} {le : Nat → Nat → Bool} {c : Nat} : (cbl n le c).Nodup := List.nodup_range.filter _
theorem vwj {α : Type} {A B : List α} (f : α → α) (hA : A.Nodup) (hf : ∀ a, a ∈ A → f a ∈ B) (hi : ∀ a b, a ∈ A → b ∈ A → f a = f b → a = b) : A.length ≤ B.length := by
  have hn : (A.map f).Nodup := List.pairwise_map.2 (hA.imp_of_mem fun {a b} ha hb hne e => hne (hi a b ha hb e))
  have := hn.length_le_of_subset (l₂ := B) fun x hx => by
    obtain ⟨a, ha, rfl⟩ := List.mem_map.1 hx
    exact hf a ha
  simpa using this
theorem vxu {α : Type} (p : α → Bool) : ∀ l : List α, l.length = (l.filter p).length + (l.filter fun z => !p z).length
  | [] => rfl
  | x :: l => by
    have := vxu p l
    rw [List.filter_cons, List.filter_cons]
    cases p x <;> simp <;> omega
theorem vblx {n : Nat} {le : Nat → Nat → Bool} (h : LatP n le) {c a c' a' : Nat} (pc : CP n le c c') (pa : CP n le a a') (hac : le a c = true) (hm : ∀ z y, CP n le z y → le z a = true → z = bt n le ∨ z = a) (hab : a ≠ bt n le) :
    (cbl n le c).length = 2 * (cbl n le (mt n le c a')).length := by
  have la := pa.lx
  have la' := pa.ly
  have lc := pc.lx
  have lca := h.mlt lc la'
  obtain ⟨_, pa1, pa2⟩ := cmp_mem.1 pa.c
  have hsplit := vxu (fun z => le a z) (cbl n le c)
  have dich : ∀ z, z ∈ cbl n le c → ¬ le a z = true → le z a' = true := fun z hz hn => by
    have lz := vkv hz
    obtain ⟨⟨y, pz⟩, hzc⟩ := (vcg lz).1 hz
    have hb : mt n le z a = bt n le := by
      rcases hm _ _ (CP.meet h pz pa) (h.m2 lz la) with r | r
      · exact r
      · exact absurd (r ▸ h.m1 lz la) hn
    exact cenA h la la' lz pa.z la' (by rw [hb]; exact vyd h la') (h.m2 lz la')
  have naa' : ¬ le a a' = true := fun e => hab (vyv h la (by rw [← pa1]; exact h.mg la' la la e (h.ord.refl a la)))
  have e2 : (cbl n le c).filter (fun z => !le a z) = cbl n le (mt n le c a') := by
    unfold cbl fl
    rw [List.filter_filter]
    refine List.filter_congr fun z hz => ?_
    have lz := List.mem_range.1 hz
    rw [Bool.eq_iff_iff]
    simp only [Bool.and_eq_true, Bool.not_eq_true']
    constructor
    · rintro ⟨h1, h2, h3⟩
      exact ⟨h2, h.mg lc la' lz h3 (dich z (fl_mem.2 ⟨lz, by simp [h2, h3]⟩) (by simp [h1]))⟩
    · rintro ⟨h1, h2⟩
      have k1 := h.tr lz lca lc h2 (h.m1 lc la')
      have k2 := h.tr lz lca la' h2 (h.m2 lc la')
      refine ⟨?_, h1, k1⟩
      cases e : le a z with
      | false => rfl
      | true => exact absurd (h.tr la lz la' e k2) naa'
  have inv1 : ∀ z, z < n → le a z = true → mt n (du le) (mt n le z a') a = z := fun z lz e => by
    have r := (pa.z z lz).1
    have : mt n le z a = a := h.as (h.mlt lz la) la (h.m2 lz la) (h.mg lz la la e (h.ord.refl a la))
    rw [this, vel (le := du le)] at r
    exact r
  have inv2 : ∀ z, z < n → le z a' = true → mt n le (mt n (du le) z a) a' = z := fun z lz e => by
    have r := (pa.z z lz).2
    have : mt n (du le) z a' = a' := h.as (jlt h lz la') la' (jg h lz la' la' e (h.ord.refl a' la')) (j2 h lz la')
    rw [this] at r
    exact r
  have mem2 : ∀ z, z ∈ (cbl n le c).filter (fun z => !le a z) ↔ z ∈ cbl n le (mt n le c a') := fun z => by rw [e2]
  have hA : ∀ z, z ∈ (cbl n le c).filter (fun z => le a z) ↔ z ∈ cbl n le c ∧ le a z = true := fun z => List.mem_filter
  have le1 : ((cbl n le c).filter fun z => le a z).length ≤ (cbl n le (mt n le c a')).length := by
    refine vwj (fun z => mt n le z a') (cbl_nodup.filter _) (fun z hz => ?_) (fun z w hz hw e => ?_)
    · have ⟨h1, h2⟩ := (hA z).1 hz
      have lz := vkv h1
      obtain ⟨⟨y, pz⟩, hzc⟩ := (vcg lz).1 h1
      have lm := h.mlt lz la'
      exact (vcg lm).2 ⟨⟨_, CP.meet h pz pa.sym⟩, h.mg lc la' lm (h.tr lm lz lc (h.m1 lz la') hzc) (h.m2 lz la')⟩
    · have ⟨h1, h2⟩ := (hA z).1 hz
      have ⟨h3, h4⟩ := (hA w).1 hw
      rw [← inv1 z (vkv h1) h2, ← inv1 w (vkv h3) h4]
      exact congrArg (fun t => mt n (du le) t a) e
  have le2 : (cbl n le (mt n le c a')).length ≤ ((cbl n le c).filter fun z => le a z).length := by
    refine vwj (fun z => mt n (du le) z a) cbl_nodup (fun z hz => ?_) (fun z w hz hw e => ?_)
    · have lz := vkv hz
      obtain ⟨⟨y, pz⟩, hzc⟩ := (vcg lz).1 hz
      have lj := jlt h lz la
      exact (hA _).2 ⟨(vcg lj).2 ⟨⟨_, CP.join h pz pa⟩, jg h lz la lc (h.tr lz lca lc hzc (h.m1 lc la')) hac⟩, j2 h lz la⟩
    · have lz := vkv hz
      have lw := vkv hw
      have z1 := h.tr lz lca la' ((vcg lz).1 hz).2 (h.m2 lc la')
      have w1 := h.tr lw lca la' ((vcg lw).1 hw).2 (h.m2 lc la')
      rw [← inv2 z lz z1, ← inv2 w lw w1]
      exact congrArg (fun t => mt n le t a') e
  have e3 : ((cbl n le c).filter fun z => !le a z).length = (cbl n le (mt n le c a')).length := by rw [e2]
  omega
theorem vayv {n : Nat} {le : Nat → Nat → Bool} (h : LatP n le) : ∀ k x y, CP n le x y → x ≠ bt n le → (fl n fun y => le y x).length ≤ k → ∃ p p', CP n le p p' ∧ p ≠ bt n le ∧ le p x = true ∧ ∀ z y, CP n le z y → le z p = true → z = bt n le ∨ z = p
  | 0, x, y, hx, _, hk => by
    have : x ∈ fl n fun y => le y x := fl_mem.2 ⟨hx.lx, h.ord.refl x hx.lx⟩
    have := List.length_pos_of_mem this
    omega
  | k + 1, x, y, hx, hb, hk => by
    by_cases ha : ∀ z y, CP n le z y → le z x = true → z = bt n le ∨ z = x
    · exact ⟨x, y, hx, hb, h.ord.refl x hx.lx, ha⟩
    · have ⟨q, hq⟩ := Classical.not_forall.1 ha
      have ⟨q', hq⟩ := Classical.not_forall.1 hq
      have ⟨hq1, hq2⟩ := Classical.not_imp.1 hq
      have ⟨hq3, hq4⟩ := Classical.not_imp.1 hq2
      have h1 : q ≠ bt n le := fun e => hq4 (.inl e)
      have h2 : q ≠ x := fun e => hq4 (.inr e)
      have hlt : (fl n fun y => le y q).length < (fl n fun y => le y x).length :=
        vbmj (fun y hy e => h.tr hy hq1.lx hx.lx e hq3) hx.lx (h.ord.refl x hx.lx) (by
          cases e : le x q with
          | false => rfl
          | true => exact absurd (h.as hq1.lx hx.lx hq3 e) h2)
      obtain ⟨p, p', hp, hpb, hpq, hpm⟩ := vayv h k q q' hq1 h1 (by omega)
      exact ⟨p, p', hp, hpb, h.tr hp.lx hq1.lx hx.lx hpq hq3, hpm⟩
theorem vayw {n : Nat} {le : Nat → Nat → Bool} (h : LatP n le) : ∀ k c c', CP n le c c' → (cbl n le c).length ≤ k → ∃ m, (cbl n le c).length = 2 ^ m
  | 0, c, c', hc, hk => by
    have : c ∈ cbl n le c := (vcg hc.lx).2 ⟨⟨_, hc⟩, h.ord.refl c hc.lx⟩
    have := List.length_pos_of_mem this
    omega
  | k + 1, c, c', hc, hk => by
    have hmem : c ∈ cbl n le c := (vcg hc.lx).2 ⟨⟨_, hc⟩, h.ord.refl c hc.lx⟩
    have hpos := List.length_pos_of_mem hmem
    by_cases hb : c = bt n le
    · refine ⟨0, ?_⟩
      have h1 : (cbl n le c).length ≤ [bt n le].length := vwj id cbl_nodup (fun z hz => by
        have lz := vkv hz
        have := ((vcg lz).1 hz).2
        rw [hb] at this
        have := vyv h lz this
        simp [this]) (fun _ _ _ _ e => e)
      simp at h1
      omega
    · obtain ⟨a, a', pa, hab, hac, hm⟩ := vayv h _ c c' hc hb (Nat.le_refl _)
      have e := vblx h hc pa hac hm hab
      obtain ⟨m, hm2⟩ := vayw h k _ _ (CP.meet h hc pa.sym) (by omega)
      exact ⟨m + 1, by rw [e, hm2, Nat.pow_succ]; omega⟩
theorem vbmq {n : Nat} {le : Nat → Nat → Bool} (h : LatP n le) : ∃ m, (fl n (cenB n le)).length = 2 ^ m := by
  obtain ⟨m, hm⟩ := vayw h _ _ _ (CP.bot h).sym (Nat.le_refl _)
  refine ⟨m, ?_⟩
  rw [← hm]
  unfold cbl
  congr 1
  refine vabt fun x hx => ?_
  rw [vzf h hx, Bool.and_true]
theorem vlf (a : List Int) (h : a.length ≤ 400000000000) : zz60 big a a = some (true, ()) := by
  unfold zz60 vara
  rw [cdf (by omega)]
  refine vbnr a.length (fun i => True) (by omega) (fun rc i hi hI hr => ?_) (fun rc hI => ?_) 0 (by omega) trivial
  · unfold vlp
    rw [cdt (by omega), vak a i hi, Option.bind_some, Option.bind_some, cdf (by omega), wr1 (by omega)]
    exact hr trivial
  · unfold vlp vfd
    rw [cdf (by omega)]
theorem vbjg (l : List Int) (x : Int) (h : l.length ≤ 400000000000) (hx : x ∈ l) : zz93 big l x = some (true, ()) := by
  unfold zz93 vatb
  refine vbog l.length (fun i => x ∉ l.take i) (by omega) (fun rc i hi hI hr => ?_) (fun rc hI => ?_) 0 (by omega) (by simp)
  · unfold vup
    rw [cdt (by omega), vak l i hi, Option.bind_some, wr1 (by omega)]
    by_cases e : l[i] = x
    · rw [cdt e]
    · rw [cdf e]
      exact hr fun q => by
        rcases (vwo hi).1 q with r | r
        · exact hI r
        · exact e r.symm
  · exact absurd (by rwa [List.take_length]) hI
theorem vxr {n : Nat} {le : Nat → Nat → Bool} (h : LatP n le) (h1 : zz52 big (pos n le) = some (true, ())) : zz65 (pos n le) = some ((tv (Cmp n le), true, ()), ()) ∧ zz67 (pos n le) = some ((tv (Cmp n le), true, ()), ()) := by
  unfold zz67 varv zz65 vatj
  have h2 := vaz h
  have h10 := h.le10
  refine ⟨?_, ?_⟩
  · rw [h2, Option.bind_some]
    dsimp only
    rw [cond_true, vacx h, Option.bind_some]
  · rw [h1, Option.bind_some]
    dsimp only
    rw [Bool.not_true, cond_false, vanh h, Option.bind_some, vvu _ _ (by rw [mkR_len]; omega), Option.bind_some]
    congr 2
    refine congrArg (fun b => (b, true, ())) ?_
    symm
    refine vxz ?_
    rw [Bool.not_eq_true', decide_eq_false_iff_not, mkR_mem]
    constructor
    · intro hc x hx he
      exact hc ⟨x, hx, by rw [he]; rfl⟩
    · rintro hc ⟨x, hx, e⟩
      exact hc x hx (List.eq_nil_of_length_eq_zero (by omega))
theorem vaaa {p : PT} {l : Option (List (List Bool) × List (List Int) × List (List Int) × Unit)} (h1 : zz52 big p = some (false, ())) (h2 : zz32 p = some ((l, false, ()), ())) : zz65 p = some ((false, false, ()), ()) ∧ zz67 p = some ((false, false, ()), ()) := by
  unfold zz67 varv zz65 vatj
  exact ⟨by rw [h2]; rfl, by rw [h1]; rfl⟩
theorem vata {n : Nat} {le : Nat → Nat → Bool} (h : LatP n le) (h1 : zz52 big (pos n le) = some (true, ())) : zz71 (pos n le) = some ((tv (UniC n le), true, ()), ()) ∧ zz72 big (pos n le) = some ((tv (UniC n le), true, ()), ()) := by
  unfold zz72 vadq zz71 vatm
  have h2 := vaz h
  have h10 := h.le10
  refine ⟨?_, ?_⟩
  · rw [h2, Option.bind_some]
    dsimp only
    unfold zz70 vbeg
    rw [cond_true, Option.bind_some, lat1, vem (mkR_len n _) (by omega) (P := fun x => decide ((comp n le x).length ≠ 1))]
    · rw [Option.bind_some, cs_len, Option.bind_some]
      refine congrArg (fun b => some ((b, true, ()), ())) ?_
      symm
      refine vxz ?_
      rw [decide_eq_true_eq]
      constructor
      · intro e x hx
        have hn : ¬ x ∈ fl n fun x => decide ((comp n le x).length ≠ 1) := fun q => by
          have := List.length_pos_of_mem q
          omega
        rw [fl_mem] at hn
        simpa [hx] using hn
      · intro hc
        have : (fl n fun x => decide ((comp n le x).length ≠ 1)) = [] := List.eq_nil_iff_forall_not_mem.2 fun z hz => by
          have h1 := fl_mem.1 hz
          simp [hc z h1.1] at h1
        rw [this]; rfl
    · intro i hi
      unfold zz68 vbgi
      rw [vcz h hi, Option.bind_some, cs_len]
      congr 2
      exact decide_eq_decide.2 (by omega)
  · rw [h1, Option.bind_some]
    dsimp only
    rw [Bool.not_true, cond_false, vanh h, Option.bind_some]
    refine vboe n (fun i => ∀ z, z < i → (comp n le z).length = 1) (by omega) ?_ ?_ 0 (by omega) (by intro z hz; omega)
    · intro rc i hi hv ih
      unfold vnc
      rw [mkR_len, cdt (by omega), vag hi, Option.bind_some, Int.toNat_natCast, vco hi, Option.bind_some, wr1 (by omega)]
      by_cases e : (comp n le i).length = 1
      · rw [cdf (by omega)]
        exact ih (all_lt_succ.2 ⟨hv, e⟩)
      · rw [cdt (by omega), tv_f fun hc => e (hc i hi)]
    · intro rc hv
      unfold vnc viw
      rw [mkR_len, cdf (by omega), tv_t (P := UniC n le) hv]
theorem vawo {p : PT} {l : Option (List (List Bool) × List (List Int) × List (List Int) × Unit)} (h1 : zz52 big p = some (false, ())) (h2 : zz32 p = some ((l, false, ()), ())) : zz71 p = some ((false, false, ()), ()) ∧ zz72 big p = some ((false, false, ()), ()) := by
  unfold zz72 vadq zz71 vatm
  exact ⟨by rw [h2]; rfl, by rw [h1]; rfl⟩
def RelC (n : Nat) (le : Nat → Nat → Bool) : Prop := ∀ x, x < n → ∀ y, y < n → ∀ z, z < n → le x y = true → le y z = true → rel n le x y z ≠ []
theorem vbhc {n : Nat} {le : Nat → Nat → Bool} (h : LatP n le) (h1 : zz52 big (pos n le) = some (true, ())) : zz78 (pos n le) = some ((tv (RelC n le), true, ()), ()) ∧ zz79 big (pos n le) = some ((tv (RelC n le), true, ()), ()) := by
  unfold zz79 vaea zz78 vatu zz77 vact
  have h2 := vaz h
  have h10 := h.le10
  refine ⟨?_, ?_⟩
  · rw [h2, Option.bind_some]
    dsimp only
    rw [Bool.not_true, cond_false, Option.bind_some, lat1, mkR_len]
    have main : vzv big () (some (lat n le)) (n : Int) ((0 : Nat) : Int) = some ((tv (RelC n le), true, ()), ()) := by
      refine vbnd n (fun i => ∀ x, x < i → ∀ z, z < n → ∀ y, y < n → le x y = true → le y z = true → rel n le x y z ≠ []) (by omega) ?_ ?_ 0 (by omega) (by intro z hz; omega)
      · intro rc x hx hv ih
        unfold vng
        rw [cdt (by omega), Option.bind_some, lat1, mkR_len]
        refine vbnj n (fun k => ∀ z, z < k → ∀ y, y < n → le x y = true → le y z = true → rel n le x y z ≠ []) (by omega) ?_ ?_ 0 (by omega) (by intro z hz; omega)
        · intro rc2 z hz hv2 ih2
          unfold vnw
          have e : zz76 (some (lat n le)) (x : Int) (z : Int) = some (tv (∀ y, y < n → le x y = true → le y z = true → rel n le x y z ≠ []), ()) := by
            unfold zz76 vbhu zz75 vbfi
            rw [Option.bind_some, lat1, vck (mkR_len n _) (by omega) (P := fun y => le x y && (le y z && decide ((rel n le x y z).length = 0)))]
            · rw [Option.bind_some, cs_len, Option.bind_some]
              refine congrArg (fun b => some (b, ())) ?_
              symm
              refine vxz ?_
              rw [decide_eq_true_eq]
              constructor
              · intro e y hy h1 h2 h3
                have hn : y ∈ fl n fun y => le x y && (le y z && decide ((rel n le x y z).length = 0)) := fl_mem.2 ⟨hy, by simp [h1, h2, h3]⟩
                have := List.length_pos_of_mem hn
                omega
              · intro hc
                have : (fl n fun y => le x y && (le y z && decide ((rel n le x y z).length = 0))) = [] := List.eq_nil_iff_forall_not_mem.2 fun y hy => by
                  have h1 := fl_mem.1 hy
                  simp only [Bool.and_eq_true, decide_eq_true_eq] at h1
                  exact hc y h1.1 h1.2.1 h1.2.2.1 (List.eq_nil_of_length_eq_zero h1.2.2.2)
                rw [this]; rfl
            · intro y hy
              unfold zz73 vbep
              simp only [Option.bind_some, lat1, vag hx, vag hy, vag hz, vsa h hy, cs_len]
              cases le x y with
              | false => rfl
              | true =>
                cases le y z with
                | false => rfl
                | true =>
                  simp only [cond_true, Bool.true_and]
                  congr 2
                  exact decide_eq_decide.2 (by omega)
          rw [cdt (by omega), e, Option.bind_some, wr1 (by omega)]
          by_cases c : ∀ y, y < n → le x y = true → le y z = true → rel n le x y z ≠ []
          · rw [tv_t c]
            exact ih2 (all_lt_succ.2 ⟨hv2, c⟩)
          · rw [tv_f c, tv_f fun hc => c fun y hy => hc x hx y hy z hz]; rfl
        · intro rc2 hv2
          unfold vnw vin
          rw [cdf (by omega), wr1 (by omega)]
          exact ih (all_lt_succ.2 ⟨hv, hv2⟩)
      · intro rc hv
        unfold vng vdf
        rw [cdf (by omega), tv_t (P := RelC n le) fun x hx y hy z hz => hv x hx z hz y hy]
    rw [show (0 : Int) = ((0 : Nat) : Int) from rfl, main, Option.bind_some]
  · rw [h1, Option.bind_some]
    dsimp only
    rw [Bool.not_true, cond_false]
    refine vbmv n (fun i => ∀ x, x < i → ∀ y, y < n → ∀ z, z < n → le x y = true → le y z = true → rel n le x y z ≠ []) (by omega) ?_ ?_ 0 (by omega) (by intro z hz; omega)
    · intro rc x hx hv ih
      unfold vov
      rw [vai, cdt (by omega)]
      refine vbny n (fun i => ∀ y, y < i → ∀ z, z < n → le x y = true → le y z = true → rel n le x y z ≠ []) (by omega) ?_ ?_ 0 (by omega) (by intro z hz; omega)
      · intro rc2 y hy hv2 ih2
        unfold vot
        rw [vai, cdt (by omega)]
        refine vblk n (fun i => ∀ z, z < i → le x y = true → le y z = true → rel n le x y z ≠ []) (by omega) ?_ ?_ 0 (by omega) (by intro z hz; omega)
        · intro rc3 z hz hv3 ih3
          unfold vir
          rw [vai, cdt (by omega), vcq (by omega) hx hy, Option.bind_some, vcq (by omega) hy hz, Option.bind_some, veu h hy, Option.bind_some, wr1 (by omega), cs_len]
          cases e1 : le x y with
          | false => exact ih3 (all_lt_succ.2 ⟨hv3, fun q => absurd q (by simp [e1])⟩)
          | true =>
            cases e2 : le y z with
            | false => exact ih3 (all_lt_succ.2 ⟨hv3, fun _ q => absurd q (by simp [e2])⟩)
            | true =>
              simp only [cond_true]
              by_cases e3 : rel n le x y z = []
              · rw [cdt (by rw [e3]; rfl), tv_f fun hc => hc x hx y hy z hz e1 e2 e3]
              · rw [cdf (fun q => e3 (List.eq_nil_of_length_eq_zero (by omega)))]
                exact ih3 (all_lt_succ.2 ⟨hv3, fun _ _ => e3⟩)
        · intro rc3 hv3
          unfold vir ved
          rw [vai, cdf (by omega), wr1 (by omega)]
          exact ih2 (all_lt_succ.2 ⟨hv2, hv3⟩)
      · intro rc2 hv2
        unfold vot vdc
        rw [vai, cdf (by omega), wr1 (by omega)]
        exact ih (all_lt_succ.2 ⟨hv, hv2⟩)
    · intro rc hv
      unfold vov vcy
      rw [vai, cdf (by omega), tv_t (P := RelC n le) hv]
theorem vblz {p : PT} {l : Option (List (List Bool) × List (List Int) × List (List Int) × Unit)} (h1 : zz52 big p = some (false, ())) (h2 : zz32 p = some ((l, false, ()), ())) : zz78 p = some ((false, false, ()), ()) ∧ zz79 big p = some ((false, false, ()), ()) := by
  unfold zz79 vaea zz78 vatu zz77 vact
  exact ⟨by rw [h2]; rfl, by rw [h1]; rfl⟩
theorem vbnq {n : Nat} {le : Nat → Nat → Bool} (h : LatP n le) (hr : RelC n le) : Cmp n le := fun x hx =>
  hr _ (vyh h) x hx _ (vwm h) (vyd h hx) (vzf h hx)
theorem vaxu {n : Nat} {le : Nat → Nat → Bool} (h : LatP n le) : zz46 (pos n le) = some ((cs (fl n fun x => cenB n le x), true, ()), ()) := by
  have h10 := h.le10
  unfold zz46 vadg zz45 vada
  rw [vaz h]
  unfold zz44 vatd
  simp only [Option.bind_some, Bool.not_true, cond_false, lat1]
  rw [vdk (mkR_len n _) (by omega) (P := fun x => cenB n le x)]
  · rfl
  · intro i hi
    exact vxo h hi
theorem vbdd {n : Nat} {le : Nat → Nat → Bool} (h : LatP n le) : zz84 (pos n le) = some ((tv (Dis n le ∧ Cmp n le), true, ()), ()) := by
  unfold zz84 vbgq zz83 vbej
  rw [implBool h (vaz h), vaz h]
  rfl
theorem vzs {n : Nat} {le : Nat → Nat → Bool} (h : LatP n le) (h1 : zz52 big (pos n le) = some (true, ())) (x y : Int) : zz91 (pos n le) x y = some (inB n x && inB n y, ()) := by
  unfold zz91 vaqj
  rw [h1, Option.bind_some]
  dsimp only
  rw [cond_true, vrq, Option.bind_some]
  cases inB n x with
  | false => rfl
  | true => rw [cond_true, vrq, Option.bind_some]; rfl
theorem varx {p : PT} (h1 : zz52 big p = some (false, ())) (x y : Int) : zz91 p x y = some (false, ()) := by
  unfold zz91 vaqj
  rw [h1, Option.bind_some]; rfl
theorem vayb {p : PT} (hx : ∀ r ∈ p.1, r.length ≤ 4294967296) (x : Int) : (∃ n le, ∃ k : Nat, p = pos n le ∧ LatP n le ∧ x = (k : Int) ∧ k < n ∧ zz92 p x = some ((cs (comp n le k), true, ()), ()) ∧ ∀ j : Nat, j < n → zz89 p (j : Int) = some ((cs (comp n le j), true, ()), ())) ∨
    (zz89 p x = some (([], false, ()), ()) ∧ zz92 p x = some (([], false, ()), ())) := by
  unfold zz92 vbfu zz89 vbgt
  rcases vkw hx with ⟨n, le, e, h, h1, h2⟩ | ⟨h1, l, h2⟩
  · subst e
    have h10 := h.le10
    by_cases hk : inB n x = true
    · obtain ⟨k, hk1, rfl⟩ := vdq hk
      refine .inl ⟨n, le, k, rfl, h, rfl, hk1, ?_, fun j hj => ?_⟩
      · rw [vzs h h1, hk, Option.bind_some]
        dsimp only
        rw [Bool.and_true, Bool.not_true, cond_false, vkz h, Option.bind_some, vwl h, Option.bind_some, veu h hk1, Option.bind_some]
        rfl
      · have hh : ([(j : Int)]).all (inB n) = true := by simp [inB]; omega
        rw [h2, Option.bind_some]
        dsimp only
        rw [Bool.not_true, cond_false, Option.bind_some, lat1, vapf _ (by simp), Option.bind_some, hh]
        dsimp only
        rw [Bool.not_true, cond_false, vcz h hj, Option.bind_some]
    · have hk : inB n x = false := by simpa using hk
      refine .inr ⟨?_, ?_⟩
      · have hh : ([x]).all (inB n) = false := by simp [hk]
        rw [h2, Option.bind_some]
        dsimp only
        rw [Bool.not_true, cond_false, Option.bind_some, lat1, vapf _ (by simp), Option.bind_some, hh]
        rfl
      · rw [vzs h h1, hk]; rfl
  · exact .inr ⟨by rw [h2]; rfl, by rw [varx h1]; rfl⟩
theorem vbgj {p : PT} (hx : ∀ r ∈ p.1, r.length ≤ 4294967296) (x y z : Int) : ∃ v : List Int × Bool × Unit, zz95 p x y z = some (v, ()) ∧ zz96 p x y z = some (v, ()) ∧ v.1.length ≤ 10 := by
  unfold zz96 vbea zz95 vbgh
  rcases vkw hx with ⟨n, le, e, h, h1, h2⟩ | ⟨h1, l, h2⟩
  · subst e
    have h10 := h.le10
    rw [h2, Option.bind_some, vzs h h1, Option.bind_some]
    dsimp only
    rw [Bool.not_true, cond_false, Option.bind_some, lat1, vapf _ (by simp), Option.bind_some, vrq, Option.bind_some]
    simp only [List.all_cons, List.all_nil, Bool.and_true]
    by_cases hh : inB n x = true ∧ inB n y = true ∧ inB n z = true
    · obtain ⟨a, b, c⟩ := hh
      obtain ⟨i, hi, rfl⟩ := vdq a
      obtain ⟨j, hj, rfl⟩ := vdq b
      obtain ⟨k, hk, rfl⟩ := vdq c
      simp only [a, b, c, Bool.and_true, Bool.not_true, cond_false, Option.bind_some, lat1, vag hi, vag hj, vag hk, vcq (show n ≤ 4294967296 by omega) hi hj, vcq (show n ≤ 4294967296 by omega) hj hk, vsa h hj, veu h hj]
      cases le i j with
      | false => exact ⟨_, rfl, rfl, by simp⟩
      | true =>
        cases le j k with
        | false => exact ⟨_, rfl, rfl, by simp⟩
        | true =>
          refine ⟨_, rfl, rfl, ?_⟩
          have : (rel n le i j k).length ≤ n := vao _ _
          show (cs (rel n le i j k)).length ≤ 10
          rw [cs_len]; omega
    · refine ⟨([], false, ()), ?_, ?_, by simp⟩
      · have : (inB n x && (inB n y && inB n z)) = false := by
          cases e1 : inB n x <;> cases e2 : inB n y <;> cases e3 : inB n z <;> simp_all
        rw [this]; rfl
      · cases e1 : inB n x with
        | false => rfl
        | true =>
          cases e2 : inB n y with
          | false => rfl
          | true =>
            cases e3 : inB n z with
            | false => rfl
            | true => exact absurd ⟨e1, e2, e3⟩ hh
  · rw [h2, varx h1]
    exact ⟨_, rfl, rfl, by simp⟩
theorem vabm {code : List Int} (hc : Codes code) : ∃ p c, zz19 big (code, ((0 : Int), ((0 : Int), ()))) = some (p, (c, ())) ∧ DrP 12 p ∧ COk 9600 c := vawl (k := 9600) hc.start
theorem vapk {code : List Int} (hc : Codes code) : ∃ p, zz21 code = some (p, ()) ∧ DrP 12 p := by
  obtain ⟨p, c, e, hp, _⟩ := vabm hc
  unfold zz21 vbgo zz20 vbhb
  rw [e]
  exact ⟨p, rfl, hp⟩
theorem vapb {code : List Int} (hc : Codes code) : ∃ p x, zz87 code = some ((p, x, ()), ()) ∧ DrP 12 p := by
  obtain ⟨p, c, e, hp, hc1⟩ := vabm hc
  have hpl := hp.1
  obtain ⟨v, c', e2, _⟩ := vkq (k := 9000) (hc1.mono (by omega)) (p := p) (by omega)
  unfold zz87 vbee zz86 vbgd
  rw [e, Option.bind_some, e2]
  exact ⟨p, v, rfl, hp⟩
theorem DrP.rows12 {p : PT} (h : DrP 12 p) : ∀ r ∈ p.1, r.length ≤ 4294967296 := fun r hr => by have := h.2 r hr; omega
theorem vbau {code : List Int} (hc : Codes code) : ∃ p x y z, zz94 code = some ((p, x, y, z, ()), ()) ∧ DrP 12 p := by
  obtain ⟨p, c, e, hp, hc1⟩ := vabm hc
  have hpl := hp.1
  obtain ⟨x, c2, e2, _, _, hc2⟩ := vkq (k := 9500) (hc1.mono (by omega)) (p := p) (by omega)
  obtain ⟨y, c3, e3, _, _, hc3⟩ := vkq (k := 9400) (hc2.mono (by omega)) (p := p) (by omega)
  obtain ⟨z, c4, e4, _, _, hc4⟩ := vkq (k := 9300) (hc3.mono (by omega)) (p := p) (by omega)
  obtain ⟨b, c5, e5, _⟩ := vhy (k := 9200) (hc4.mono (by omega)) 4
  unfold zz94 vbhq
  rw [e, Option.bind_some]
  dsimp only
  rw [e2, Option.bind_some]
  dsimp only
  rw [e3, Option.bind_some]
  dsimp only
  rw [e4, Option.bind_some]
  dsimp only
  rcases vkw hp.rows12 with ⟨n, le, e6, h, h1, h2⟩ | ⟨h1, l, h2⟩
  · subst e6
    rw [vzs h h1, Option.bind_some]
    dsimp only
    by_cases hh : inB n x = true ∧ inB n y = true
    · obtain ⟨a, b1⟩ := hh
      rw [a, b1, Bool.and_true, cond_true, vrq, Option.bind_some]
      cases c1 : inB n z with
      | false => exact ⟨_, _, _, _, rfl, hp⟩
      | true =>
        rw [cond_true, e5, Option.bind_some]
        obtain ⟨i, hi, rfl⟩ := vdq a
        obtain ⟨j, hj, rfl⟩ := vdq b1
        obtain ⟨k, hk, rfl⟩ := vdq c1
        cases b with
        | true => exact ⟨_, _, _, _, rfl, hp⟩
        | false =>
          dsimp only
          rw [Bool.not_false, cond_true, veq h hi hj, Option.bind_some, vew h hj hk, Option.bind_some]
          exact ⟨_, _, _, _, rfl, hp⟩
    · have : (inB n x && inB n y) = false := by
        cases e1 : inB n x <;> cases e2 : inB n y <;> simp_all
      rw [this, cond_false]
      exact ⟨_, _, _, _, rfl, hp⟩
  · rw [varx h1, Option.bind_some]
    exact ⟨_, _, _, _, rfl, hp⟩
theorem vafu {code : List Int} (hc : Codes code) : ∃ q x l ok, zz87 code = some ((q, x, ()), ()) ∧ zz89 q x = some ((l, ok, ()), ()) ∧ zz92 q x = some ((l, ok, ()), ()) ∧ zz60 big l l = some (true, ()) ∧ laws_FnComplements_F33 big code q x l (0 : Int) = some (true, ()) := by
  obtain ⟨q, x, e1, hq⟩ := vapb hc
  have last : laws_FnComplements_a33 code = some (true, ()) := by
    obtain ⟨p, x, y, z, e, hp⟩ := vbau hc
    obtain ⟨v, v1, v2, v3⟩ := vbgj hp.rows12 x y z
    unfold laws_FnComplements_a33
    rw [e, Option.bind_some]
    dsimp only
    rw [v1, Option.bind_some, v2, Option.bind_some]
    dsimp only
    rw [beq_self_eq_true, cond_true, vlf _ (by omega), Option.bind_some]
  rcases vayb hq.rows12 x with ⟨n, le, k, rfl, h, rfl, hk, s1, s2⟩ | ⟨i1, s1⟩
  · have h10 := h.le10
    have hcl : (comp n le k).length ≤ n := vao _ _
    refine ⟨_, _, _, _, e1, s2 k hk, s1, vlf _ (by rw [cs_len]; omega), ?_⟩
    refine laws_FnComplements_h33 (comp n le k).length (fun _ => True) (by omega) (fun rc i hi hI hr => ?_) (fun rc hI => ?_) 0 (by omega) trivial
    · have hm := List.getElem_mem hi
      have hlt := vago hm
      have hb := vye hk hm
      have hcl2 : (comp n le (comp n le k)[i]).length ≤ n := vao _ _
      unfold laws_FnComplements_b33
      rw [cs_len, cdt (by omega), ver hi, Option.bind_some, Int.toNat_natCast, vaeg hi, Option.bind_some, s2 _ hlt, Option.bind_some]
      dsimp only
      rw [Bool.not_true, cond_false, vbjg _ _ (by rw [cs_len]; omega) (cs_mem.2 hb), Option.bind_some]
      dsimp only
      rw [Bool.not_true, cond_false, wr1 (by omega)]
      exact hr trivial
    · unfold laws_FnComplements_b33
      rw [cs_len, cdf (by omega), last]
  · refine ⟨_, _, _, _, e1, i1, s1, vlf _ (by simp), ?_⟩
    refine laws_FnComplements_h33 0 (fun _ => True) (by omega) (fun rc i hi hI hr => by omega) (fun rc hI => ?_) 0 (by omega) trivial
    unfold laws_FnComplements_b33
    rw [cdf (by simp), last]
theorem vbfp {code : List Int} (hc : Codes code) {p : PT} {cl : List Int} {so un re bo : Bool} (h1 : un = bo) (h2 : re = true → so = true) (h3 : un = true → so = true) (h4 : bo = true → cl.length = p.1.length) :
    laws_FnComplements_a23 (laws_FnComplements_F33 big) code p cl so un re bo true (1 : Int) = some (true, ()) := by
  obtain ⟨q, x, l, ok, e1, e2, e3, e4, e5⟩ := vafu hc
  subst h1
  unfold laws_FnComplements_a23
  rw [Bool.not_true, cond_false, cdf (by omega)]
  simp only [e1, e2, e3, e4, e5, Option.bind_some, Bool.not_true, cond_false, bne_self_eq_false]
  cases re with
  | true =>
    have := h2 rfl
    subst this
    cases un with
    | true => simp only [cond_true, Bool.not_true, cond_false, cdf (show ¬ ((cl.length : Int) ≠ (p.1.length : Int)) by have := h4 rfl; omega)]
    | false => rfl
  | false =>
    cases un with
    | true =>
      have := h3 rfl
      subst this
      simp only [cond_true, Bool.not_true, cond_false, cdf (show ¬ ((cl.length : Int) ≠ (p.1.length : Int)) by have := h4 rfl; omega)]
    | false => rfl
theorem vbad {code : List Int} (hc : Codes code) {p : PT} {cl : List Int} {so un re bo : Bool} (h1 : un = bo) (h2 : re = true → so = true) (h3 : un = true → so = true) (h4 : bo = true → cl.length = p.1.length) {m : Nat} (hm : cl.length = 2 ^ m) (hl : cl.length ≤ 100) :
    laws_FnComplements_F23 big code p cl so un re bo true (cl.length : Int) = some (true, ()) := by
  refine laws_FnComplements_w23 (fun v => v.toNat) (fun v => ∃ k : Nat, v = ((2 ^ k : Nat) : Int) ∧ 2 ^ k ≤ 100) (fun rc v hI hr => ?_) _ (by omega) ⟨m, by omega, by omega⟩
  obtain ⟨k, rfl, hk⟩ := hI
  unfold laws_FnComplements_b23
  cases k with
  | zero =>
    rw [cdf (by simp)]
    exact vbfp hc h1 h2 h3 h4
  | succ k =>
    have e2 : 2 ^ (k + 1) = 2 * 2 ^ k := by rw [Nat.pow_succ]; omega
    have hp : 0 < 2 ^ k := Nat.pow_pos (by omega)
    obtain ⟨w, hw⟩ : ∃ w, 2 ^ k = w := ⟨_, rfl⟩
    rw [e2] at hk hr ⊢
    rw [hw] at hk hr hp ⊢
    have r1 : remI ((2 * w : Nat) : Int) (2 : Int) = some 0 := by
      unfold remI
      rw [if_neg (by omega), show ((2 * w : Nat) : Int).tmod 2 = 0 by rw [Int.tmod_eq_emod_of_nonneg (by omega)]; omega]
    have r2 : quoI IntKind.i64 ((2 * w : Nat) : Int) (2 : Int) = some (w : Int) := by
      unfold quoI
      rw [if_neg (by omega), show ((2 * w : Nat) : Int).tdiv 2 = (w : Int) by rw [Int.tdiv_eq_ediv_of_nonneg (by omega)]; omega, wr (by omega) (by omega)]
    rw [cdt (by omega), r1, Option.bind_some, cdt rfl, r2, Option.bind_some]
    exact hr _ ⟨k, by rw [hw], by omega⟩ (by omega)
theorem true_FnComplements (code : List Int) (hw : Wf (.pair (.sl (.int .u8)) .unit) (code, ())) : laws_FnComplements big code = some (true, ()) := by
  unfold laws_FnComplements laws_FnComplements_s zz0 vbmf
  rw [Option.bind_some]
  dsimp only
  by_cases hl : code.length ≤ 65536
  case neg => rw [cdt (by omega)]
  have hc := vbjf hw hl
  obtain ⟨p, e1, hp⟩ := vapk hc
  have hx := hp.rows12
  obtain ⟨v, s1, i1, hv⟩ := vbdc p hx
  rw [cdf (by omega), e1, Option.bind_some]
  dsimp only
  rw [i1, Option.bind_some, s1, Option.bind_some]
  dsimp only
  rw [bne_self_eq_false, cond_false, vlf _ (by omega), Option.bind_some]
  dsimp only
  rw [Bool.not_true, cond_false]
  rcases vkw hx with ⟨n, le, e, h, h1, h2⟩ | ⟨h1, l, h2⟩
  · subst e
    have h10 := h.le10
    have iv := (vaxu h).symm.trans i1
    simp only [Option.some.injEq, Prod.mk.injEq, and_true] at iv
    subst iv
    obtain ⟨m, hm⟩ := vbmq h
    obtain ⟨c1, c2⟩ := vxr h h1
    obtain ⟨u1, u2⟩ := vata h h1
    obtain ⟨r1, r2⟩ := vbhc h h1
    have hfl := vao n fun x => cenB n le x
    simp only [c1, c2, u1, u2, r1, r2, vbdd h, Option.bind_some, bne_self_eq_false, cond_false, cond_true]
    refine vbad hc ?_ ?_ ?_ ?_ (m := m) (by rw [cs_len]; exact hm) (by rw [cs_len]; omega)
    · by_cases hu : UniC n le
      · rw [tv_t hu, tv_t ⟨vbmy h hu, hu.cmp⟩]
      · rw [tv_f hu, tv_f fun q => hu (vboh h q.1 q.2)]
    · exact fun q => tv_t (vbnq h (tv_iff.1 q))
    · exact fun q => tv_t (tv_iff.1 q).cmp
    · intro q
      have ⟨hd, hcm⟩ := tv_iff.1 q
      rw [cs_len, vai]
      have : fl n (fun x => cenB n le x) = fl n fun _ => true := vabt fun x hx => by
        obtain ⟨y, hy⟩ := List.exists_mem_of_ne_nil _ (hcm x hx)
        exact cenB_iff.2 ⟨y, hy, vbir h hd hx hy⟩
      rw [this]
      unfold fl
      rw [List.filter_eq_self.2 fun _ _ => rfl, List.length_range]
  · have iv : zz46 p = some (([], false, ()), ()) := by
      unfold zz46 vadg zz45 vada
      rw [h2]; rfl
    have iv := iv.symm.trans i1
    simp only [Option.some.injEq, Prod.mk.injEq, and_true] at iv
    subst iv
    obtain ⟨c1, c2⟩ := vaaa h1 h2
    obtain ⟨u1, u2⟩ := vawo h1 h2
    obtain ⟨r1, r2⟩ := vblz h1 h2
    obtain ⟨q, x, l, ok, e1, e2, e3, e4, e5⟩ := vafu hc
    simp only [c1, c2, u1, u2, r1, r2, e1, e2, e3, e4, e5, Option.bind_some, bne_self_eq_false, cond_false, Bool.not_true]
noncomputable def hv (n : Nat) (H : Nat → Bool) (E : Nat → Prop) : List Bool := mkR n fun z => H z || tv (E z)
structure GLat {α : Type} (le : α → α → Prop) (m j : α → α → α) : Prop where
  rf : ∀ a, le a a
  tr : ∀ {a b c}, le a b → le b c → le a c
  asy : ∀ {a b}, le a b → le b a → a = b
  m1 : ∀ a b, le (m a b) a
  m2 : ∀ a b, le (m a b) b
  mg : ∀ {a b c}, le c a → le c b → le c (m a b)
  j1 : ∀ a b, le a (j a b)
  j2 : ∀ a b, le b (j a b)
  jg : ∀ {a b c}, le a c → le b c → le (j a b) c
def GMod {α : Type} (le : α → α → Prop) (m j : α → α → α) : Prop := ∀ x y z, le x z → j x (m y z) = m (j x y) z
theorem GLat.dual {α : Type} {le : α → α → Prop} {m j : α → α → α} (H : GLat le m j) : GLat (fun a b => le b a) j m := ⟨H.rf, fun a b => H.tr b a, fun a b => H.asy b a, H.j1, H.j2, H.jg, H.m1, H.m2, H.mg⟩
theorem GLat.mc {α : Type} {le : α → α → Prop} {m j : α → α → α} (H : GLat le m j) (a b : α) : m a b = m b a := H.asy (H.mg (H.m2 a b) (H.m1 a b)) (H.mg (H.m2 b a) (H.m1 b a))
theorem GLat.jc {α : Type} {le : α → α → Prop} {m j : α → α → α} (H : GLat le m j) (a b : α) : j a b = j b a := H.dual.mc a b
theorem GMod.dual {α : Type} {le : α → α → Prop} {m j : α → α → α} (H : GLat le m j) (M : GMod le m j) : GMod (fun a b => le b a) j m := fun x y z h => by
  have := M z y x h
  rw [H.mc x (j y z), H.jc y z, ← this, H.jc, H.mc y x]
def Bst (Q : List Int → Prop) (b : List Int) : Prop := b = [] ∧ (∀ l, ¬ Q l) ∨ Q b ∧ ∀ l, Q l → lx l b = false
theorem Bst.congr {Q R : List Int → Prop} {b : List Int} (h : Bst Q b) (e : ∀ l, Q l ↔ R l) : Bst R b := by
  have : Q = R := funext fun l => propext (e l)
  rw [← this]; exact h
end Go.Proofs.Ytcdlbboeflehdaa
