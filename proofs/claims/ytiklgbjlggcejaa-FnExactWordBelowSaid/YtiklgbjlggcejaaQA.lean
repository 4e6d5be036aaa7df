import Derived.Test.YtiklgbjlggcejaaPTab
import Derived.Test.YtiklgbjlggcejaaHA
import Derived.KernelRfl
set_option linter.unusedVariables false
set_option linter.unusedSimpArgs false
namespace Go.Proofs.Ytiklgbjlggcejaa
open Go Go.Gx Go.Proofs

theorem toIntS_l (N : Nat) (k : List Int → Option (List Int × Unit)) : ∀ (n : Nat) (a out : List Int) (i : Nat), a.length - i < n → i ≤ a.length → out.length = a.length → a.length ≤ 1099511627776 →
    zz0_l3 N k n a out i = k (out.take i ++ a.drop i)
  | 0, _, _, _, h, _, _, _ => by omega
  | n + 1, a, out, i, h, hi, ho, hb => by
    simp only [zz0_l3, zz0_b3]
    by_cases hlt : i < a.length
    · rw [cdt (by omega), atI_lt a i hlt, Option.bind_some, atI_lt out i (by omega), Option.bind_some, Int.toNat_natCast, List.getElem?_eq_getElem (by omega), Option.bind_some, wr (by omega) (by omega)]
      have := toIntS_l N k n a (out.set i a[i]) (i + 1) (by omega) (by omega) (by simpa using ho) hb
      rw [show ((i : Int) + 1) = ((i + 1 : Nat) : Int) by omega, this]
      congr 1
      rw [List.take_succ_eq_append_getElem (by simp; omega), List.take_set, List.set_eq_of_length_le (by simp [Nat.min_le_left]), List.append_assoc]
      congr 1
      rw [List.getElem_set_self, List.singleton_append, ← List.drop_eq_getElem_cons hlt]
    · rw [cdf (by omega)]
      have : i = a.length := by omega
      subst this
      rw [List.drop_length, List.append_nil, List.take_of_length_le (by omega)]

theorem toIntS_eq (a : List Int) (h : a.length ≤ 4294967296) : zz0 big a = some (a, ()) := by
  have hb := big_ge
  unfold zz0 zz0_s
  rw [mkI_nat _ _ h, Option.bind_some, Option.bind_some, cdt (by omega)]
  unfold zz0_F3
  have := toIntS_l big zz0_a3 big a (List.replicate a.length 0) 0 (by omega) (by omega) (by simp) (by omega)
  refine Eq.trans this ?_
  simp [zz0_a3]

theorem eqIntS_l (N : Nat) (k : Option (Bool × Unit)) : ∀ (n : Nat) (a b : List Int) (i : Nat), a.length - i < n → i ≤ a.length → b.length = a.length → a.length ≤ 1099511627776 →
    zz18_l4 N k n a b i = if a.drop i = b.drop i then k else some (false, ())
  | 0, _, _, _, h, _, _, _ => by omega
  | n + 1, a, b, i, h, hi, hl, hb => by
    simp only [zz18_l4, zz18_b4]
    by_cases hlt : i < a.length
    · rw [cdt (by omega), atI_lt a i hlt, Option.bind_some, atI_lt b i (by omega), Option.bind_some, wr (by omega) (by omega)]
      have := eqIntS_l N k n a b (i + 1) (by omega) (by omega) hl hb
      rw [show ((i : Int) + 1) = ((i + 1 : Nat) : Int) by omega, this]
      rw [List.drop_eq_getElem_cons hlt, List.drop_eq_getElem_cons (show i < b.length by omega)]
      by_cases hx : a[i] = b[i]
      · rw [cdf (by simpa using hx), hx]; simp only [List.cons.injEq, true_and]
      · rw [cdt hx, if_neg (fun e => hx (by simp only [List.cons.injEq] at e; exact e.1))]
    · rw [cdf (by omega), List.drop_eq_nil_of_le (by omega), List.drop_eq_nil_of_le (by omega)]
      simp

theorem eqIntS_eq (a b : List Int) (h : a.length ≤ 1099511627775) : zz18 big a b = some (decide (a = b), ()) := by
  have hb := big_ge
  unfold zz18 zz18_s
  by_cases hl : a.length = b.length
  · rw [cdf (by simp [hl])]
    unfold zz18_F4
    have := eqIntS_l big zz18_a4 big a b 0 (by omega) (by omega) (by omega) (by omega)
    rw [show (0 : Int) = ((0 : Nat) : Int) from rfl, this]
    simp only [List.drop_zero, zz18_a4]
    by_cases he : a = b <;> simp [he]
  · rw [cdt (by omega)]
    have : a ≠ b := by rintro rfl; exact hl rfl
    simp [this]

def we : List Int → Nat → Nat → Option Nat
  | _, 0, c => some c
  | [], _ + 1, _ => none
  | x :: xs, n + 1, c => if x < -2 ∨ 5 ≤ x then none else if 0 ≤ x then we xs n (c + 1) else we xs (n + 2) (c + 1)

theorem we_zero (xs : List Int) (c : Nat) : we xs 0 c = some c := by cases xs <;> rfl

def wEnd (w : List Int) (i : Nat) : Int := match we (w.drop i) 1 i with
  | some e => e
  | none => -1

theorem wordEnd_l (N : Nat) (k : Int → Option (Int × Unit)) : ∀ (n : Nat) (w : List Int) (i need : Nat), w.length - i + 1 < n → i ≤ w.length → need + (w.length - i) ≤ 4611686018427387904 → w.length ≤ 4611686018427387904 →
    zz10_l2 N k n w i need = match we (w.drop i) need i with | some e => k e | none => some (-1, ())
  | 0, _, _, _, h, _, _, _ => by omega
  | n + 1, w, i, need, h, hi, hn, hb => by
    simp only [zz10_l2, zz10_b2]
    cases need with
    | zero => rw [cdf (by omega), we_zero]
    | succ need =>
      rw [cdt (by omega)]
      by_cases hlt : i < w.length
      · rw [cdf (by omega), atI_lt w i hlt, Option.bind_some, Option.bind_some, Option.bind_some, wr (n := (i : Int) + 1) (by omega) (by omega), wr (n := ((need + 1 : Nat) : Int) - 1) (by omega) (by omega), wr (n := ((need + 1 : Nat) : Int) + 1) (by omega) (by omega)]
        have h1 := wordEnd_l N k n w (i + 1) need (by omega) (by omega) (by omega) hb
        have h2 := wordEnd_l N k n w (i + 1) (need + 2) (by omega) (by omega) (by omega) hb
        rw [show ((i : Int) + 1) = ((i + 1 : Nat) : Int) by omega, show (((need + 1 : Nat) : Int) - 1) = (need : Int) by omega, show (((need + 1 : Nat) : Int) + 1) = ((need + 2 : Nat) : Int) by omega, h1, h2]
        rw [List.drop_eq_getElem_cons hlt]
        simp only [we]
        by_cases c1 : w[i] < -2
        · rw [cdt c1, if_pos (.inl c1)]
        · rw [cdf c1]
          by_cases c2 : 5 ≤ w[i]
          · rw [cdt c2, if_pos (.inr c2)]
          · rw [cdf c2, if_neg (by omega)]
            by_cases c3 : 0 ≤ w[i]
            · rw [cdt c3, if_pos c3]
            · rw [cdf c3, if_neg c3]
      · rw [cdt (by omega), List.drop_eq_nil_of_le (by omega)]
        rfl

theorem wordEnd_eq (w : List Int) (i : Nat) (hi : i ≤ w.length) (hb : w.length ≤ 1000000000) : zz10 big w i = some (wEnd w i, ()) := by
  have hg := big_ge
  unfold zz10 zz10_s zz10_F2
  have := wordEnd_l big zz10_a2 big w i 1 (by omega) hi (by omega) (by omega)
  rw [show (1 : Int) = ((1 : Nat) : Int) from rfl, this]
  unfold wEnd
  cases we (w.drop i) 1 i <;> rfl

theorem l1In_eq (x a b : Int) : zz1 x a b = some (decide (a ≤ x ∧ x ≤ b), ()) := by
  unfold zz1 zz1_s
  by_cases h : a ≤ x <;> simp [h]

theorem l28End_l (N : Nat) : ∀ (n : Nat) (w : List Int) (i o : Nat), w.length - i < n → i ≤ w.length → o + 1 + (w.length - i) ≤ 4611686018427387904 → w.length ≤ 4611686018427387904 →
    zz2_l3 N zz2_a3 n w ((o + 1 : Nat) : Int) i = some (match we (w.drop i) (o + 1) i with | some e => e | none => -1, ())
  | 0, _, _, _, h, _, _, _ => by omega
  | n + 1, w, i, o, h, hi, hn, hb => by
    simp only [zz2_l3, zz2_b3]
    by_cases hlt : i < w.length
    · rw [cdt (by omega), atI_lt w i hlt]
      simp only [Option.bind_some, l1In_eq]
      rw [wr (n := (i : Int) + 1) (by omega) (by omega), wr (n := ((o + 1 : Nat) : Int) - 1) (by omega) (by omega), wr (n := ((o + 1 : Nat) : Int) + 1) (by omega) (by omega)]
      have h2 := l28End_l N n w (i + 1) (o + 1) (by omega) (by omega) (by omega) hb
      rw [show ((i : Int) + 1) = ((i + 1 : Nat) : Int) by omega, show (((o + 1 : Nat) : Int) + 1) = ((o + 1 + 1 : Nat) : Int) by omega, h2]
      rw [List.drop_eq_getElem_cons hlt]
      simp only [we]
      rw [cdf (show ¬ (((o + 1 + 1 : Nat) : Int) = 0) by omega)]
      by_cases c1 : w[i] = -1
      · rw [cdt c1, if_neg (by omega), if_neg (by omega)]
      · rw [cdf c1]
        by_cases c2 : w[i] = -2
        · rw [cdt c2, if_neg (by omega), if_neg (by omega)]
        · rw [cdf c2]
          by_cases c3 : 0 ≤ w[i] ∧ w[i] ≤ 4
          · rw [cdt c3, if_neg (by omega), if_pos c3.1]
            cases o with
            | zero => rw [cdt (by omega), we_zero]
            | succ o =>
              have h1 := l28End_l N n w (i + 1) o (by omega) (by omega) (by omega) hb
              rw [cdf (by omega), show (((o + 1 + 1 : Nat) : Int) - 1) = ((o + 1 : Nat) : Int) by omega, h1]
          · rw [cdf c3, if_pos (by omega)]
    · rw [cdf (by omega), List.drop_eq_nil_of_le (by omega)]
      rfl

theorem l28End_eq (w : List Int) (i : Nat) (hi : i ≤ w.length) (hb : w.length ≤ 1000000000) : zz2 big w i = some (wEnd w i, ()) := by
  have hg := big_ge
  unfold zz2 zz2_s zz2_F3
  have := l28End_l big big w i 0 (by omega) hi (by omega) (by omega)
  rw [show (1 : Int) = ((0 + 1 : Nat) : Int) from rfl, this]
  rfl

def isWord (w : List Int) : Bool := decide (w.length ≤ 40) && decide (wEnd w 0 = w.length)

theorem implIsWord_eq (w : List Int) : zz11 w = some (isWord w, ()) := by
  unfold zz11 zz11_s isWord
  by_cases h : w.length ≤ 40
  · rw [cdt (by omega), show (0 : Int) = ((0 : Nat) : Int) from rfl, wordEnd_eq w 0 (by omega) (by omega), Option.bind_some]
    simp [h]
  · rw [cdf (by omega)]
    simp [h]

theorem l28Good_eq (w : List Int) : zz3 w = some (isWord w, ()) := by
  unfold zz3 zz3_s isWord
  by_cases h : w.length ≤ 40
  · rw [cdt (by omega), show (0 : Int) = ((0 : Nat) : Int) from rfl, l28End_eq w 0 (by omega) (by omega), Option.bind_some]
    by_cases he : wEnd w 0 = w.length
    · rw [cdt he]
      have : 0 < w.length := by
        rcases Nat.eq_zero_or_pos w.length with h0 | h0
        · have : w = [] := List.eq_nil_of_length_eq_zero h0
          subst this
          simp [wEnd, we] at he
        · exact h0
      simp [h, he]; omega
    · rw [cdf he]; simp [h, he]
  · rw [cdf (by omega)]
    simp [h]

def marks : Int → Nat → List Int
  | _, 0 => []
  | k, n + 1 => k :: marks (k + 1) n

theorem marks_len : ∀ (k : Int) (n : Nat), (marks k n).length = n
  | _, 0 => rfl
  | k, n + 1 => by simp [marks, marks_len (k + 1) n]

theorem markIntS_l (N : Nat) (kk : List Int → Int → Option (Int × (List Int × Unit))) : ∀ (n : Nat) (a : List Int) (k : Int) (i : Nat), a.length - i < n → i ≤ a.length → a.length ≤ 1099511627776 → 0 ≤ k → k ≤ 1125899906842624 →
    k + (a.length - i : Nat) ≤ 1125899906842624 → zz28_l2 N kk n a k i = kk (a.take i ++ marks k (a.length - i)) (k + (a.length - i : Nat))
  | 0, _, _, _, h, _, _, _, _, _ => by omega
  | n + 1, a, k, i, h, hi, hb, hk0, hk, hk2 => by
    simp only [zz28_l2, zz28_b2]
    by_cases hlt : i < a.length
    · rw [cdt (by omega), atI_lt a i hlt, Option.bind_some, Int.toNat_natCast, List.getElem?_eq_getElem hlt, Option.bind_some, wr (by omega) (by omega), wr (by omega) (by omega)]
      have := markIntS_l N kk n (a.set i k) (k + 1) (i + 1) (by simp; omega) (by simp; omega) (by simpa using hb) (by omega) (by omega) (by simp; omega)
      rw [show ((i : Int) + 1) = ((i + 1 : Nat) : Int) by omega, this]
      rw [List.length_set, List.take_succ_eq_append_getElem (by simp; omega), List.take_set, List.set_eq_of_length_le (by simp [Nat.min_le_left]), List.append_assoc, List.getElem_set_self]
      have e : a.length - i = (a.length - (i + 1)) + 1 := by omega
      rw [e, marks]
      congr 1
      omega
    · rw [cdf (by omega)]
      have : i = a.length := by omega
      subst this
      simp [marks]

theorem markIntS_eq (a : List Int) (k : Int) (h : a.length ≤ 1099511627775) (hk : 0 ≤ k) (hk2 : k ≤ 1099511627776) : zz28 big a k = some (k + a.length, (marks k a.length, ())) := by
  have hb := big_ge
  unfold zz28 zz28_s zz28_F2
  have := markIntS_l big zz28_a2 big a k 0 (by omega) (by omega) (by omega) hk (by omega) (by omega)
  refine Eq.trans this ?_
  simp [zz28_a2]

theorem heldIntS_l (N : Nat) (kk : Int → Option (Int × Unit)) : ∀ (n : Nat) (a b : List Int) (k : Int) (d : Nat), d < n → a = b ++ marks k d → a.length ≤ 1099511627776 → 0 ≤ k → k + d ≤ 1125899906842624 →
    zz29_l2 N kk n a k b.length = kk (k + d)
  | 0, _, _, _, _, h, _, _, _, _ => by omega
  | n + 1, a, b, k, d, h, ha, hb, hk0, hk => by
    simp only [zz29_l2, zz29_b2]
    have hlen : a.length = b.length + d := by rw [ha]; simp [marks_len]
    cases d with
    | zero => rw [cdf (by omega)]; simp
    | succ d =>
      have hlt : b.length < a.length := by omega
      have hx : a[b.length] = k := by
        have : a[b.length]? = some k := by rw [ha]; simp [marks]
        rw [List.getElem?_eq_getElem hlt] at this
        simpa using this
      rw [cdt (by omega), atI_lt a b.length hlt, Option.bind_some, hx, cdf (by simp), wr (by omega) (by omega), wr (by omega) (by omega)]
      have := heldIntS_l N kk n a (b ++ [k]) (k + 1) d (by omega) (by rw [ha, marks, List.append_assoc]; rfl) hb (by omega) (by omega)
      rw [List.length_append, List.length_singleton] at this
      rw [show ((b.length : Int) + 1) = ((b.length + 1 : Nat) : Int) by omega, this]
      congr 1
      omega

theorem heldIntS_eq (k : Int) (d : Nat) (h : d ≤ 1099511627775) (hk : 0 ≤ k) (hk2 : k ≤ 1099511627776) : zz29 big (marks k d) k = some (k + d, ()) := by
  have hb := big_ge
  unfold zz29 zz29_s zz29_F2
  exact heldIntS_l big zz29_a2 big (marks k d) [] k d (by omega) rfl (by rw [marks_len]; omega) hk (by omega)

theorem isWord_iff (w : List Int) : isWord w = true ↔ w.length ≤ 40 ∧ we w 1 0 = some w.length := by
  unfold isWord wEnd
  simp only [List.drop_zero, Bool.and_eq_true, decide_eq_true_eq]
  refine and_congr Iff.rfl ?_
  cases h : we w 1 0 with
  | none => simp
  | some e => simp; omega

theorem isWord_len {w : List Int} (h : isWord w = true) : w.length ≤ 40 := ((isWord_iff w).1 h).1

theorem l28Two_eq (s t : List Int) : zz4 s t = some (isWord s && isWord t, ()) := by
  unfold zz4 zz4_s
  rw [l28Good_eq, l28Good_eq, Option.bind_some, Option.bind_some]
  cases isWord s <;> rfl

theorem areWords_eq (s t : List Int) : zz12 s t = some (isWord s && isWord t, ()) := by
  unfold zz12 zz12_s
  rw [implIsWord_eq, implIsWord_eq, Option.bind_some, Option.bind_some]
  cases isWord s <;> rfl

def subst (l : Int) (s : List Int) : List Int → List Int
  | [] => []
  | x :: xs => if x = l then s ++ subst l s xs else x :: subst l s xs

structure Ord (n : Nat) (le : Nat → Nat → Bool) : Prop where
  refl : ∀ x, x < n → le x x = true
  anti : ∀ x y, x < n → y < n → x ≠ y → le x y = true → le y x = false
  trans : ∀ x y z, x < n → y < n → z < n → le x y = true → le y z = true → le x z = true

abbrev du (le : Nat → Nat → Bool) : Nat → Nat → Bool := fun x y => le y x

def low (n : Nat) (le : Nat → Nat → Bool) (S : List Nat) : List Nat := fl n fun z => S.all fun s => le z s

def grt (le : Nat → Nat → Bool) (L : List Nat) : Int := match L.find? fun x => L.all fun y => le y x with
  | some x => (x : Int)
  | none => -1

def bnd (n : Nat) (le : Nat → Nat → Bool) (S : List Nat) : Int := grt le (low n le S)

structure IsGlb (n : Nat) (le : Nat → Nat → Bool) (S : List Nat) (m : Nat) : Prop where
  lt : m < n
  lo : ∀ s ∈ S, le m s = true
  gr : ∀ z, z < n → (∀ s ∈ S, le z s = true) → le z m = true

theorem low_mem {n : Nat} {le : Nat → Nat → Bool} {S : List Nat} {z : Nat} : z ∈ low n le S ↔ z < n ∧ ∀ s ∈ S, le z s = true := by
  unfold low
  rw [fl_mem, List.all_eq_true]

theorem glb_of_bnd {n : Nat} {le : Nat → Nat → Bool} {S : List Nat} (h : 0 ≤ bnd n le S) : IsGlb n le S (bnd n le S).toNat := by
  unfold bnd grt at *
  cases hf : (low n le S).find? fun x => (low n le S).all fun y => le y x with
  | none => rw [hf] at h; exact absurd h (by decide)
  | some x =>
    have h1 := List.find?_some hf
    have h2 := low_mem.1 (List.mem_of_find?_eq_some hf)
    simp only [Int.toNat_natCast]
    exact ⟨h2.1, h2.2, fun z hz hs => List.all_eq_true.1 h1 z (low_mem.2 ⟨hz, hs⟩)⟩

structure Lat (n : Nat) (le : Nat → Nat → Bool) : Prop where
  ne : 0 < n
  meet : ∀ x y, x < n → y < n → 0 ≤ bnd n le [x, y]
  join : ∀ x y, x < n → y < n → 0 ≤ bnd n (du le) [x, y]

def mt (n : Nat) (le : Nat → Nat → Bool) (x y : Nat) : Nat := (bnd n le [x, y]).toNat

def lat (n : Nat) (le : Nat → Nat → Bool) : List (List Bool) × List (List Int) × List (List Int) × Unit :=
  (mkT n le, mkT n (fun x y => ((mt n le x y : Nat) : Int)), mkT n (fun x y => ((mt n (du le) x y : Nat) : Int)), ())

structure LatP (n : Nat) (le : Nat → Nat → Bool) : Prop where
  le10 : n ≤ 10
  ord : Ord n le
  lat : Lat n le

theorem Ord.du {n : Nat} {le : Nat → Nat → Bool} (h : Ord n le) : Ord n (du le) where
  refl := h.refl
  anti x y hx hy hxy h1 := by
    have h3 : le y x = true := h1
    show le x y = false
    by_cases h2 : le x y = true
    · rw [h.anti x y hx hy hxy h2] at h3; cases h3
    · simpa using h2
  trans x y z hx hy hz h1 h2 := h.trans z y x hz hy hx h2 h1

def ls (le : Nat → Nat → Bool) (x y : Nat) : Bool := decide (x ≠ y) && le x y

theorem LatP.du {n : Nat} {le : Nat → Nat → Bool} (h : LatP n le) : LatP n (du le) := ⟨h.le10, Ord.du h.ord, h.lat.ne, h.lat.join, h.lat.meet⟩

theorem LatP.glb {n : Nat} {le : Nat → Nat → Bool} (h : LatP n le) {x y : Nat} (hx : x < n) (hy : y < n) : IsGlb n le [x, y] (mt n le x y) := glb_of_bnd (h.lat.meet x y hx hy)

theorem LatP.m1 {n : Nat} {le : Nat → Nat → Bool} (h : LatP n le) {x y : Nat} (hx : x < n) (hy : y < n) : le (mt n le x y) x = true := (h.glb hx hy).lo x (by simp)

theorem LatP.m2 {n : Nat} {le : Nat → Nat → Bool} (h : LatP n le) {x y : Nat} (hx : x < n) (hy : y < n) : le (mt n le x y) y = true := (h.glb hx hy).lo y (by simp)

theorem j1 {n : Nat} {le : Nat → Nat → Bool} (h : LatP n le) {x y : Nat} (hx : x < n) (hy : y < n) : le x (mt n (du le) x y) = true := h.du.m1 hx hy

theorem j2 {n : Nat} {le : Nat → Nat → Bool} (h : LatP n le) {x y : Nat} (hx : x < n) (hy : y < n) : le y (mt n (du le) x y) = true := h.du.m2 hx hy

structure Pt (n : Nat) (P : Nat → Nat) : Prop where
  lo : ∀ x, x < n → P x ≤ x
  id : ∀ x, x < n → P (P x) = P x

theorem Pt.lt {n : Nat} {P : Nat → Nat} (h : Pt n P) {x : Nat} (hx : x < n) : P x < n := Nat.lt_of_le_of_lt (h.lo x hx) hx

def Lep (n : Nat) (P C : Nat → Nat) : Prop := ∀ x, x < n → C (P x) = C x

theorem Lep.refl {n : Nat} {P : Nat → Nat} (h : Pt n P) : Lep n P P := h.id

theorem Lep.trans {n : Nat} {P Q C : Nat → Nat} (h : Pt n P) (h1 : Lep n P Q) (h2 : Lep n Q C) : Lep n P C := fun x hx => by
  have e1 := h1 x hx
  have e2 := h2 (P x) (h.lt hx)
  have e3 := h2 x hx
  rw [← e2, e1, e3]

inductive Wd where
  | v (n : Int)
  | op (g : Int) (a b : Wd)

def Wd.fl : Wd → List Int
  | .v n => [n]
  | .op g a b => g :: (a.fl ++ b.fl)

def Wd.hd : Wd → Int
  | .v n => n
  | .op g _ _ => g

def Wd.ok : Wd → Prop
  | .v n => 0 ≤ n ∧ n < 5
  | .op g a b => (g = -1 ∨ g = -2) ∧ a.ok ∧ b.ok

theorem Wd.pos : ∀ A : Wd, 0 < A.fl.length
  | .v n => by simp [Wd.fl]
  | .op g a b => by simp [Wd.fl]

theorem we_fl : ∀ (A : Wd), A.ok → ∀ (r : List Int) (n c : Nat), we (A.fl ++ r) (n + 1) c = we r n (c + A.fl.length)
  | .v x, h, r, n, c => by
    simp only [Wd.ok] at h
    simp only [Wd.fl, List.cons_append, List.nil_append, we, List.length_cons, List.length_nil]
    rw [if_neg (by omega), if_pos h.1]
  | .op g a b, h, r, n, c => by
    obtain ⟨hg, ha, hb⟩ := h
    simp only [Wd.fl, List.cons_append, we]
    rw [if_neg (by omega), if_neg (by omega), List.append_assoc, we_fl a ha, we_fl b hb]
    simp only [List.length_cons, List.length_append]
    congr 1
    omega

theorem we_parse : ∀ (m : Nat) (xs : List Int) (n c e : Nat), xs.length ≤ m → we xs (n + 1) c = some e → ∃ A r, A.ok ∧ xs = Wd.fl A ++ r ∧ we r n (c + A.fl.length) = some e
  | _, [], n, c, e, _, h => by simp [we] at h
  | 0, _ :: _, _, _, _, hm, _ => by simp at hm
  | m + 1, x :: xs, n, c, e, hm, h => by
    simp only [List.length_cons] at hm
    simp only [we] at h
    split at h
    · cases h
    rename_i hx
    split at h
    · rename_i h0
      exact ⟨.v x, xs, ⟨h0, by omega⟩, rfl, h⟩
    · rename_i h0
      obtain ⟨A, r1, hA, e1, h1⟩ := we_parse m xs (n + 1) (c + 1) e (by omega) h
      have hl : r1.length ≤ m := by
        have := congrArg List.length e1
        simp only [List.length_append] at this
        omega
      obtain ⟨B, r2, hB, e2, h2⟩ := we_parse m r1 n _ e hl h1
      refine ⟨.op x A B, r2, ⟨by omega, hA, hB⟩, ?_, ?_⟩
      · rw [e1, e2]; simp [Wd.fl]
      · rw [← h2]
        congr 1
        simp [Wd.fl]
        omega

theorem fl_inj : ∀ (A B : Wd), A.ok → B.ok → ∀ (r r' : List Int), A.fl ++ r = B.fl ++ r' → A = B ∧ r = r'
  | .v x, .v y, _, _, r, r', h => by
    simp only [Wd.fl, List.cons_append, List.nil_append, List.cons.injEq] at h
    exact ⟨by rw [h.1], h.2⟩
  | .v x, .op g a b, ha, hb, r, r', h => by
    simp only [Wd.fl, List.cons_append, List.nil_append, List.cons.injEq] at h
    have h1 := ha.1
    have h2 := hb.1
    omega
  | .op g a b, .v x, ha, hb, r, r', h => by
    simp only [Wd.fl, List.cons_append, List.nil_append, List.cons.injEq] at h
    have h1 := ha.1
    have h2 := hb.1
    omega
  | .op g a b, .op g' a' b', ha, hb, r, r', h => by
    simp only [Wd.fl, List.cons_append, List.append_assoc, List.cons.injEq] at h
    obtain ⟨e0, h⟩ := h
    obtain ⟨e1, h⟩ := fl_inj a a' ha.2.1 hb.2.1 _ _ h
    obtain ⟨e2, h⟩ := fl_inj b b' ha.2.2 hb.2.2 _ _ h
    exact ⟨by rw [e0, e1, e2], h⟩

theorem word_tree {w : List Int} (h : isWord w = true) : ∃ A : Wd, A.ok ∧ A.fl = w := by
  obtain ⟨_, h⟩ := (isWord_iff w).1 h
  obtain ⟨A, r, hA, e, h2⟩ := we_parse w.length w 0 0 w.length (Nat.le_refl _) h
  rw [we_zero] at h2
  simp only [Option.some.injEq] at h2
  have := congrArg List.length e
  simp only [List.length_append] at this
  have hr : r = [] := List.eq_nil_of_length_eq_zero (by omega)
  exact ⟨A, hA, by rw [e, hr, List.append_nil]⟩

def wle : Wd → Wd → Bool
  | .v n, .v m => decide (n = m)
  | .v n, .op h c d => if h = -1 then wle (.v n) c && wle (.v n) d else wle (.v n) c || wle (.v n) d
  | .op g a b, .v m => if g = -2 then wle a (.v m) && wle b (.v m) else wle a (.v m) || wle b (.v m)
  | .op g a b, .op h c d => if g = -2 then wle a (.op h c d) && wle b (.op h c d) else if h = -1 then wle (.op g a b) c && wle (.op g a b) d else (wle a (.op h c d) || wle b (.op h c d)) || (wle (.op g a b) c || wle (.op g a b) d)
termination_by A B => A.fl.length + B.fl.length
decreasing_by all_goals (simp [Wd.fl]; try omega)

def At (s : List Int) (i : Nat) (A : Wd) : Prop := A.ok ∧ ∃ r, s.drop i = A.fl ++ r

theorem At.lt {s : List Int} {i : Nat} {A : Wd} (h : At s i A) : i + A.fl.length ≤ s.length := by
  obtain ⟨_, r, e⟩ := h
  have := congrArg List.length e
  have := A.pos
  simp only [List.length_drop, List.length_append] at *
  omega

theorem At.uniq {s : List Int} {i : Nat} {A B : Wd} (h : At s i A) (h' : At s i B) : A = B := by
  obtain ⟨ha, r, e⟩ := h
  obtain ⟨hb, r', e'⟩ := h'
  rw [e] at e'
  exact (fl_inj A B ha hb _ _ e').1

theorem At.end_ {s : List Int} {i : Nat} {A : Wd} (h : At s i A) : wEnd s i = ((i + A.fl.length : Nat) : Int) := by
  obtain ⟨ha, r, e⟩ := h
  unfold wEnd
  rw [e, we_fl A ha, we_zero]

theorem At.head {s : List Int} {i : Nat} {A : Wd} (h : At s i A) : atI s (i : Int) = some A.hd := by
  have hl := h.lt
  have hp := A.pos
  obtain ⟨_, r, e⟩ := h
  rw [atI_nat]
  have : s[i]? = (s.drop i)[0]? := by rw [List.getElem?_drop]; rfl
  rw [this, e]
  cases A <;> simp [Wd.fl, Wd.hd]

theorem At.left {s : List Int} {i : Nat} {g : Int} {a b : Wd} (h : At s i (.op g a b)) : At s (i + 1) a := by
  obtain ⟨⟨_, ha, _⟩, r, e⟩ := h
  refine ⟨ha, b.fl ++ r, ?_⟩
  rw [← List.drop_drop, e]
  simp [Wd.fl]

theorem At.right {s : List Int} {i : Nat} {g : Int} {a b : Wd} (h : At s i (.op g a b)) : At s (i + 1 + a.fl.length) b := by
  obtain ⟨⟨_, _, hb⟩, r, e⟩ := h
  refine ⟨hb, r, ?_⟩
  rw [← List.drop_drop, ← List.drop_drop, e]
  simp [Wd.fl]

theorem At.zero {A : Wd} (h : A.ok) : At A.fl 0 A := ⟨h, [], by simp⟩

abbrev K2 : Ty := .pair I (.pair I .unit)

def OkM (s t : List Int) (m : List ((Int × (Int × Unit)) × Bool)) : Prop :=
  ∀ (i k : Nat) A B, At s i A → At t k B → ∀ b, mget K2 .bool m ((i : Int), ((k : Int), ())) = some b → b = wle A B

theorem key_eq (x y : Int × (Int × Unit)) : eqD K2 x y = decide (x = y) := by
  obtain ⟨a, b, u⟩ := x
  obtain ⟨c, d, v⟩ := y
  show (decide (a = c) && (decide (b = d) && true)) = decide ((a, b, u) = (c, d, v))
  rw [Bool.eq_iff_iff]
  simp

theorem mget_mput (x y : Int × (Int × Unit)) (b : Bool) : ∀ m : List ((Int × (Int × Unit)) × Bool), mget K2 .bool (mput K2 .bool m x b) y = if y = x then some b else mget K2 .bool m y
  | [] => by
    show cond (eqD K2 y x) (some b) none = _
    rw [key_eq, cd]
    rfl
  | (z, c) :: m => by
    have ih := mget_mput x y b m
    show mget K2 .bool (cond (eqD K2 x z) ((x, b) :: m) ((z, c) :: mput K2 .bool m x b)) y = (if y = x then some b else cond (eqD K2 y z) (some c) (mget K2 .bool m y))
    rw [key_eq, cd, key_eq, cd]
    by_cases hx : x = z
    · rw [if_pos hx, ← hx]
      show cond (eqD K2 y x) (some b) (mget K2 .bool m y) = _
      rw [key_eq, cd]
      by_cases h : y = x <;> simp [h]
    · rw [if_neg hx]
      show cond (eqD K2 y z) (some c) (mget K2 .bool (mput K2 .bool m x b) y) = _
      rw [key_eq, cd, ih]
      by_cases hz : y = z
      · rw [if_pos hz, if_neg (by rintro rfl; exact hx hz), if_pos hz]
      · rw [if_neg hz, if_neg hz]

theorem wrN {n : Nat} (h : n ≤ 1000000000000) : IntKind.i64.wrap ((n : Int) + 1) = ((n + 1 : Nat) : Int) := by rw [wr (by omega) (by omega)]; omega

theorem implEnd_at {s : List Int} {i : Nat} {A : Wd} (hs : s.length ≤ 1000000) (h : At s i A) : zz10 big s (i : Int) = some (((i + A.fl.length : Nat) : Int), ()) := by
  rw [wordEnd_eq s i (by have := h.lt; omega) (by omega), h.end_]

theorem specEnd_at {s : List Int} {i : Nat} {A : Wd} (hs : s.length ≤ 1000000) (h : At s i A) : zz2 big s (i : Int) = some (((i + A.fl.length : Nat) : Int), ()) := by
  rw [l28End_eq s i (by have := h.lt; omega) (by omega), h.end_]

def Res (s t : List Int) (o : Option (Bool × (((List Int) × ((List Int) × ((List ((Int × (Int × Unit)) × Bool)) × Unit))) × Unit))) (b : Bool) : Prop := ∃ m', o = some (b, (s, (t, (m', ()))), ()) ∧ OkM s t m'

def GivesB (s t : List Int) (d : Nat) (A B : Wd) : Prop := ∀ (i k : Nat) m, At s i A → At t k B → OkM s t m → Res s t (R_zz13 d ((s, (t, (m, ()))), (i : Int), (k : Int), ())) (wle A B)

def GivesD (s t : List Int) (d : Nat) (A B : Wd) : Prop := ∀ (i k : Nat) m, At s i A → At t k B → OkM s t m → Res s t (R_zz14 d ((s, (t, (m, ()))), (i : Int), (k : Int), ())) (wle A B)

theorem below_of {s t : List Int} {d : Nat} {A B : Wd} (h : GivesD s t d A B) : GivesB s t (d + 1) A B := by
  intro i k m hA hB hm
  show Res s t (zz13 (R_zz13 d) (R_zz14 d) (s, (t, (m, ()))) (i : Int) (k : Int)) (wle A B)
  unfold zz13 zz13_s
  simp only
  cases hg : mget K2 .bool m ((i : Int), ((k : Int), ())) with
  | none =>
    obtain ⟨m', h1, h2⟩ := h i k m hA hB hm
    rw [h1]
    refine ⟨_, rfl, fun i' k' A' B' hA' hB' b hb => ?_⟩
    simp only [mget_mput] at hb
    split at hb
    · rename_i e
      simp only [Prod.mk.injEq, and_true] at e
      have e1 : (i' : Int) = (i : Int) := e.1
      have e2 : (k' : Int) = (k : Int) := e.2
      have e1 : i' = i := by omega
      have e2 : k' = k := by omega
      subst e1 e2
      cases hb
      rw [hA'.uniq hA, hB'.uniq hB]
    · exact h2 i' k' A' B' hA' hB' b hb
  | some b =>
    refine ⟨m, ?_, hm⟩
    rw [← hm i k A B hA hB b hg]
    rfl

theorem impl_below {s t : List Int} (hs : s.length ≤ 1000000) (ht : t.length ≤ 1000000) : ∀ (n : Nat) (A B : Wd), A.fl.length + B.fl.length ≤ n → (∀ d, 2 * (A.fl.length + B.fl.length) ≤ d → GivesD s t d A B) := by
  intro n
  induction n with
  | zero => intro A B h; have := A.pos; omega
  | succ n ih =>
    intro A B hn d hd
    have pa := A.pos
    have pb := B.pos
    cases d with
    | zero => omega
    | succ d =>
    have sub : ∀ A' B' : Wd, A'.fl.length + B'.fl.length < A.fl.length + B.fl.length → GivesB s t d A' B' := by
      intro A' B' h
      have := A'.pos
      cases d with
      | zero => omega
      | succ d => exact below_of (ih A' B' (by omega) d (by omega))
    intro i k m hA hB hm
    show Res s t (zz14 (R_zz13 d) (R_zz14 d) (s, (t, (m, ()))) (i : Int) (k : Int)) (wle A B)
    unfold zz14 zz14_s
    have hAl := hA.lt
    have hBl := hB.lt
    have okA := hA.1
    have okB := hB.1
    obtain ⟨x, hx⟩ : ∃ x, x = A.hd := ⟨_, rfl⟩
    obtain ⟨y, hy⟩ : ∃ y, y = B.hd := ⟨_, rfl⟩
    have hah := hA.head
    have hbh := hB.head
    rw [← hx] at hah
    rw [← hy] at hbh
    simp only [hah, hbh, Option.bind_some]
    rw [wrN (n := i) (by omega), wrN (n := k) (by omega)]
    cases A with
    | v x' =>
      have hx : x = x' := hx
      have hx0 : 0 ≤ x := by rw [hx]; exact okA.1
      cases B with
      | v y' =>
        have hy : y = y' := hy
        have hy0 : 0 ≤ y := by rw [hy]; exact okB.1
        rw [cdf (by omega), cdf (by omega), cdt hx0, cdt hy0]
        exact ⟨m, by simp [wle, hx, hy], hm⟩
      | op g a b =>
        have hy : y = g := hy
        have hgo := okB.1
        obtain ⟨m1, q1, o1⟩ := sub (.v x') a (by simp [Wd.fl]; omega) i (k + 1) m hA hB.left hm
        rw [cdf (by omega)]
        by_cases hg : y = -1
        · rw [cdt hg, q1]
          simp only [Option.bind_some]
          rw [implEnd_at ht hB.left]
          obtain ⟨m2, q2, o2⟩ := sub (.v x') b (by simp [Wd.fl]; omega) i (k + 1 + a.fl.length) m1 hA hB.right o1
          simp only [Option.bind_some, q2]
          rw [wle, if_pos (hy ▸ hg)]
          cases wle (.v x') a
          · exact ⟨m1, by simp, o1⟩
          · exact ⟨m2, by simp, o2⟩
        · rw [cdf hg, cdt hx0, cdf (by omega), cdf (by omega), cdt (by omega), q1]
          simp only [Option.bind_some]
          rw [implEnd_at ht hB.left]
          obtain ⟨m2, q2, o2⟩ := sub (.v x') b (by simp [Wd.fl]; omega) i (k + 1 + a.fl.length) m1 hA hB.right o1
          simp only [Option.bind_some, q2]
          rw [wle, if_neg (by omega)]
          cases wle (.v x') a
          · exact ⟨m2, by simp, o2⟩
          · exact ⟨m1, by simp, o1⟩
    | op g a b =>
      have hx : x = g := hx
      have hgo := okA.1
      by_cases hg : x = -2
      · obtain ⟨m1, q1, o1⟩ := sub a B (by simp [Wd.fl]; omega) (i + 1) k m hA.left hB hm
        obtain ⟨m2, q2, o2⟩ := sub b B (by simp [Wd.fl]; omega) (i + 1 + a.fl.length) k m1 hA.right hB o1
        rw [cdt hg, q1]
        simp only [Option.bind_some]
        rw [implEnd_at hs hA.left]
        simp only [Option.bind_some, q2]
        have e : wle (.op g a b) B = (wle a B && wle b B) := by cases B <;> rw [wle, if_pos (by omega)]
        rw [e]
        cases wle a B
        · exact ⟨m1, by simp, o1⟩
        · exact ⟨m2, by simp, o2⟩
      · cases B with
        | v y' =>
          have hy : y = y' := hy
          have hy0 : 0 ≤ y := by rw [hy]; exact okB.1
          obtain ⟨m1, q1, o1⟩ := sub a (.v y') (by simp [Wd.fl]; omega) (i + 1) k m hA.left hB hm
          obtain ⟨m2, q2, o2⟩ := sub b (.v y') (by simp [Wd.fl]; omega) (i + 1 + a.fl.length) k m1 hA.right hB o1
          rw [cdf hg, cdf (by omega), cdf (by omega), cdt (by omega), q1]
          simp only [Option.bind_some]
          rw [implEnd_at hs hA.left]
          simp only [Option.bind_some, q2]
          rw [cdf (by omega), wle, if_neg (by omega)]
          cases wle a (.v y')
          · cases wle b (.v y')
            · exact ⟨m2, by simp, o2⟩
            · exact ⟨m2, by simp, o2⟩
          · exact ⟨m1, by simp, o1⟩
        | op h c e =>
          have hy : y = h := hy
          have hho := okB.1
          rw [cdf hg]
          by_cases hh : y = -1
          · obtain ⟨m1, q1, o1⟩ := sub (.op g a b) c (by simp [Wd.fl]; omega) i (k + 1) m hA hB.left hm
            obtain ⟨m2, q2, o2⟩ := sub (.op g a b) e (by simp [Wd.fl]; omega) i (k + 1 + c.fl.length) m1 hA hB.right o1
            rw [cdt hh, q1]
            simp only [Option.bind_some]
            rw [implEnd_at ht hB.left]
            simp only [Option.bind_some, q2]
            rw [wle, if_neg (by omega), if_pos (by omega)]
            cases wle (.op g a b) c
            · exact ⟨m1, by simp, o1⟩
            · exact ⟨m2, by simp, o2⟩
          · obtain ⟨m1, q1, o1⟩ := sub a (.op h c e) (by simp [Wd.fl]; omega) (i + 1) k m hA.left hB hm
            obtain ⟨m2, q2, o2⟩ := sub b (.op h c e) (by simp [Wd.fl]; omega) (i + 1 + a.fl.length) k m1 hA.right hB o1
            obtain ⟨m3, q3, o3⟩ := sub (.op g a b) c (by simp [Wd.fl]; omega) i (k + 1) m2 hA hB.left o2
            obtain ⟨m4, q4, o4⟩ := sub (.op g a b) e (by simp [Wd.fl]; omega) i (k + 1 + c.fl.length) m3 hA hB.right o3
            rw [cdf hh, cdf (by omega), cdt (by omega), q1]
            simp only [Option.bind_some]
            rw [implEnd_at hs hA.left]
            simp only [Option.bind_some, q2]
            rw [cdt (show y = -2 by omega), q3]
            simp only [Option.bind_some]
            rw [implEnd_at ht hB.left]
            simp only [Option.bind_some, q4]
            rw [wle, if_neg (by omega), if_neg (by omega)]
            cases wle a (.op h c e)
            · cases wle b (.op h c e)
              · cases wle (.op g a b) c
                · exact ⟨m4, by simp, o4⟩
                · exact ⟨m3, by simp, o3⟩
              · exact ⟨m2, by simp, o2⟩
            · exact ⟨m1, by simp, o1⟩

theorem wordBelow_eq {A B : Wd} (hA : A.ok) (hB : B.ok) (ha : A.fl.length ≤ 40) (hb : B.fl.length ≤ 40) : zz16 A.fl B.fl = some (wle A B, ()) := by
  have hg := big_ge
  unfold zz16 zz16_s
  obtain ⟨d, hd⟩ : ∃ d, big = d + 1 := ⟨big - 1, by omega⟩
  have h := below_of (impl_below (s := A.fl) (t := B.fl) (by omega) (by omega) _ A B (Nat.le_refl _) d (by omega))
  obtain ⟨m', q, _⟩ := h 0 0 [] (At.zero hA) (At.zero hB) (fun i k A B _ _ b hb => by simp [mget] at hb)
  rw [hd]
  have q : R_zz13 (d + 1) ((A.fl, (B.fl, ([], ()))), (0 : Int), (0 : Int), ()) = some (wle A B, (A.fl, (B.fl, (m', ()))), ()) := q
  rw [q]
  rfl

def OkL (s t : List Int) (L : List Int) (i k : Nat) : Prop := ∀ A B, At s i A → At t k B → ∀ x : Int, L[i * t.length + k]? = some x → x = 0 ∨ x = if wle A B then 1 else 2

def SRes (s t L : List Int) (o : Option (Bool × ((List Int) × Unit))) (b : Bool) : Prop := ∃ L', o = some (b, (L', ())) ∧ L'.length = L.length ∧ ∀ i k, k < t.length → OkL s t L i k → OkL s t L' i k

def GivesF (s t : List Int) (d : Nat) (A B : Wd) : Prop := ∀ (i k : Nat) L, At s i A → At t k B → L.length = s.length * t.length → (∀ i' k', k' < t.length → i + k ≤ i' + k' → OkL s t L i' k') → SRes s t L (R_zz5 d (s, t, (i : Int), (k : Int), L, ())) (wle A B)

def GivesA (s t : List Int) (d : Nat) (A B : Wd) : Prop := ∀ (i k : Nat) L, At s i A → At t k B → L.length = s.length * t.length → (∀ i' k', k' < t.length → i + k + 1 ≤ i' + k' → OkL s t L i' k') → SRes s t L (R_zz6 d (s, t, (i : Int), (k : Int), L, ())) (wle A B)

theorem place_inj {n i k i' k' : Nat} (hk : k < n) (hk' : k' < n) (h : i * n + k = i' * n + k') : i = i' ∧ k = k' := by
  have e1 : (i * n + k) / n = i := by rw [Nat.mul_comm, Nat.mul_add_div (by omega), Nat.div_eq_of_lt hk]; omega
  have e2 : (i' * n + k') / n = i' := by rw [Nat.mul_comm, Nat.mul_add_div (by omega), Nat.div_eq_of_lt hk']; omega
  have e : i = i' := by rw [← e1, ← e2, h]
  subst e
  omega

theorem place_lt {m n i k : Nat} (hi : i < m) (hk : k < n) : i * n + k < m * n := by
  have : (i + 1) * n ≤ m * n := Nat.mul_le_mul_right n hi
  rw [Nat.succ_mul] at this
  omega

theorem place_wr {m n i k : Nat} (hm : m ≤ 1000) (hn : n ≤ 1000) (hi : i < m) (hk : k < n) : IntKind.i64.wrap ((IntKind.i64.wrap ((i : Int) * (n : Int))) + (k : Int)) = ((i * n + k : Nat) : Int) := by
  have h1 : i * n ≤ 1000 * 1000 := Nat.mul_le_mul (by omega) hn
  have e : (i : Int) * (n : Int) = ((i * n : Nat) : Int) := by simp
  rw [e, wr (n := ((i * n : Nat) : Int)) (by omega) (by omega), wr (by omega) (by omega)]
  simp

theorem from_of {s t : List Int} (hs : s.length ≤ 1000) (ht : t.length ≤ 1000) {d : Nat} {A B : Wd} (h : GivesA s t d A B) : GivesF s t (d + 1) A B := by
  intro i k L hA hB hL hok
  have hi : i < s.length := by have := hA.lt; have := A.pos; omega
  have hk : k < t.length := by have := hB.lt; have := B.pos; omega
  have hp := place_lt hi hk
  show SRes s t L (zz5 (R_zz5 d) (R_zz6 d) s t (i : Int) (k : Int) L) (wle A B)
  unfold zz5 zz5_s
  simp only [place_wr hs ht hi hk, Int.toNat_natCast]
  generalize hpp : i * t.length + k = p at *
  have hpL : p < L.length := by omega
  rw [atI_lt L p hpL, Option.bind_some, List.getElem?_eq_getElem hpL, Option.bind_some]
  by_cases h0 : L[p] = 0
  · rw [cdt h0]
    have other : ∀ (M : List Int) (v : Int) i' k', k' < t.length → (i' ≠ i ∨ k' ≠ k) → OkL s t M i' k' → OkL s t (M.set p v) i' k' := by
      intro M v i' k' hk' hne ho A' B' hA' hB' x hx
      rw [List.getElem?_set_ne] at hx
      · exact ho A' B' hA' hB' x hx
      · intro e
        rw [← hpp] at e
        have := place_inj hk hk' e
        omega
    obtain ⟨L3, q, l3, o3⟩ := h i k (L.set p 2) hA hB (by rw [List.length_set]; exact hL) (fun i' k' hk' hle => other L 2 i' k' hk' (by omega) (hok i' k' hk' (by omega)))
    rw [List.length_set] at l3
    have hp3 : p < L3.length := by omega
    rw [Option.bind_some, Option.bind_some, q]
    simp only [Option.bind_some]
    have keep : ∀ i' k', k' < t.length → (i' ≠ i ∨ k' ≠ k) → OkL s t L i' k' → OkL s t L3 i' k' := fun i' k' hk' hne ho => o3 i' k' hk' (other L 2 i' k' hk' hne ho)
    cases hw : wle A B with
    | true =>
      rw [cond_true, atI_lt L3 p hp3, Option.bind_some, List.getElem?_eq_getElem hp3, Option.bind_some, atI_lt _ p (by rw [List.length_set]; exact hp3), Option.bind_some, List.getElem?_set_self hp3, Option.bind_some]
      refine ⟨L3.set p 1, by simp, by rw [List.length_set]; exact l3, fun i' k' hk' ho => ?_⟩
      by_cases hne : i' ≠ i ∨ k' ≠ k
      · exact other L3 1 i' k' hk' hne (keep i' k' hk' hne ho)
      · obtain ⟨rfl, rfl⟩ : i' = i ∧ k' = k := by omega
        intro A' B' hA' hB' x hx
        rw [hpp, List.getElem?_set_self hp3] at hx
        cases hx
        rw [hA'.uniq hA, hB'.uniq hB, hw]
        simp
    | false =>
      rw [cond_false, atI_lt L3 p hp3, Option.bind_some, List.getElem?_eq_getElem hp3, Option.bind_some]
      have ok3 : OkL s t L3 i k := o3 i k hk (fun A' B' hA' hB' x hx => by
        rw [hpp, List.getElem?_set_self hpL] at hx
        cases hx
        rw [hA'.uniq hA, hB'.uniq hB, hw]
        simp)
      have hx3 := ok3 A B hA hB L3[p] (by rw [hpp, List.getElem?_eq_getElem hp3])
      rw [hw] at hx3
      have hne1 : L3[p] ≠ 1 := by
        rcases hx3 with hx3 | hx3
        · omega
        · simp at hx3; omega
      refine ⟨L3, by simp [hne1], l3, fun i' k' hk' ho => ?_⟩
      by_cases hne : i' ≠ i ∨ k' ≠ k
      · exact keep i' k' hk' hne ho
      · obtain ⟨rfl, rfl⟩ : i' = i ∧ k' = k := by omega
        exact ok3
  · rw [cdf h0, Option.bind_some, Option.bind_some]
    have hx := hok i k hk (Nat.le_refl _) A B hA hB L[p] (by rw [hpp, List.getElem?_eq_getElem hpL])
    refine ⟨L, ?_, rfl, fun _ _ _ ho => ho⟩
    rcases hx with hx | hx
    · exact absurd hx h0
    · rw [hx]
      cases wle A B <;> simp

theorem spec_below {s t : List Int} (hs : s.length ≤ 1000) (ht : t.length ≤ 1000) : ∀ (n : Nat) (A B : Wd), A.fl.length + B.fl.length ≤ n → (∀ d, 2 * (A.fl.length + B.fl.length) ≤ d → GivesA s t d A B) := by
  intro n
  induction n with
  | zero => intro A B h; have := A.pos; omega
  | succ n ih =>
    intro A B hn d hd
    have pa := A.pos
    have pb := B.pos
    cases d with
    | zero => omega
    | succ d =>
    have sub0 : ∀ A' B' : Wd, A'.fl.length + B'.fl.length < A.fl.length + B.fl.length → GivesF s t d A' B' := by
      intro A' B' h
      have := A'.pos
      cases d with
      | zero => omega
      | succ d => exact from_of hs ht (ih A' B' (by omega) d (by omega))
    intro i k L hA hB hL hok
    show SRes s t L (zz6 (R_zz5 d) (R_zz6 d) s t (i : Int) (k : Int) L) (wle A B)
    have sub : ∀ (A' B' : Wd), A'.fl.length + B'.fl.length < A.fl.length + B.fl.length → ∀ (i' k' : Nat) (M : List Int), At s i' A' → At t k' B' → i + k + 1 ≤ i' + k' → M.length = L.length → (∀ i' k', k' < t.length → OkL s t L i' k' → OkL s t M i' k') →
        ∃ M', R_zz5 d (s, t, (i' : Int), (k' : Int), M, ()) = some (wle A' B', (M', ())) ∧ M'.length = L.length ∧ ∀ i' k', k' < t.length → OkL s t L i' k' → OkL s t M' i' k' := by
      intro A' B' h i' k' M hA' hB' hle hM hk
      obtain ⟨M', q, l, o⟩ := sub0 A' B' h i' k' M hA' hB' (by rw [hM, hL]) (fun i2 k2 hk2 hle2 => hk i2 k2 hk2 (hok i2 k2 hk2 (by omega)))
      exact ⟨M', q, by rw [l, hM], fun i2 k2 hk2 ho => o i2 k2 hk2 (hk i2 k2 hk2 ho)⟩
    unfold zz6 zz6_s
    have hAl := hA.lt
    have hBl := hB.lt
    have okA := hA.1
    have okB := hB.1
    obtain ⟨x, hx⟩ : ∃ x, x = A.hd := ⟨_, rfl⟩
    obtain ⟨y, hy⟩ : ∃ y, y = B.hd := ⟨_, rfl⟩
    have hah := hA.head
    have hbh := hB.head
    rw [← hx] at hah
    rw [← hy] at hbh
    simp only [hah, hbh, Option.bind_some]
    rw [wrN (n := i) (by omega), wrN (n := k) (by omega)]
    cases A with
    | v x' =>
      have hx : x = x' := hx
      have hx0 : 0 ≤ x := by rw [hx]; exact okA.1
      cases B with
      | v y' =>
        have hy : y = y' := hy
        have hy0 : 0 ≤ y := by rw [hy]; exact okB.1
        rw [cdf (by omega), cdf (by omega), cdt hx0, cdt hy0]
        exact ⟨L, by simp [wle, hx, hy], rfl, fun _ _ _ h => h⟩
      | op g a b =>
        have hy : y = g := hy
        have hgo := okB.1
        obtain ⟨m1, q1, l1, o1⟩ := sub (.v x') a (by simp [Wd.fl]; omega) i (k + 1) L hA hB.left (by omega) rfl fun _ _ _ h => h
        obtain ⟨m2, q2, l2, o2⟩ := sub (.v x') b (by simp [Wd.fl]; omega) i (k + 1 + a.fl.length) m1 hA hB.right (by omega) l1 o1
        rw [cdf (by omega)]
        by_cases hg : y = -1
        · rw [cdt hg, q1]
          simp only [Option.bind_some]
          rw [specEnd_at (by omega) hB.left]
          simp only [Option.bind_some, q2]
          rw [wle, if_pos (by omega)]
          cases wle (.v x') a
          · exact ⟨m1, by simp, l1, o1⟩
          · exact ⟨m2, by simp, l2, o2⟩
        · rw [cdf hg, cdt hx0, cdf (by omega), cdf (by omega), cdt (by omega), q1]
          simp only [Option.bind_some]
          rw [specEnd_at (by omega) hB.left]
          simp only [Option.bind_some, q2]
          rw [wle, if_neg (by omega)]
          cases wle (.v x') a
          · exact ⟨m2, by simp, l2, o2⟩
          · exact ⟨m1, by simp, l1, o1⟩
    | op g a b =>
      have hx : x = g := hx
      have hgo := okA.1
      by_cases hg : x = -2
      · obtain ⟨m1, q1, l1, o1⟩ := sub a B (by simp [Wd.fl]; omega) (i + 1) k L hA.left hB (by omega) rfl fun _ _ _ h => h
        obtain ⟨m2, q2, l2, o2⟩ := sub b B (by simp [Wd.fl]; omega) (i + 1 + a.fl.length) k m1 hA.right hB (by omega) l1 o1
        rw [cdt hg, q1]
        simp only [Option.bind_some]
        rw [specEnd_at (by omega) hA.left]
        simp only [Option.bind_some, q2]
        have e : wle (.op g a b) B = (wle a B && wle b B) := by cases B <;> rw [wle, if_pos (by omega)]
        rw [e]
        cases wle a B
        · exact ⟨m1, by simp, l1, o1⟩
        · exact ⟨m2, by simp, l2, o2⟩
      · cases B with
        | v y' =>
          have hy : y = y' := hy
          have hy0 : 0 ≤ y := by rw [hy]; exact okB.1
          obtain ⟨m1, q1, l1, o1⟩ := sub a (.v y') (by simp [Wd.fl]; omega) (i + 1) k L hA.left hB (by omega) rfl fun _ _ _ h => h
          obtain ⟨m2, q2, l2, o2⟩ := sub b (.v y') (by simp [Wd.fl]; omega) (i + 1 + a.fl.length) k m1 hA.right hB (by omega) l1 o1
          rw [cdf hg, cdf (by omega), cdf (by omega), cdt (by omega), q1]
          simp only [Option.bind_some]
          rw [specEnd_at (by omega) hA.left]
          simp only [Option.bind_some, q2]
          rw [cdf (by omega), wle, if_neg (by omega)]
          cases wle a (.v y')
          · cases wle b (.v y')
            · exact ⟨m2, by simp, l2, o2⟩
            · exact ⟨m2, by simp, l2, o2⟩
          · exact ⟨m1, by simp, l1, o1⟩
        | op h c e =>
          have hy : y = h := hy
          have hho := okB.1
          rw [cdf hg]
          by_cases hh : y = -1
          · obtain ⟨m1, q1, l1, o1⟩ := sub (.op g a b) c (by simp [Wd.fl]; omega) i (k + 1) L hA hB.left (by omega) rfl fun _ _ _ h => h
            obtain ⟨m2, q2, l2, o2⟩ := sub (.op g a b) e (by simp [Wd.fl]; omega) i (k + 1 + c.fl.length) m1 hA hB.right (by omega) l1 o1
            rw [cdt hh, q1]
            simp only [Option.bind_some]
            rw [specEnd_at (by omega) hB.left]
            simp only [Option.bind_some, q2]
            rw [wle, if_neg (by omega), if_pos (by omega)]
            cases wle (.op g a b) c
            · exact ⟨m1, by simp, l1, o1⟩
            · exact ⟨m2, by simp, l2, o2⟩
          · obtain ⟨m1, q1, l1, o1⟩ := sub a (.op h c e) (by simp [Wd.fl]; omega) (i + 1) k L hA.left hB (by omega) rfl fun _ _ _ h => h
            obtain ⟨m2, q2, l2, o2⟩ := sub b (.op h c e) (by simp [Wd.fl]; omega) (i + 1 + a.fl.length) k m1 hA.right hB (by omega) l1 o1
            obtain ⟨m3, q3, l3, o3⟩ := sub (.op g a b) c (by simp [Wd.fl]; omega) i (k + 1) m2 hA hB.left (by omega) l2 o2
            obtain ⟨m4, q4, l4, o4⟩ := sub (.op g a b) e (by simp [Wd.fl]; omega) i (k + 1 + c.fl.length) m3 hA hB.right (by omega) l3 o3
            rw [cdf hh, cdf (by omega), cdt (show x = -1 by omega), q1]
            simp only [Option.bind_some]
            rw [specEnd_at (by omega) hA.left]
            simp only [Option.bind_some, q2]
            rw [cdt (show y = -2 by omega), q3]
            simp only [Option.bind_some]
            rw [specEnd_at (by omega) hB.left]
            simp only [Option.bind_some, q4]
            rw [wle, if_neg (by omega), if_neg (by omega)]
            cases wle a (.op h c e)
            · cases wle b (.op h c e)
              · cases wle (.op g a b) c
                · exact ⟨m4, by simp, l4, o4⟩
                · exact ⟨m3, by simp, l3, o3⟩
              · exact ⟨m2, by simp, l2, o2⟩
            · exact ⟨m1, by simp, l1, o1⟩

theorem l28Below_eq {A B : Wd} (hA : A.ok) (hB : B.ok) (ha : A.fl.length ≤ 40) (hb : B.fl.length ≤ 40) : zz8 A.fl B.fl = some (wle A B, ()) := by
  have hg := big_ge
  unfold zz8 zz8_s
  have h1 : A.fl.length * B.fl.length ≤ 40 * 40 := Nat.mul_le_mul ha hb
  have e : (A.fl.length : Int) * (B.fl.length : Int) = ((A.fl.length * B.fl.length : Nat) : Int) := by simp
  rw [e, wr (by omega) (by omega), mkI_nat _ _ (by omega), Option.bind_some, Option.bind_some, cdt (Int.le_refl _)]
  obtain ⟨d, hd⟩ : ∃ d, big = d + 1 := ⟨big - 1, by omega⟩
  have h := from_of (s := A.fl) (t := B.fl) (by omega) (by omega) (spec_below (by omega) (by omega) _ A B (Nat.le_refl _) d (by omega))
  obtain ⟨m', q, _⟩ := h 0 0 (List.replicate (A.fl.length * B.fl.length) 0) (At.zero hA) (At.zero hB) (by simp) (fun i k _ _ A B _ _ x hx => by
    rw [List.getElem?_replicate] at hx
    split at hx
    · cases hx; exact .inl rfl
    · cases hx)
  rw [hd]
  have q : R_zz5 (d + 1) (A.fl, B.fl, (0 : Int), (0 : Int), List.replicate (A.fl.length * B.fl.length) 0, ()) = some (wle A B, (m', ())) := q
  rw [q]
  rfl

theorem below_same {s t : List Int} (hs : isWord s = true) (ht : isWord t = true) : ∃ b, zz16 s t = some (b, ()) ∧ zz8 s t = some (b, ()) := by
  have ls := isWord_len hs
  have lt := isWord_len ht
  obtain ⟨A, hA, rfl⟩ := word_tree hs
  obtain ⟨B, hB, rfl⟩ := word_tree ht
  exact ⟨wle A B, wordBelow_eq hA hB ls lt, l28Below_eq hA hB ls lt⟩

theorem wordBelow_same (s t : List Int) : ∃ r, zz17 s t = some (r, ()) ∧ zz9 s t = some (r, ()) := by
  unfold zz17 zz17_s zz9 zz9_s
  rw [areWords_eq, l28Two_eq, Option.bind_some, Option.bind_some]
  cases h : isWord s && isWord t with
  | false => exact ⟨_, rfl, rfl⟩
  | true =>
    simp only [Bool.and_eq_true] at h
    obtain ⟨b, h1, h2⟩ := below_same h.1 h.2
    rw [h1, h2]
    exact ⟨_, rfl, rfl⟩

theorem wordsEqual_same (s t : List Int) : ∃ r, zz21 s t = some (r, ()) ∧ zz19 s t = some (r, ()) := by
  unfold zz21 zz21_s zz20 zz20_s zz19 zz19_s
  rw [areWords_eq, l28Two_eq, Option.bind_some, Option.bind_some]
  cases h : isWord s && isWord t with
  | false => exact ⟨_, rfl, rfl⟩
  | true =>
    simp only [Bool.and_eq_true] at h
    obtain ⟨b, h1, h2⟩ := below_same h.1 h.2
    obtain ⟨c, h3, h4⟩ := below_same h.2 h.1
    rw [h1, h2, h3, h4]
    cases b with
    | false => exact ⟨_, rfl, rfl⟩
    | true => exact ⟨_, rfl, rfl⟩

theorem true_WordBelow (s t : List Int) (_ : Wf (.pair (.sl I) (.pair (.sl I) .unit)) (s, t, ())) : laws_FnExactWordBelow s t = some (true, ()) := by
  unfold laws_FnExactWordBelow laws_FnExactWordBelow_s
  by_cases h : s.length ≤ 1048576
  · rw [cdf (by omega)]
    by_cases h2 : t.length ≤ 1048576
    · rw [cdf (by omega)]
      obtain ⟨r, h3, h4⟩ := wordBelow_same s t
      simp only [toIntS_eq s (by omega), toIntS_eq t (by omega), Option.bind_some, h3, h4, eqIntS_eq s s (by omega), eqIntS_eq t t (by omega)]
      simp
    · rw [cdt (by omega)]
  · rw [cdt (by omega)]

theorem true_WordsEqual (s t : List Int) (_ : Wf (.pair (.sl I) (.pair (.sl I) .unit)) (s, t, ())) : laws_FnExactWordsEqual s t = some (true, ()) := by
  unfold laws_FnExactWordsEqual laws_FnExactWordsEqual_s
  by_cases h : s.length ≤ 1048576
  · rw [cdf (by omega)]
    by_cases h2 : t.length ≤ 1048576
    · rw [cdf (by omega)]
      obtain ⟨r, h3, h4⟩ := wordsEqual_same s t
      simp only [toIntS_eq s (by omega), toIntS_eq t (by omega), Option.bind_some, h3, h4, eqIntS_eq s s (by omega), eqIntS_eq t t (by omega)]
      simp
    · rw [cdt (by omega)]
  · rw [cdt (by omega)]

def Wd.dp : Wd → Nat
  | .v _ => 0
  | .op _ a b => 1 + max a.dp b.dp

theorem dp_len : ∀ A : Wd, 2 * A.dp + 1 ≤ A.fl.length
  | .v _ => by simp [Wd.dp, Wd.fl]
  | .op _ a b => by
    have h1 := dp_len a
    have h2 := dp_len b
    simp only [Wd.dp, Wd.fl, List.length_cons, List.length_append]
    omega

def rd : Nat → List UInt8 → Option (Wd × List UInt8)
  | 0, _ => none
  | _ + 1, [] => none
  | n + 1, c :: s => if c.toNat = 40 then (match rd n s with
      | none => none
      | some (_, []) => none
      | some (A, x :: r) => if x.toNat = 38 ∨ x.toNat = 124 then (match rd n r with
          | none => none
          | some (_, []) => none
          | some (B, y :: r2) => if y.toNat = 41 then some (.op (if x.toNat = 38 then -1 else -2) A B, r2) else none) else none)
    else if 97 ≤ c.toNat ∧ c.toNat ≤ 101 then some (.v ((c.toNat : Int) - 97), s) else none

theorem rd_spec : ∀ (n : Nat) (s : List UInt8) (A : Wd) (r : List UInt8), rd n s = some (A, r) → A.ok ∧ ∃ k, 1 ≤ k ∧ k ≤ s.length ∧ r = s.drop k ∧ A.fl.length ≤ k
  | 0, _, _, _, h => by simp [rd] at h
  | _ + 1, [], _, _, h => by simp [rd] at h
  | n + 1, c :: s, A, r, h => by
    simp only [rd] at h
    split at h
    · split at h
      · cases h
      · cases h
      · rename_i A1 x r1 h1
        split at h
        case isFalse => cases h
        rename_i hx
        split at h
        · cases h
        · cases h
        · rename_i B1 y r2 h2
          split at h
          case isFalse => cases h
          cases h
          obtain ⟨o1, k1, a1, a2, a3, a4⟩ := rd_spec n s A1 _ h1
          obtain ⟨o2, k2, b1, b2, b3, b4⟩ := rd_spec n r1 B1 _ h2
          have l1 := congrArg List.length a3
          have l2 := congrArg List.length b3
          simp only [List.length_cons, List.length_drop] at l1 l2
          refine ⟨⟨by split <;> simp, o1, o2⟩, 1 + k1 + 1 + k2 + 1, by omega, by simp only [List.length_cons]; omega, ?_, by simp [Wd.fl]; omega⟩
          have e1 : r1 = s.drop (k1 + 1) := by
            rw [← List.drop_drop, ← a3]; rfl
          have e2 : r = r1.drop (k2 + 1) := by
            rw [← List.drop_drop, ← b3]; rfl
          rw [e2, e1, List.drop_drop, show 1 + k1 + 1 + k2 + 1 = (k1 + 1 + (k2 + 1)) + 1 by omega, List.drop_succ_cons]
    · split at h
      case isFalse => cases h
      rename_i hc
      cases h
      exact ⟨by simp only [Wd.ok]; omega, 1, Nat.le_refl _, by simp, rfl, by simp [Wd.fl]⟩

theorem atI_zero {α : Type} (x : α) (xs : List α) : atI (x :: xs) (0 : Int) = some x := rfl

theorem slI_one {α : Type} (x : α) (xs : List α) : slI (x :: xs) (1 : Int) ((x :: xs).length : Int) = some xs := by
  have := slI_nat (x :: xs) 1 (x :: xs).length (by simp) (Nat.le_refl _)
  rw [show ((1 : Nat) : Int) = 1 from rfl] at this
  rw [this]
  simp

theorem sign_eq (x : UInt8) : Option.getD (mget (.int .u8) I (mput (.int .u8) I (mput (.int .u8) I [] (38 : Int) (-1 : Int)) (124 : Int) (-2 : Int)) (x.toNat : Int)) (0 : Int) = if x.toNat = 38 then -1 else if x.toNat = 124 then -2 else 0 := by
  show Option.getD (cond (decide ((x.toNat : Int) = 38)) (some (-1 : Int)) (cond (decide ((x.toNat : Int) = 124)) (some (-2 : Int)) none)) 0 = _
  rw [cd, cd]
  by_cases h : x.toNat = 38
  · rw [if_pos (by omega), if_pos h]; rfl
  · rw [if_neg (by omega), if_neg h]
    by_cases h2 : x.toNat = 124
    · rw [if_pos (by omega), if_pos h2]; rfl
    · rw [if_neg (by omega), if_neg h2]; rfl

def IRd (n : Nat) (s : List UInt8) (deep : Nat) (o : Option (((List Int) × ((List UInt8) × (Bool × Unit))) × Unit)) : Prop :=
  (∀ A r, rd n s = some (A, r) → deep + A.dp ≤ 40 → o = some ((A.fl, r, true, ()), ())) ∧ ((rd n s = none ∨ ∃ A r, rd n s = some (A, r) ∧ 40 < deep + A.dp) → ∃ w r, o = some ((w, r, false, ()), ()))

theorem impl_read : ∀ (n : Nat) (s : List UInt8) (d deep : Nat), s.length < n → n ≤ d → deep ≤ 41 → s.length ≤ 160 → IRd n s deep (R_zz25 d (s, (deep : Int), ()))
  | 0, s, d, deep, h, _, _, _ => by omega
  | n + 1, s, 0, deep, _, h, _, _ => by omega
  | n + 1, [], d + 1, deep, h1, h2, h3, h4 => by
    show IRd (n + 1) [] deep (zz25 (R_zz25 d) [] (deep : Int))
    unfold zz25 zz25_s
    rw [cdt rfl]
    exact ⟨fun A r h => by simp [rd] at h, fun _ => ⟨_, _, rfl⟩⟩
  | n + 1, c :: s, d + 1, deep, h1, h2, h3, h4 => by
    show IRd (n + 1) (c :: s) deep (zz25 (R_zz25 d) (c :: s) (deep : Int))
    unfold zz25 zz25_s
    rw [cdf (by simp)]
    by_cases hd : 40 < deep
    · rw [cdt (by omega)]
      exact ⟨fun A r _ h => by omega, fun _ => ⟨_, _, rfl⟩⟩
    rw [cdf (by omega), atI_zero, Option.bind_some]
    simp only [List.length_cons] at h1 h4
    have hcl := c.toNat_lt
    by_cases hc : c.toNat = 40
    · rw [cdf (by omega), slI_one, Option.bind_some, wrN (by omega)]
      have fail : ∀ o, rd (n + 1) (c :: s) = none → o = some (([], [], false, ()), ()) → IRd (n + 1) (c :: s) deep o := by
        intro o hn ho
        refine ⟨fun A r h => (by rw [hn] at h; cases h), fun _ => ⟨_, _, ho⟩⟩
      have fail2 : ∀ o A r, rd (n + 1) (c :: s) = some (A, r) → 40 < deep + A.dp → o = some (([], [], false, ()), ()) → IRd (n + 1) (c :: s) deep o := by
        intro o A r hn hdp ho
        refine ⟨fun A' r' h hl => (by rw [hn] at h; cases h; omega), fun _ => ⟨_, _, ho⟩⟩
      have e0 : rd (n + 1) (c :: s) = (match rd n s with
        | none => none
        | some (_, []) => none
        | some (A, x :: r) => if x.toNat = 38 ∨ x.toNat = 124 then (match rd n r with
            | none => none
            | some (_, []) => none
            | some (B, y :: r2) => if y.toNat = 41 then some (.op (if x.toNat = 38 then -1 else -2) A B, r2) else none) else none) := by
        rw [rd, if_pos hc]
      obtain ⟨i1, i2⟩ := impl_read n s d (deep + 1) (by omega) (by omega) (by omega) (by omega)
      cases hr : rd n s with
      | none =>
        obtain ⟨w, r', q⟩ := i2 (.inl hr)
        rw [q]
        exact fail _ (by rw [e0, hr]) rfl
      | some p =>
        obtain ⟨A, r⟩ := p
        obtain ⟨okA, k, k1, k2, k3, k4⟩ := rd_spec n s A r hr
        have lr := congrArg List.length k3
        simp only [List.length_drop] at lr
        by_cases hdA : deep + 1 + A.dp ≤ 40
        · rw [i1 A r hr hdA]
          simp only [Option.bind_some, Bool.not_true, cond_false]
          cases r with
          | nil =>
            rw [cdt rfl]
            exact fail _ (by rw [e0, hr]) rfl
          | cons x r =>
            rw [cdf (by simp), atI_zero, Option.bind_some, slI_one, Option.bind_some]
            simp only [List.length_cons] at lr
            obtain ⟨j1, j2⟩ := impl_read n r d (deep + 1) (by omega) (by omega) (by omega) (by omega)
            cases hr2 : rd n r with
            | none =>
              obtain ⟨w, r', q⟩ := j2 (.inl hr2)
              rw [q]
              refine fail _ (by rw [e0, hr]; simp only; rw [hr2]; simp) rfl
            | some p =>
              obtain ⟨B, r2⟩ := p
              obtain ⟨okB, m, m1, m2, m3, m4⟩ := rd_spec n r B r2 hr2
              by_cases hdB : deep + 1 + B.dp ≤ 40
              · rw [j1 B r2 hr2 hdB]
                simp only [Option.bind_some, Bool.not_true, cond_false]
                rw [sign_eq]
                by_cases hx : x.toNat = 38 ∨ x.toNat = 124
                · have hsg : ¬ ((if x.toNat = 38 then (-1 : Int) else if x.toNat = 124 then -2 else 0) = 0) := by
                    rcases hx with hx | hx <;> simp [hx]
                  rw [cdf hsg]
                  cases r2 with
                  | nil =>
                    rw [cdt rfl]
                    exact fail _ (by rw [e0, hr]; simp only; rw [if_pos hx, hr2]) rfl
                  | cons y r2 =>
                    rw [cdf (by simp), atI_zero, Option.bind_some]
                    by_cases hy : y.toNat = 41
                    · rw [cdf (by omega), appI_ok (by simp; omega), Option.bind_some, appI_ok (by simp; omega), Option.bind_some, slI_one, Option.bind_some]
                      have e1 : rd (n + 1) (c :: s) = some (.op (if x.toNat = 38 then -1 else -2) A B, r2) := by
                        rw [e0, hr]; simp only; rw [if_pos hx, hr2]; simp only; rw [if_pos hy]
                      refine ⟨fun A' r' h _ => ?_, fun h => ?_⟩
                      · rw [e1] at h
                        cases h
                        have : (if x.toNat = 38 then (-1 : Int) else if x.toNat = 124 then -2 else 0) = if x.toNat = 38 then -1 else -2 := by
                          rcases hx with hx | hx <;> simp [hx]
                        rw [this]
                        simp [Wd.fl]
                      · exfalso
                        rcases h with h | ⟨A', r', h, hl⟩
                        · rw [e1] at h; cases h
                        · rw [e1] at h
                          cases h
                          simp only [Wd.dp] at hl
                          omega
                    · rw [cdt (by omega)]
                      exact fail _ (by rw [e0, hr]; simp only; rw [if_pos hx, hr2]; simp only; rw [if_neg hy]) rfl
                · have hsg : ((if x.toNat = 38 then (-1 : Int) else if x.toNat = 124 then -2 else 0) = 0) := by
                    rw [if_neg (fun h => hx (.inl h)), if_neg (fun h => hx (.inr h))]
                  rw [cdt hsg]
                  exact fail _ (by rw [e0, hr]; simp only; rw [if_neg hx]) rfl
              · obtain ⟨w, r', q⟩ := j2 (.inr ⟨B, r2, hr2, by omega⟩)
                rw [q]
                simp only [Option.bind_some, Bool.not_false, cond_true]
                cases hrr : rd (n + 1) (c :: s) with
                | none => exact fail _ hrr rfl
                | some p =>
                  obtain ⟨A', r'⟩ := p
                  refine fail2 _ A' r' hrr ?_ rfl
                  rw [e0, hr] at hrr
                  simp only at hrr
                  split at hrr
                  case isFalse => cases hrr
                  rw [hr2] at hrr
                  split at hrr
                  · cases hrr
                  · cases hrr
                  · rename_i e
                    cases e
                    split at hrr
                    case isFalse => cases hrr
                    cases hrr
                    simp only [Wd.dp]
                    omega
        · obtain ⟨w, r', q⟩ := i2 (.inr ⟨A, r, hr, by omega⟩)
          rw [q]
          simp only [Option.bind_some, Bool.not_false, cond_true]
          cases hrr : rd (n + 1) (c :: s) with
          | none => exact fail _ hrr rfl
          | some p =>
            obtain ⟨A', r'⟩ := p
            refine fail2 _ A' r' hrr ?_ rfl
            rw [e0, hr] at hrr
            split at hrr
            · cases hrr
            · cases hrr
            · rename_i e
              cases e
              split at hrr
              case isFalse => cases hrr
              split at hrr
              · cases hrr
              · cases hrr
              · split at hrr
                case isFalse => cases hrr
                cases hrr
                simp only [Wd.dp]
                omega
    · rw [cdt (by omega), Option.bind_some, slI_one, Option.bind_some, Option.bind_some, Option.bind_some]
      rw [wr (n := (c.toNat : Int)) (by omega) (by omega), wr (n := (c.toNat : Int) - 97) (by omega) (by omega)]
      have e0 : rd (n + 1) (c :: s) = if 97 ≤ c.toNat ∧ c.toNat ≤ 101 then some (.v ((c.toNat : Int) - 97), s) else none := by rw [rd, if_neg hc]
      by_cases ha : 97 ≤ c.toNat
      · rw [cdt (by omega)]
        by_cases hb : c.toNat ≤ 101
        · rw [if_pos ⟨ha, hb⟩] at e0
          refine ⟨fun A r h _ => ?_, fun h => ?_⟩
          · rw [e0] at h; cases h
            rw [decide_eq_true (by omega)]
            rfl
          · exfalso
            rcases h with h | ⟨A, r, h, hl⟩
            · rw [e0] at h; cases h
            · rw [e0] at h; cases h; simp only [Wd.dp] at hl; omega
        · rw [if_neg (by omega)] at e0
          exact ⟨fun A r h => (by rw [e0] at h; cases h), fun _ => ⟨_, _, by rw [decide_eq_false (by omega)]⟩⟩
      · rw [cdf (by omega)]
        rw [if_neg (by omega)] at e0
        exact ⟨fun A r h => (by rw [e0] at h; cases h), fun _ => ⟨_, _, rfl⟩⟩

def SRd (s : List UInt8) (a n : Nat) (o : Option (((List Int) × (Int × Unit)) × Unit)) : Prop :=
  (∀ A r, rd n (s.drop a) = some (A, r) → o = some ((A.fl, ((s.length - r.length : Nat) : Int), ()), ())) ∧ (rd n (s.drop a) = none → o = some (([], (-1 : Int), ()), ()))

theorem spec_read (s : List UInt8) (hs : s.length ≤ 160) : ∀ (n a d : Nat), (s.drop a).length < n → n ≤ d → a ≤ s.length → SRd s a n (R_zz22 d (s, (a : Int), ()))
  | 0, a, d, h, _, _ => by omega
  | n + 1, a, 0, _, h, _ => by omega
  | n + 1, a, d + 1, h1, h2, h3 => by
    show SRd s a (n + 1) (zz22 (R_zz22 d) s (a : Int))
    unfold zz22 zz22_s
    by_cases ha : a < s.length
    case neg =>
      rw [cdt (by omega)]
      have e : s.drop a = [] := List.drop_eq_nil_of_le (by omega)
      refine ⟨fun A r h => ?_, fun _ => rfl⟩
      rw [e] at h
      simp [rd] at h
    rw [cdf (by omega), atI_lt s a ha, Option.bind_some, Option.bind_some, Option.bind_some]
    have hdrop : s.drop a = s[a] :: s.drop (a + 1) := List.drop_eq_getElem_cons ha
    generalize hcc : s[a] = c at *
    have hcl := c.toNat_lt
    rw [wr (n := (c.toNat : Int)) (by omega) (by omega), l1In_eq, Option.bind_some]
    simp only [List.length_drop] at h1
    by_cases hc : c.toNat = 40
    · rw [decide_eq_false (by omega), cond_false, cdf (by omega), wrN (by omega)]
      have e0 : rd (n + 1) (s.drop a) = (match rd n (s.drop (a + 1)) with
        | none => none
        | some (_, []) => none
        | some (A, x :: r) => if x.toNat = 38 ∨ x.toNat = 124 then (match rd n r with
            | none => none
            | some (_, []) => none
            | some (B, y :: r2) => if y.toNat = 41 then some (.op (if x.toNat = 38 then -1 else -2) A B, r2) else none) else none) := by
        rw [hdrop, rd, if_pos hc]
      have fail : ∀ o, rd (n + 1) (s.drop a) = none → o = some (([], (-1 : Int), ()), ()) → SRd s a (n + 1) o := by
        intro o hn ho
        exact ⟨fun A r h => (by rw [hn] at h; cases h), fun _ => ho⟩
      obtain ⟨i1, i2⟩ := spec_read s hs n (a + 1) d (by simp; omega) (by omega) (by omega)
      cases hr : rd n (s.drop (a + 1)) with
      | none =>
        rw [i2 hr]
        simp only [Option.bind_some]
        rw [cdt (by omega)]
        exact fail _ (by rw [e0, hr]) rfl
      | some p =>
        obtain ⟨A, r⟩ := p
        obtain ⟨okA, k, k1, k2, k3, k4⟩ := rd_spec n _ A r hr
        rw [List.drop_drop] at k3
        have lr := congrArg List.length k3
        simp only [List.length_drop] at lr k2
        rw [i1 A r hr]
        simp only [Option.bind_some]
        rw [cdf (by omega)]
        have hpos : s.length - r.length = a + 1 + k := by omega
        rw [hpos]
        cases r with
        | nil =>
          simp only [List.length_nil] at lr hpos
          rw [cdt (by omega)]
          exact fail _ (by rw [e0, hr]) rfl
        | cons x r =>
          simp only [List.length_cons] at lr hpos
          have hlt : a + 1 + k < s.length := by omega
          have hxx : s[a + 1 + k] = x := by
            have := List.drop_eq_getElem_cons hlt
            rw [← k3] at this
            exact (List.cons.inj this).1.symm
          have hrr : r = s.drop (a + 1 + k + 1) := by
            have := List.drop_eq_getElem_cons hlt
            rw [← k3] at this
            exact (List.cons.inj this).2
          rw [cdf (by omega), atI_lt s _ hlt, hxx]
          repeat rw [Option.bind_some]
          rw [wrN (by omega)]
          obtain ⟨j1, j2⟩ := spec_read s hs n (a + 1 + k + 1) d (by simp; omega) (by omega) (by omega)
          rw [← hrr] at j1 j2
          have tail : ∀ (g : Int) (hg : g = if x.toNat = 38 then -1 else -2) (hx : x.toNat = 38 ∨ x.toNat = 124), SRd s a (n + 1) ((R_zz22 d (s, ((a + 1 + k + 1 : Nat) : Int), ())).bind fun rq9 =>
              cond (decide (((((), rq9.1.2).2).1) < (0 : Int))) (some (([], (-1 : Int), ()), (())))
              (cond (decide ((s.length : Int) ≤ ((((), rq9.1.2).2).1))) (some (([], (-1 : Int), ()), (())))
              ((atI s ((((), rq9.1.2).2).1)).bind fun xq10 => cond (decide ((xq10.toNat : Int) ≠ (41 : Int))) (some (([], (-1 : Int), ()), (())))
              ((appI [g] A.fl).bind fun xq11 => (appI xq11 rq9.1.1).bind fun xq12 => some ((xq12, IntKind.i64.wrap (((((), rq9.1.2).2).1) + (1 : Int)), ()), (())))))) := by
            intro g hg hx
            cases hr2 : rd n r with
            | none =>
              rw [j2 hr2]
              simp only [Option.bind_some]
              rw [cdt (by omega)]
              exact fail _ (by rw [e0, hr]; simp only; rw [if_pos hx, hr2]) rfl
            | some p =>
              obtain ⟨B, r2⟩ := p
              obtain ⟨okB, m, m1, m2, m3, m4⟩ := rd_spec n _ B r2 hr2
              rw [hrr, List.drop_drop] at m3
              have lr2 := congrArg List.length m3
              simp only [List.length_drop] at lr2
              rw [j1 B r2 hr2]
              simp only [Option.bind_some]
              rw [cdf (by omega)]
              have hpos2 : s.length - r2.length = a + 1 + k + 1 + m := by omega
              rw [hpos2]
              cases r2 with
              | nil =>
                simp only [List.length_nil] at lr2 hpos2
                rw [cdt (by omega)]
                exact fail _ (by rw [e0, hr]; simp only; rw [if_pos hx, hr2]) rfl
              | cons y r2 =>
                simp only [List.length_cons] at lr2 hpos2
                have hlt2 : a + 1 + k + 1 + m < s.length := by omega
                have hyy : s[a + 1 + k + 1 + m] = y := by
                  have := List.drop_eq_getElem_cons hlt2
                  rw [← m3] at this
                  exact (List.cons.inj this).1.symm
                rw [cdf (by omega), atI_lt s _ hlt2, hyy, Option.bind_some]
                by_cases hy : y.toNat = 41
                · rw [cdf (by omega), appI_ok (by simp; omega), Option.bind_some, appI_ok (by simp; omega), Option.bind_some, wrN (by omega)]
                  have e1 : rd (n + 1) (s.drop a) = some (.op (if x.toNat = 38 then -1 else -2) A B, r2) := by
                    rw [e0, hr]; simp only; rw [if_pos hx, hr2]; simp only; rw [if_pos hy]
                  refine ⟨fun A' r' h => ?_, fun h => by rw [e1] at h; cases h⟩
                  rw [e1] at h
                  cases h
                  rw [hg, show s.length - r2.length = a + 1 + k + 1 + m + 1 by omega]
                  simp [Wd.fl]
                · rw [cdt (by omega)]
                  exact fail _ (by rw [e0, hr]; simp only; rw [if_pos hx, hr2]; simp only; rw [if_neg hy]) rfl
          by_cases hx1 : x.toNat = 38
          · rw [cdf (by omega), cdf (by omega)]
            exact tail (-1) (by rw [if_pos hx1]) (.inl hx1)
          · rw [cdt (by omega)]
            by_cases hx2 : x.toNat = 124
            · rw [cdf (by omega), cdt (by omega)]
              exact tail (-2) (by rw [if_neg hx1]) (.inr hx2)
            · rw [cdt (by omega)]
              exact fail _ (by rw [e0, hr]; simp only; rw [if_neg (by omega)]) rfl
    · have e0 : rd (n + 1) (s.drop a) = if 97 ≤ c.toNat ∧ c.toNat ≤ 101 then some (.v ((c.toNat : Int) - 97), s.drop (a + 1)) else none := by rw [hdrop, rd, if_neg hc]
      by_cases hab : 97 ≤ c.toNat ∧ c.toNat ≤ 101
      · rw [decide_eq_true (by omega), cond_true, wrN (by omega)]
        rw [if_pos hab] at e0
        refine ⟨fun A r h => ?_, fun h => by rw [e0] at h; cases h⟩
        rw [e0] at h
        cases h
        have e1 : IntKind.u8.wrap ((c.toNat : Int) - 97) = (c.toNat : Int) - 97 := IntWalk.u8_in _ ⟨by omega, by omega⟩
        rw [e1, wr (by omega) (by omega)]
        simp only [List.length_drop]
        rw [show s.length - (s.length - (a + 1)) = a + 1 by omega]
        rfl
      · rw [decide_eq_false (by omega), cond_false, cdt (by omega)]
        rw [if_neg hab] at e0
        exact ⟨fun A r h => (by rw [e0] at h; cases h), fun _ => rfl⟩

theorem isWord_fl {A : Wd} (h : A.ok) : isWord A.fl = decide (A.fl.length ≤ 40) := by
  have e : we A.fl 1 0 = some A.fl.length := by
    have := we_fl A h [] 0 0
    rw [List.append_nil, we_zero] at this
    rw [this]; simp
  rw [Bool.eq_iff_iff, isWord_iff, decide_eq_true_eq]
  exact ⟨fun h => h.1, fun h => ⟨h, e⟩⟩

def parseV (s : List UInt8) : List Int × Bool × Unit := if s.length ≤ 160 then (match rd (s.length + 1) s with
  | some (A, []) => if A.fl.length ≤ 40 then (A.fl, true, ()) else ([], false, ())
  | _ => ([], false, ())) else ([], false, ())

theorem implParse_eq (s : List UInt8) : zz27 s = some (parseV s, ()) := by
  have hg := big_ge
  unfold zz27 zz27_s parseV
  by_cases hl : s.length ≤ 160
  case neg => rw [cdt (by omega), if_neg hl]
  rw [cdf (by omega), if_pos hl]
  obtain ⟨h1, h2⟩ := impl_read (s.length + 1) s big 0 (by omega) (by omega) (by omega) hl
  have h1 : ∀ A r, rd (s.length + 1) s = some (A, r) → A.dp ≤ 40 → R_zz25 big (s, (0 : Int), ()) = some ((A.fl, r, true, ()), ()) := fun A r h hd => h1 A r h (by omega)
  have h2 : (rd (s.length + 1) s = none ∨ ∃ A r, rd (s.length + 1) s = some (A, r) ∧ 40 < 0 + A.dp) → ∃ w r, R_zz25 big (s, (0 : Int), ()) = some ((w, r, false, ()), ()) := h2
  cases hr : rd (s.length + 1) s with
  | none =>
    obtain ⟨w, r, q⟩ := h2 (.inl hr)
    rw [q]
    rfl
  | some p =>
    obtain ⟨A, r⟩ := p
    obtain ⟨okA, _⟩ := rd_spec _ _ _ _ hr
    have hdl := dp_len A
    by_cases hd : A.dp ≤ 40
    · rw [h1 A r hr hd]
      simp only [Option.bind_some, Bool.not_true, cond_false]
      cases r with
      | nil =>
        rw [cdf (by simp), implIsWord_eq, Option.bind_some, isWord_fl okA]
        by_cases h40 : A.fl.length ≤ 40
        · simp [h40]
        · simp [h40]
      | cons x r => rw [cdt (by simp)]
    · obtain ⟨w, r', q⟩ := h2 (.inr ⟨A, r, hr, by omega⟩)
      rw [q]
      cases r with
      | nil => simp only; rw [if_neg (by omega)]; rfl
      | cons x r => rfl

theorem specParse_eq (s : List UInt8) : zz24 s = some (parseV s, ()) := by
  have hg := big_ge
  unfold zz24 zz24_s parseV
  by_cases hl : s.length ≤ 160
  case neg => rw [cdt (by omega), if_neg hl]
  rw [cdf (by omega), if_pos hl]
  obtain ⟨h1, h2⟩ := spec_read s hl (s.length + 1) 0 big (by simp) (by omega) (by omega)
  rw [List.drop_zero] at h1 h2
  have h1 : ∀ A r, rd (s.length + 1) s = some (A, r) → R_zz22 big (s, (0 : Int), ()) = some ((A.fl, ((s.length - r.length : Nat) : Int), ()), ()) := h1
  have h2 : rd (s.length + 1) s = none → R_zz22 big (s, (0 : Int), ()) = some (([], (-1 : Int), ()), ()) := h2
  cases hr : rd (s.length + 1) s with
  | none =>
    rw [h2 hr]
    simp only [Option.bind_some]
    rw [cdt (by omega)]
  | some p =>
    obtain ⟨A, r⟩ := p
    obtain ⟨okA, k, k1, k2, k3, _⟩ := rd_spec _ _ _ _ hr
    have lr := congrArg List.length k3
    simp only [List.length_drop] at lr
    rw [h1 A r hr]
    simp only [Option.bind_some]
    cases r with
    | nil =>
      rw [cdf (by simp), l28Good_eq, Option.bind_some, isWord_fl okA]
      by_cases h40 : A.fl.length ≤ 40
      · simp [h40]
      · simp [h40]
    | cons x r =>
      simp only [List.length_cons] at lr ⊢
      rw [cdt (by omega)]

theorem parseV_len (s : List UInt8) : (parseV s).1.length ≤ 40 := by
  unfold parseV
  split
  · split
    · split
      · assumption
      · simp
    · simp
  · simp

theorem true_ParseWord (s : List UInt8) (_ : Wf (.pair .str .unit) (s, ())) : laws_FnExactParseWord s = some (true, ()) := by
  unfold laws_FnExactParseWord laws_FnExactParseWord_s
  by_cases h : s.length ≤ 1048576
  · rw [cdf (by omega)]
    have hl := parseV_len s
    simp only [specParse_eq, implParse_eq, Option.bind_some, eqIntS_eq _ _ (show (parseV s).1.length ≤ 1099511627775 by omega), markIntS_eq (parseV s).1 1 (by omega) (by omega) (by omega), heldIntS_eq 1 (parseV s).1.length (by omega) (by omega) (by omega)]
    simp
    repeat rw [cdf (by omega)]
  · rw [cdt (by omega)]


end Go.Proofs.Ytiklgbjlggcejaa
