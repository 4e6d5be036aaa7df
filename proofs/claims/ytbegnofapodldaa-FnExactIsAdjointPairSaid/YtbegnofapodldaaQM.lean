import Derived.Test.YtbegnofapodldaaQE
import Derived.KernelRfl
set_option linter.unusedVariables false
set_option linter.unusedSimpArgs false
namespace Go.Proofs.Ytbegnofapodldaa
open Go Go.Gx Go.Proofs

theorem those_order_above_c1 {n : Nat} {o : List (List Bool)} (ho : o.length = n) (hn : n ≤ 1048576) {c : ((List (List Bool)) × (Int × Unit))} {P : Nat → Bool} (h : ∀ i, i < n → impl_order_above_c1 (i : Int) c.1 c.2.1 = some (P i, ())) : impl_order_those_k_order_above_c1 big o c = some (cs (fl n P), ()) := by
  unfold impl_order_those_k_order_above_c1 impl_order_those_k_order_above_c1_s
  rw [ho]
  refine impl_order_those_k_order_above_c1_h3 n (fun i l => l = cs (fl i P)) (by omega) ?_ ?_ 0 (by omega) _ rfl
  · intro rc i l hi hv ih
    have hl := fl_len i P
    unfold impl_order_those_k_order_above_c1_b3
    rw [cdt (by omega), h i hi, Option.bind_some, wr1 (by omega)]
    cases hp : P i with
    | true => rw [cond_true, app1 (by rw [hv, cs_len]; omega), Option.bind_some]; exact ih _ (by rw [hv]; exact fl_t hp)
    | false => exact ih _ (by rw [hv]; exact fl_f hp)
  · intro rc l hv
    unfold impl_order_those_k_order_above_c1_b3
    rw [cdf (by omega), impl_order_those_k_order_above_c1_a3, hv]

theorem LatP.du {n : Nat} {le : Nat → Nat → Bool} (h : LatP n le) : LatP n (du le) := ⟨h.le10, Ord.du h.ord, h.lat.ne, h.lat.join, h.lat.meet⟩

theorem LatP.glb {n : Nat} {le : Nat → Nat → Bool} (h : LatP n le) {x y : Nat} (hx : x < n) (hy : y < n) : IsGlb n le [x, y] (mt n le x y) := glb_of_bnd (h.lat.meet x y hx hy)

theorem LatP.bnd2 {n : Nat} {le : Nat → Nat → Bool} (h : LatP n le) {x y : Nat} (hx : x < n) (hy : y < n) : bnd n le [x, y] = ((mt n le x y : Nat) : Int) := by
  have := h.lat.meet x y hx hy
  unfold mt; omega

theorem LatP.mlt {n : Nat} {le : Nat → Nat → Bool} (h : LatP n le) {x y : Nat} (hx : x < n) (hy : y < n) : mt n le x y < n := (h.glb hx hy).lt

theorem LatP.m1 {n : Nat} {le : Nat → Nat → Bool} (h : LatP n le) {x y : Nat} (hx : x < n) (hy : y < n) : le (mt n le x y) x = true := (h.glb hx hy).lo x (by simp)

theorem LatP.m2 {n : Nat} {le : Nat → Nat → Bool} (h : LatP n le) {x y : Nat} (hx : x < n) (hy : y < n) : le (mt n le x y) y = true := (h.glb hx hy).lo y (by simp)

theorem LatP.mg {n : Nat} {le : Nat → Nat → Bool} (h : LatP n le) {x y z : Nat} (hx : x < n) (hy : y < n) (hz : z < n) (h1 : le z x = true) (h2 : le z y = true) : le z (mt n le x y) = true :=
  (h.glb hx hy).gr z hz (by simp [h1, h2])

theorem LatP.tr {n : Nat} {le : Nat → Nat → Bool} (h : LatP n le) {x y z : Nat} (hx : x < n) (hy : y < n) (hz : z < n) (h1 : le x y = true) (h2 : le y z = true) : le x z = true := h.ord.trans x y z hx hy hz h1 h2

theorem topEx {n : Nat} {le : Nat → Nat → Bool} (h : LatP n le) : ∃ t, IsGlb n le [] t := by
  have key : ∀ i, i ≤ n → ∃ t, t < n ∧ ∀ x, x < i → le x t = true := by
    intro i
    induction i with
    | zero => exact fun _ => ⟨0, h.lat.ne, by intro x hx; omega⟩
    | succ i ih =>
      intro hi
      obtain ⟨t, ht, h1⟩ := ih (by omega)
      have hin : i < n := by omega
      refine ⟨mt n (Ytbegnofapodldaa.du le) t i, h.du.mlt ht hin, all_lt_succ.2 ⟨fun x hx => ?_, h.du.m2 ht hin⟩⟩
      exact h.tr (by omega) ht (h.du.mlt ht hin) (h1 x hx) (h.du.m1 ht hin)
  obtain ⟨t, ht, h1⟩ := key n (by omega)
  exact ⟨t, ht, by simp, fun z hz _ => h1 z hz⟩

theorem glbEx {n : Nat} {le : Nat → Nat → Bool} (h : LatP n le) : ∀ S : List Nat, (∀ s ∈ S, s < n) → ∃ m, IsGlb n le S m
  | [], _ => topEx h
  | s :: S, hS => by
    obtain ⟨m, hm⟩ := glbEx h S fun x hx => hS x (by simp [hx])
    have hs := hS s (by simp)
    refine ⟨mt n le s m, h.mlt hs hm.lt, fun x hx => ?_, fun z hz hx => ?_⟩
    · rcases List.mem_cons.1 hx with rfl | hx'
      · exact h.m1 hs hm.lt
      · exact h.tr (h.mlt hs hm.lt) hm.lt (hS x hx) (h.m2 hs hm.lt) (hm.lo x hx')
    · exact h.mg hs hm.lt hz (hx s (by simp)) (hm.gr z hz fun x hx' => hx x (by simp [hx']))

theorem LatP.gbs {n : Nat} {le : Nat → Nat → Bool} (h : LatP n le) {S : List Nat} (hS : ∀ s ∈ S, s < n) : IsGlb n le S (gb n le S) := by
  obtain ⟨m, hm⟩ := glbEx h S hS
  unfold gb
  rw [bnd_of_glb h.ord hm]
  exact hm

theorem gb_eq {n : Nat} {le : Nat → Nat → Bool} (h : LatP n le) {S : List Nat} {m : Nat} (hm : IsGlb n le S m) : gb n le S = m := by
  unfold gb; rw [bnd_of_glb h.ord hm]; rfl

theorem noneLt {n : Nat} : ∀ s ∈ ([] : List Nat), s < n := fun s hs => by cases hs

theorem lat1 (n : Nat) (le : Nat → Nat → Bool) : (lat n le).1 = mkT n le := rfl

theorem lat2 (n : Nat) (le : Nat → Nat → Bool) : (lat n le).2.1 = mkT n fun x y => ((mt n le x y : Nat) : Int) := rfl

theorem lat3 (n : Nat) (le : Nat → Nat → Bool) : (lat n le).2.2.1 = mkT n fun x y => ((mt n (du le) x y : Nat) : Int) := rfl

theorem l24Meet_eq {n : Nat} {le : Nat → Nat → Bool} (h : LatP n le) {x y : Nat} (hx : x < n) (hy : y < n) : spec_l24Meet (pos n le) (x : Int) (y : Int) = some (((mt n le x y : Nat) : Int), ()) := by
  have := h.le10
  unfold spec_l24Meet spec_l24Meet_s
  rw [show ([(x : Int), (y : Int)] : List Int) = cs [x, y] from rfl, specBound_pos (by omega) (by simp [hx, hy]) (by simp), Option.bind_some, h.bnd2 hx hy]

theorem l24Join_eq {n : Nat} {le : Nat → Nat → Bool} (h : LatP n le) {x y : Nat} (hx : x < n) (hy : y < n) : spec_l24Join (pos n le) (x : Int) (y : Int) = some (((mt n (du le) x y : Nat) : Int), ()) := by
  have := h.le10
  unfold spec_l24Join spec_l24Join_s
  rw [specDual_pos (by omega), Option.bind_some, show ([(x : Int), (y : Int)] : List Int) = cs [x, y] from rfl, specBound_pos (by omega) (by simp [hx, hy]) (by simp), Option.bind_some, h.du.bnd2 hx hy]

theorem top_eq {n : Nat} {le : Nat → Nat → Bool} (h : LatP n le) : impl_lattice_top big (some (lat n le)) = some (((gb n le [] : Nat) : Int), ()) := by
  have h10 := h.le10
  unfold impl_lattice_top impl_lattice_top_s
  rw [Option.bind_some, lat1, mkR_len]
  refine impl_lattice_top_h3 n (fun i t => ∃ k : Nat, t = (k : Int) ∧ k < n ∧ ∀ x, x < i → le x k = true) (by omega) ?_ ?_ 0 (by omega) _ ⟨0, rfl, h.lat.ne, by intro x hx; omega⟩
  · intro rc i t hi hv ih
    obtain ⟨k, e, hk, h1⟩ := hv
    subst e
    unfold impl_lattice_top_b3
    rw [cdt (by omega), Option.bind_some, lat3, atI_mkR hk, Option.bind_some, atI_mkR hi, Option.bind_some, wr1 (by omega)]
    refine ih _ ⟨mt n (Ytbegnofapodldaa.du le) k i, rfl, h.du.mlt hk hi, all_lt_succ.2 ⟨fun x hx => ?_, h.du.m2 hk hi⟩⟩
    exact h.tr (by omega) hk (h.du.mlt hk hi) (h1 x hx) (h.du.m1 hk hi)
  · intro rc t hv
    obtain ⟨k, e, hk, h1⟩ := hv
    subst e
    unfold impl_lattice_top_b3
    rw [cdf (by omega), impl_lattice_top_a3, gb_eq h ⟨hk, by simp, fun z hz _ => h1 z hz⟩]

theorem glb_snoc {n : Nat} {le : Nat → Nat → Bool} (h : LatP n le) {S : List Nat} {k s : Nat} (hS : ∀ s ∈ S, s < n) (hk : IsGlb n le S k) (hs : s < n) : IsGlb n le (S ++ [s]) (mt n le k s) where
  lt := h.mlt hk.lt hs
  lo x hx := by
    rcases List.mem_append.1 hx with hx | hx
    · exact h.tr (h.mlt hk.lt hs) hk.lt (hS x hx) (h.m1 hk.lt hs) (hk.lo x hx)
    · rw [List.mem_singleton.1 hx]; exact h.m2 hk.lt hs
  gr z hz hx := h.mg hk.lt hs hz (hk.gr z hz fun x hx' => hx x (by simp [hx'])) (hx s (by simp))

theorem meetAll_eq {n : Nat} {le : Nat → Nat → Bool} (h : LatP n le) {S : List Nat} (hS : ∀ s ∈ S, s < n) (hl : S.length ≤ 4294967296) : impl_lattice_meetAll big (some (lat n le)) (cs S) = some (((gb n le S : Nat) : Int), ()) := by
  have h10 := h.le10
  unfold impl_lattice_meetAll impl_lattice_meetAll_s
  rw [top_eq h, Option.bind_some, cs_len]
  refine impl_lattice_meetAll_h3 S.length (fun i t => ∃ k : Nat, t = (k : Int) ∧ IsGlb n le (S.take i) k) (by omega) ?_ ?_ 0 (by omega) _ ⟨_, rfl, h.gbs noneLt⟩
  · intro rc i t hi hv ih
    obtain ⟨k, e, hk⟩ := hv
    subst e
    have hs := hS _ (List.getElem_mem hi)
    unfold impl_lattice_meetAll_b3
    rw [cdt (by omega), atI_cs hi, Option.bind_some, Option.bind_some, lat2, atI_mkR hk.lt, Option.bind_some, atI_mkR hs, Option.bind_some, wr1 (by omega)]
    refine ih _ ⟨_, rfl, ?_⟩
    rw [List.take_succ_eq_append_getElem hi]
    exact glb_snoc h (fun s hs => hS s (List.mem_of_mem_take hs)) hk hs
  · intro rc t hv
    obtain ⟨k, e, hk⟩ := hv
    subst e
    rw [List.take_length] at hk
    unfold impl_lattice_meetAll_b3
    rw [cdf (by omega), impl_lattice_meetAll_a3, gb_eq h hk]

theorem above_eq {n : Nat} {le : Nat → Nat → Bool} (hn : n ≤ 1048576) {x : Nat} (hx : x < n) : impl_order_above (mkT n le) (x : Int) = some (cs (fl n fun y => le x y), ()) := by
  unfold impl_order_above impl_order_above_s
  rw [those_order_above_c1 (mkR_len n _) hn (P := fun y => le x y)]
  · rfl
  · intro i hi
    unfold impl_order_above_c1 impl_order_above_c1_s
    rw [atI_mkR hx, Option.bind_some, atI_mkR hi]; rfl

theorem sameList_eq (a b : List Int) (h : a.length ≤ 4294967296) : impl_sameList big a b = some (decide (a = b), ()) := by
  unfold impl_sameList impl_sameList_s
  by_cases hl : a.length = b.length
  · rw [cdf (by omega)]
    refine impl_sameList_h4 a.length (fun i => a.take i = b.take i) (by omega) ?_ ?_ 0 (by omega) rfl
    · intro rc i hi hv ih
      have hi2 : i < b.length := by omega
      unfold impl_sameList_b4
      rw [cdt (by omega), atI_lt a i hi, Option.bind_some, atI_lt b i hi2, Option.bind_some, wr1 (by omega)]
      by_cases e : b[i] = a[i]
      · rw [cdf (by omega)]
        exact ih (by rw [List.take_succ_eq_append_getElem hi, List.take_succ_eq_append_getElem hi2, hv, e])
      · rw [cdt e, decide_eq_false fun h => by subst h; exact e rfl]
    · intro rc hv
      rw [List.take_length, hl, List.take_length] at hv
      unfold impl_sameList_b4
      rw [cdf (by omega), impl_sameList_a4, decide_eq_true hv]
  · rw [cdt (by omega), decide_eq_false fun h => hl (by rw [h])]

theorem filt_glb {n : Nat} {le : Nat → Nat → Bool} (h : LatP n le) {S : List Nat} (hS : ∀ s ∈ S, s < n) (hm : ∀ s ∈ S, ∀ y ∈ S, mt n le s y ∈ S) : ∀ T : List Nat, T ≠ [] → (∀ t ∈ T, t ∈ S) → gb n le T ∈ S
  | [], h0, _ => absurd rfl h0
  | [t], _, hT => by
    have ht := hT t (by simp)
    have : gb n le [t] = t := gb_eq h ⟨hS t ht, by simp [h.ord.refl t (hS t ht)], fun z _ hz => hz t (by simp)⟩
    rw [this]; exact ht
  | t :: u :: T, _, hT => by
    have ih := filt_glb h hS hm (u :: T) (by simp) fun x hx => hT x (List.mem_cons_of_mem _ hx)
    have ht := hT t (by simp)
    have hg := h.gbs (S := u :: T) fun x hx => hS x (hT x (List.mem_cons_of_mem _ hx))
    have : gb n le (t :: u :: T) = mt n le t (gb n le (u :: T)) := by
      refine gb_eq h ⟨h.mlt (hS t ht) hg.lt, fun x hx => ?_, fun z hz hx => h.mg (hS t ht) hg.lt hz (hx t (by simp)) (hg.gr z hz fun x hx' => hx x (List.mem_cons_of_mem _ hx'))⟩
      rcases List.mem_cons.1 hx with rfl | hx'
      · exact h.m1 (hS x ht) hg.lt
      · exact h.tr (h.mlt (hS t ht) hg.lt) hg.lt (hS x (hT x hx)) (h.m2 (hS t ht) hg.lt) (hg.lo x hx')
    rw [this]
    exact hm t ht _ ih

def IsFilt (n : Nat) (le : Nat → Nat → Bool) (S : List Nat) : Prop := ∀ s ∈ S, ∀ y, y < n → (le s y = true → y ∈ S) ∧ (y ∈ S → mt n le s y ∈ S)

theorem filt_iff {n : Nat} {le : Nat → Nat → Bool} (h : LatP n le) {P : Nat → Bool} (h0 : fl n P ≠ []) : IsFilt n le (fl n P) ↔ fl n P = fl n fun y => le (gb n le (fl n P)) y := by
  have hS : ∀ s ∈ fl n P, s < n := fun s hs => (fl_mem.1 hs).1
  have hg := h.gbs hS
  constructor
  · intro hf
    have hm := filt_glb h hS (fun s hs y hy => (hf s hs y (hS y hy)).2 hy) _ h0 fun t ht => ht
    refine fl_congr fun x hx => ?_
    cases h1 : le (gb n le (fl n P)) x with
    | true => exact (fl_mem.1 ((hf _ hm x hx).1 h1)).2
    | false =>
      cases h2 : P x with
      | false => rfl
      | true =>
        have := hg.lo x (fl_mem.2 ⟨hx, h2⟩)
        rw [h1] at this; cases this
  · intro e s hs y hy
    have hm : ∀ x, x ∈ fl n P ↔ x < n ∧ le (gb n le (fl n P)) x = true := fun x => by
      constructor
      · intro hx; exact ⟨hS x hx, hg.lo x hx⟩
      · intro hx; rw [e]; exact fl_mem.2 hx
    have h1 := (hm s).1 hs
    refine ⟨fun h2 => (hm y).2 ⟨hy, h.tr hg.lt h1.1 hy h1.2 h2⟩, fun h2 => (hm _).2 ⟨h.mlt h1.1 hy, h.mg h1.1 hy hg.lt h1.2 ((hm y).1 h2).2⟩⟩

theorem specFilter_eq {n : Nat} {le : Nat → Nat → Bool} (h : LatP n le) (l : List Int) (hl : l.length ≤ 1048576) : spec_l29Filter big (pos n le) l = some (tv (l ≠ [] ∧ ∃ S, l = cs S ∧ isSetB n l = true ∧ IsFilt n le S), ()) := by
  have h10 := h.le10
  unfold spec_l29Filter spec_l29Filter_s
  by_cases h0 : l = []
  · subst h0
    rw [cdt (by simp), tv_f fun h => h.1 rfl]
  · have h01 : l.length ≠ 0 := fun e => h0 (List.eq_nil_of_length_eq_zero e)
    rw [cdf (by omega), pos_len, wr (by omega) (by omega), specRising_eq n _ (by omega) (by omega), Option.bind_some]
    cases hset : isSetB n l with
    | false =>
      rw [tv_f fun h => by have := h.2; obtain ⟨S, _, h3, _⟩ := this; cases h3]
      rfl
    | true =>
      rw [Bool.not_true, cond_false]
      have hf := setB_form hset
      generalize (fun x : Nat => decide ((x : Int) ∈ l)) = P at hf
      have e : (l ≠ [] ∧ ∃ S, l = cs S ∧ true = true ∧ IsFilt n le S) ↔ IsFilt n le (fl n P) := by
        constructor
        · rintro ⟨_, S, h1, _, h2⟩
          rw [hf] at h1
          rw [cs_inj.1 h1]; exact h2
        · intro h1
          exact ⟨h0, fl n P, hf, rfl, h1⟩
      rw [tv_congr e]
      have hfl := fl_len n P
      have hS : ∀ s ∈ fl n P, s < n := fun s hs => (fl_mem.1 hs).1
      rw [hf]
      generalize fl n P = S at hS hfl
      refine spec_l29Filter_h4 S.length (fun i => ∀ s ∈ S.take i, ∀ y, y < n → (le s y = true → y ∈ S) ∧ (y ∈ S → mt n le s y ∈ S)) (by omega) ?_ ?_ 0 (by omega) (by simp)
      · intro rc i hi hv ih
        have hs := hS _ (List.getElem_mem hi)
        have hms := List.getElem_mem hi
        have ha := atI_cs hi
        have ih' := fun h => ih ((all_take_succ hi).2 ⟨hv, h⟩)
        unfold spec_l29Filter_b4
        rw [cs_len, cdt (by omega)]
        generalize S[i] = s at hs ha ih' hms
        refine spec_l29Filter_h7 n (fun j => ∀ y, y < j → (le s y = true → y ∈ S) ∧ (y ∈ S → mt n le s y ∈ S)) (by omega) ?_ ?_ 0 (by omega) (by intro y hy; omega)
        · intro rc2 j hj hv2 ih2
          have hlt := h.mlt hs hj
          unfold spec_l29Filter_b7
          simp only [pos_len, cdt (show (j : Int) < (n : Int) by omega), ha, Option.bind_some, l23Leq_pos (le := le) (show n ≤ 4294967296 by omega) hs hj, l1Has_cs S _ (show S.length ≤ 4294967296 by omega), l24Meet_eq h hs hj, wr1 (show j ≤ 4611686018427387904 by omega)]
          have hno : ∀ Q : Prop, ¬ Q → (IsFilt n le S → Q) → some (false, ()) = some (tv (IsFilt n le S), ()) := fun Q hq hi => by rw [tv_f fun hf => hq (hi hf)]
          by_cases hy : j ∈ S
          · simp only [decide_eq_true hy, Bool.not_true, cond_false, cond_true]
            by_cases hmy : mt n le s j ∈ S
            · rw [decide_eq_true hmy, Bool.not_true, cond_false]
              have := ih2 (all_lt_succ.2 ⟨hv2, fun _ => hy, fun _ => hmy⟩)
              cases le s j <;> exact this
            · rw [decide_eq_false hmy]
              have := hno (mt n le s j ∈ S) hmy fun hf => (hf s hms j hj).2 hy
              cases le s j <;> exact this
          · simp only [decide_eq_false hy, Bool.not_false, cond_false, cond_true]
            cases hle : le s j with
            | true => exact hno (j ∈ S) hy fun hf => (hf s hms j hj).1 hle
            | false => exact ih2 (all_lt_succ.2 ⟨hv2, fun h => (by rw [hle] at h; cases h), fun h => absurd h hy⟩)
        · intro rc2 hv2
          unfold spec_l29Filter_b7
          rw [pos_len, cdf (by omega), spec_l29Filter_a7, wr1 (by omega)]
          exact ih' hv2
      · intro rc hv
        rw [List.take_length] at hv
        unfold spec_l29Filter_b4
        rw [cs_len, cdf (by omega), spec_l29Filter_a4, tv_t (P := IsFilt n le S) hv]

theorem isFilter_eq (p : PT) (l : List Int) (hx : ∀ r ∈ p.1, r.length ≤ 4294967296) (hl : l.length ≤ 1048576) : ∃ v : Bool × Bool × Unit, spec_IsFilter p l = some (v, ()) ∧ impl_IsFilter p l = some (v, ()) := by
  unfold spec_IsFilter spec_IsFilter_s impl_IsFilter impl_IsFilter_s
  rcases lat_cases hx with ⟨n, le, e, h, h1, h2⟩ | ⟨h1, l, h2⟩
  · subst e
    have h10 := h.le10
    rw [h1, h2, Option.bind_some, Option.bind_some, Bool.not_true, cond_false, cond_false, specFilter_eq h l hl, Option.bind_some]
    refine ⟨_, rfl, ?_⟩
    by_cases h0 : l = []
    · subst h0
      rw [cdf (by simp), tv_f fun h => h.1 rfl]
    · have h01 : l.length ≠ 0 := fun e => h0 (List.eq_nil_of_length_eq_zero e)
      rw [cdt (by omega), Option.bind_some, lat1, has_eq l (by omega), Option.bind_some]
      cases ha : l.all (inB n) with
      | false =>
        rw [tv_f]
        · rfl
        · rintro ⟨_, S, _, h3, _⟩
          unfold isSetB at h3
          rw [ha, Bool.false_and] at h3; cases h3
      | true =>
        obtain ⟨S, hS, hlt⟩ := allB_form ha
        rw [cond_true, Option.bind_some, hS, meetAll_eq h hlt (by rw [hS, cs_len] at hl; omega), Option.bind_some, lat1, above_eq (by omega) (h.gbs hlt).lt, Option.bind_some, sameList_eq _ _ (by rw [← hS]; omega), Option.bind_some, ← hS]
        congr 3
        symm
        refine tv_eq ?_
        rw [decide_eq_true_eq]
        constructor
        · intro e
          have hset : isSetB n l = true := by rw [e]; exact fl_setB _ _
          refine ⟨h0, S, hS, hset, ?_⟩
          rw [hS] at e
          have e2 := cs_inj.1 e
          rw [e2]
          refine (filt_iff h ?_).2 ?_
          · intro e3; rw [e3] at e2; subst e2; exact h0 hS
          · rw [← e2]; exact e2
        · rintro ⟨_, T, hT, hset, hf⟩
          have eT : S = T := cs_inj.1 (hS.symm.trans hT)
          subst eT
          have hform := setB_form hset
          rw [hS] at hform
          have e3 := cs_inj.1 hform
          rw [hS, cs_inj]
          generalize (fun x : Nat => decide ((x : Int) ∈ cs S)) = P at e3
          subst e3
          refine (filt_iff h ?_).1 hf
          intro e4; rw [e4] at hS; exact h0 hS
  · rw [h1, h2]
    exact ⟨_, rfl, rfl⟩

theorem true_IsFilter (p : PT) (l : List Int) (hw : Wf (.pair (.pair (.sl (.sl I)) .unit) (.pair (.sl I) .unit)) (p, l, ())) : laws_FnExactIsFilter p l = some (true, ()) := by
  unfold laws_FnExactIsFilter laws_FnExactIsFilter_s
  by_cases hl : l.length ≤ 1048576
  · obtain ⟨v, hv, hv1, hv2⟩ := szPoset_eq p 1048576 hw.1 (by omega) (by omega)
    rw [cdf (by omega), hv, Option.bind_some]
    by_cases h : v < 0
    · rw [cdt h]
    · have hs := hv2 (by omega)
      obtain ⟨r, h1, h2⟩ := isFilter_eq p l hs.rows hl
      simp only [cdf h, toPoset_eq hs, toIntS_eq l (show l.length ≤ 4294967296 by omega), Option.bind_some, h1, h2, eqPoset_eq hs, eqIntS_eq l l (show l.length ≤ 1099511627775 by omega)]
      simp
  · rw [cdt (by omega)]

theorem isEdge_eq {n : Nat} {le : Nat → Nat → Bool} (hn : n ≤ 1048576) (x y : Int) : impl_lattice_isEdge (some (lat n le)) x y = some (inB n x && inB n y && cov n le x.toNat y.toNat, ()) := by
  unfold impl_lattice_isEdge impl_lattice_isEdge_s
  rw [Option.bind_some, lat1, has_eq _ (by simp), Option.bind_some, List.all_cons, List.all_cons, List.all_nil, Bool.and_true]
  cases hx : inB n x with
  | false => rfl
  | true =>
    cases hy : inB n y with
    | false => rfl
    | true =>
      obtain ⟨a, ha, e⟩ := inB_form hx
      obtain ⟨b, hb, e2⟩ := inB_form hy
      subst e; subst e2
      simp only [Bool.and_true, cond_true, Option.bind_some, lat1, covers_eq hn ha hb, Int.toNat_natCast, Bool.true_and]

theorem specEdge_eq {n : Nat} {le : Nat → Nat → Bool} (hn : n ≤ 1048576) (x y : Int) : spec_l27Edge (pos n le) x y = some (inB n x && inB n y && cov n le x.toNat y.toNat, ()) := by
  unfold spec_l27Edge spec_l27Edge_s
  rw [specIs_eq, Option.bind_some]
  cases hx : inB n x with
  | false => rfl
  | true =>
    rw [cond_true, specIs_eq, Option.bind_some]
    cases hy : inB n y with
    | false => rfl
    | true =>
      obtain ⟨a, ha, e⟩ := inB_form hx
      obtain ⟨b, hb, e2⟩ := inB_form hy
      subst e; subst e2
      simp only [Bool.and_true, cond_true, Option.bind_some, specCovers_eq hn ha hb, Int.toNat_natCast, Bool.true_and]

def persp (n : Nat) (le : Nat → Nat → Bool) (a b c d : Nat) : Bool := decide (mt n (du le) b c = d) && decide (mt n le b c = a)

theorem perspective_eq {n : Nat} {le : Nat → Nat → Bool} (h : LatP n le) {a b c d : Nat} (hb : b < n) (hc : c < n) : impl_lattice_perspective (some (lat n le)) ((a : Int), (b : Int), ()) ((c : Int), (d : Int), ()) = some (persp n le a b c d, ()) := by
  unfold impl_lattice_perspective impl_lattice_perspective_s persp
  simp only [Option.bind_some, lat2, lat3, atI_mkR hb, atI_mkR hc]
  by_cases h1 : mt n (Ytbegnofapodldaa.du le) b c = d
  · rw [cdt (show ((mt n (Ytbegnofapodldaa.du le) b c : Nat) : Int) = (d : Int) by omega), decide_eq_true h1, Bool.true_and]
    show some (decide (((mt n le b c : Nat) : Int) = (a : Int)), ()) = _
    congr 2
    exact decide_eq_decide.2 (by omega)
  · rw [cdf (show ¬ ((mt n (Ytbegnofapodldaa.du le) b c : Nat) : Int) = (d : Int) by omega), decide_eq_false h1, Bool.false_and]

theorem specUp_eq {n : Nat} {le : Nat → Nat → Bool} (h : LatP n le) {a b c d : Nat} (hb : b < n) (hc : c < n) : spec_l27Up (pos n le) ((a : Int), (b : Int), ()) ((c : Int), (d : Int), ()) = some (persp n le a b c d, ()) := by
  unfold spec_l27Up spec_l27Up_s persp
  rw [l24Join_eq h hb hc, Option.bind_some, l24Meet_eq h hb hc, Option.bind_some]
  by_cases h1 : mt n (Ytbegnofapodldaa.du le) b c = d
  · rw [cdt (show ((mt n (Ytbegnofapodldaa.du le) b c : Nat) : Int) = (d : Int) by omega), decide_eq_true h1, Bool.true_and]
    show some (decide (((mt n le b c : Nat) : Int) = (a : Int)), ()) = _
    congr 2
    exact decide_eq_decide.2 (by omega)
  · rw [cdf (show ¬ ((mt n (Ytbegnofapodldaa.du le) b c : Nat) : Int) = (d : Int) by omega), decide_eq_false h1, Bool.false_and]

theorem perspUp_eq (p : PT) (x y u v : Int) (hx : ∀ r ∈ p.1, r.length ≤ 4294967296) : ∃ r : Bool × Bool × Unit, spec_IsPerspectiveUp p x y u v = some (r, ()) ∧ impl_IsPerspectiveUp p x y u v = some (r, ()) := by
  unfold spec_IsPerspectiveUp spec_IsPerspectiveUp_s impl_IsPerspectiveUp impl_IsPerspectiveUp_s
  rcases takes_cases hx with ⟨n, le, e, h, h8, h1, h2⟩ | ⟨h1, l, h2⟩
  · subst e
    rw [h1, h2, Option.bind_some, Option.bind_some, Bool.not_true, cond_false, cond_false, isEdge_eq (by omega), specEdge_eq (by omega), Option.bind_some, Option.bind_some]
    cases e1 : inB n x && inB n y && cov n le x.toNat y.toNat with
    | false => exact ⟨_, rfl, rfl⟩
    | true =>
      rw [Bool.not_true, cond_false, cond_false, isEdge_eq (by omega), specEdge_eq (by omega), Option.bind_some, Option.bind_some]
      cases e2 : inB n u && inB n v && cov n le u.toNat v.toNat with
      | false => exact ⟨_, rfl, rfl⟩
      | true =>
        rw [Bool.and_eq_true, Bool.and_eq_true] at e1 e2
        obtain ⟨a, ha, q1⟩ := inB_form e1.1.1
        obtain ⟨b, hb, q2⟩ := inB_form e1.1.2
        obtain ⟨c, hc, q3⟩ := inB_form e2.1.1
        obtain ⟨d, hd, q4⟩ := inB_form e2.1.2
        subst q1; subst q2; subst q3; subst q4
        rw [Bool.not_true, cond_false, cond_false, perspective_eq h hb hc, specUp_eq h hb hc]
        exact ⟨_, rfl, rfl⟩
  · rw [h1, h2]
    exact ⟨_, rfl, rfl⟩

theorem true_IsPerspectiveUp (p : PT) (x y u v : Int) (hw : Wf (.pair (.pair (.sl (.sl I)) .unit) (.pair I (.pair I (.pair I (.pair I .unit))))) (p, x, y, u, v, ())) : laws_FnExactIsPerspectiveUp p x y u v = some (true, ()) := by
  obtain ⟨s, hv, hv1, hv2⟩ := szPoset_eq p 1048576 hw.1 (by omega) (by omega)
  unfold laws_FnExactIsPerspectiveUp laws_FnExactIsPerspectiveUp_s
  rw [hv, Option.bind_some]
  by_cases h : s < 0
  · rw [cdt h]
  · have hs := hv2 (by omega)
    obtain ⟨r, h1, h2⟩ := perspUp_eq p x y u v hs.rows
    simp only [cdf h, toPoset_eq hs, Option.bind_some, h1, h2, eqPoset_eq hs]
    simp

end Go.Proofs.Ytbegnofapodldaa
