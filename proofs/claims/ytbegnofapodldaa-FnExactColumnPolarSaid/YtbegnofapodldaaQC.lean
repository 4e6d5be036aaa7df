import Derived.Test.YtbegnofapodldaaQP
import Derived.KernelRfl
set_option linter.unusedVariables false
set_option linter.unusedSimpArgs false
namespace Go.Proofs.Ytbegnofapodldaa
open Go Go.Gx Go.Proofs

theorem colIn_l (N : Nat) {c : List (List Bool)} (hc : isCtx c = true) (k : List (List Bool) → List Int → List Int → Int → Bool → Option (List Int × Unit)) (out : List Int) (y : Int) (hy : inB c.length y = true) : ∀ (n : Nat) (rows : List Int) (all : Bool) (i : Nat), rows.length - i < n → i ≤ rows.length → rows.length ≤ 1099511627776 → (∀ x ∈ rows, inB (cw c) x = true) →
    spec_l30Column_l7 N k n c rows out y all i = k c rows out y (all && (rows.drop i).all fun x => cellB c y x)
  | 0, _, _, _, h, _, _, _ => by omega
  | n + 1, rows, all, i, h, hi, hb, hr => by
    simp only [spec_l30Column_l7, spec_l30Column_b7]
    by_cases hlt : i < rows.length
    · obtain ⟨r, e1, e2⟩ := cell_ok hc hy (hr _ (List.getElem_mem hlt))
      rw [cdt (by omega), wr (n := (i : Int) + 1) (by omega) (by omega), e1, Option.bind_some, atI_lt rows i hlt, Option.bind_some, e2, Option.bind_some]
      rw [show ((i : Int) + 1) = ((i + 1 : Nat) : Int) by omega, colIn_l N hc k out y hy n rows _ (i + 1) (by omega) (by omega) hb hr, colIn_l N hc k out y hy n rows _ (i + 1) (by omega) (by omega) hb hr]
      rw [List.drop_eq_getElem_cons hlt, List.all_cons]
      cases all <;> simp
    · rw [cdf (by omega), List.drop_eq_nil_of_le (by omega)]
      simp

theorem colOut_l (N : Nat) {c : List (List Bool)} (hc : isCtx c = true) (hN : 1099511627776 ≤ N) (k : List Int → Option (List Int × Unit)) {rows : List Int} (hb : rows.length ≤ 1099511627775) (hr : ∀ x ∈ rows, inB (cw c) x = true) : ∀ (m n : Nat) (out : List Int) (y : Nat), m < n → y + m = c.length → out.length ≤ y → c.length ≤ 6 →
    spec_l30Column_l3 N k n c rows out y = k (out ++ pol (fun y => rows.all fun x => cellB c y x) m y)
  | m, 0, _, _, h, _, _, _ => by omega
  | m, n + 1, out, y, h, hy, ho, h6 => by
    simp only [spec_l30Column_l3, spec_l30Column_b3]
    cases m with
    | zero => rw [cdf (by omega)]; simp [pol]
    | succ m =>
      rw [cdt (by omega)]
      unfold spec_l30Column_F7
      have := colIn_l N hc (spec_l30Column_a7 (spec_l30Column_l3 N k n)) out y (by unfold inB; simp; omega) N rows true 0 (by omega) (by omega) (by omega) hr
      rw [show (0 : Int) = ((0 : Nat) : Int) from rfl, this]
      simp only [List.drop_zero, Bool.true_and, spec_l30Column_a7, pol]
      rw [wr (by omega) (by omega), show ((y : Int) + 1) = ((y + 1 : Nat) : Int) by omega, appI_ok (by simp; omega), Option.bind_some]
      rw [colOut_l N hc hN k hb hr m n (out ++ [(y : Int)]) (y + 1) (by omega) (by omega) (by simp; omega) h6, colOut_l N hc hN k hb hr m n out (y + 1) (by omega) (by omega) (by omega) h6]
      by_cases hh : (rows.all fun x => cellB c (y : Int) x) = true
      · simp [hh]
      · simp only [Bool.not_eq_true] at hh; simp [hh]

theorem specCol_eq {c : List (List Bool)} (hc : isCtx c = true) {rows : List Int} (hb : rows.length ≤ 1099511627775) (hr : ∀ x ∈ rows, inB (cw c) x = true) : spec_l30Column big c rows = some (pol (fun y => rows.all fun x => cellB c y x) c.length 0, ()) := by
  have hg := big_ge
  unfold spec_l30Column spec_l30Column_s spec_l30Column_F3
  have h6 := (ctx_cw hc).1
  have := colOut_l big hc hg spec_l30Column_a3 hb hr c.length big [] 0 (by omega) (by omega) (by simp) h6
  rw [show (0 : Int) = ((0 : Nat) : Int) from rfl, this]
  rfl

theorem polCol_l (N : Nat) {c : List (List Bool)} (hc : isCtx c = true) (k : Int → List Int → (List (List Bool) × Unit) → List Int → Int → Bool → Option (List Int × Unit)) (n0 : Int) (out : List Int) (y : Int) (hy : inB c.length y = true) : ∀ (n : Nat) (rows : List Int) (all : Bool) (i : Nat), rows.length - i < n → i ≤ rows.length → rows.length ≤ 1099511627776 → (∀ x ∈ rows, inB (cw c) x = true) →
    impl_polar_k_columnPolar_c1_l7 N k n n0 rows (c, ()) out y all rows (rows.length : Int) i = k n0 rows (c, ()) out y (all && (rows.drop i).all fun x => cellB c y x)
  | 0, _, _, _, h, _, _, _ => by omega
  | n + 1, rows, all, i, h, hi, hb, hr => by
    simp only [impl_polar_k_columnPolar_c1_l7, impl_polar_k_columnPolar_c1_b7]
    by_cases hlt : i < rows.length
    · obtain ⟨r, e1, e2⟩ := cell_ok hc hy (hr _ (List.getElem_mem hlt))
      rw [cdt (by omega), wr (n := (i : Int) + 1) (by omega) (by omega), atI_lt rows i hlt, Option.bind_some]
      unfold impl_columnPolar_c1 impl_columnPolar_c1_s
      rw [e1, Option.bind_some, e2, Option.bind_some, Option.bind_some]
      rw [show ((i : Int) + 1) = ((i + 1 : Nat) : Int) by omega, polCol_l N hc k n0 out y hy n rows _ (i + 1) (by omega) (by omega) hb hr, polCol_l N hc k n0 out y hy n rows _ (i + 1) (by omega) (by omega) hb hr]
      rw [List.drop_eq_getElem_cons hlt, List.all_cons]
      cases all <;> simp
    · rw [cdf (by omega), List.drop_eq_nil_of_le (by omega)]
      simp

theorem polColOut_l (N : Nat) {c : List (List Bool)} (hc : isCtx c = true) (hN : 1099511627776 ≤ N) (k : List Int → Option (List Int × Unit)) {rows : List Int} (hb : rows.length ≤ 1099511627775) (hr : ∀ x ∈ rows, inB (cw c) x = true) : ∀ (m n : Nat) (out : List Int) (y : Nat), m < n → y + m = c.length → out.length ≤ y → c.length ≤ 6 →
    impl_polar_k_columnPolar_c1_l3 N k n (c.length : Int) rows (c, ()) out y = k (out ++ pol (fun y => rows.all fun x => cellB c y x) m y)
  | m, 0, _, _, h, _, _, _ => by omega
  | m, n + 1, out, y, h, hy, ho, h6 => by
    simp only [impl_polar_k_columnPolar_c1_l3, impl_polar_k_columnPolar_c1_b3]
    cases m with
    | zero => rw [cdf (by omega)]; simp [pol]
    | succ m =>
      rw [cdt (by omega)]
      unfold impl_polar_k_columnPolar_c1_F7
      have := polCol_l N hc (impl_polar_k_columnPolar_c1_a7 (impl_polar_k_columnPolar_c1_l3 N k n)) (c.length : Int) out y (by unfold inB; simp; omega) N rows true 0 (by omega) (by omega) (by omega) hr
      rw [show (0 : Int) = ((0 : Nat) : Int) from rfl, this]
      simp only [List.drop_zero, Bool.true_and, impl_polar_k_columnPolar_c1_a7, pol]
      rw [wr (by omega) (by omega), show ((y : Int) + 1) = ((y + 1 : Nat) : Int) by omega, appI_ok (by simp; omega), Option.bind_some]
      rw [polColOut_l N hc hN k hb hr m n (out ++ [(y : Int)]) (y + 1) (by omega) (by omega) (by simp; omega) h6, polColOut_l N hc hN k hb hr m n out (y + 1) (by omega) (by omega) (by omega) h6]
      by_cases hh : (rows.all fun x => cellB c (y : Int) x) = true
      · simp [hh]
      · simp only [Bool.not_eq_true] at hh; simp [hh]

theorem implCol_eq {c : List (List Bool)} (hc : isCtx c = true) {rows : List Int} (hb : rows.length ≤ 1099511627775) (hr : ∀ x ∈ rows, inB (cw c) x = true) : impl_polar_k_columnPolar_c1 big (c.length : Int) rows (c, ()) = some (pol (fun y => rows.all fun x => cellB c y x) c.length 0, ()) := by
  have hg := big_ge
  unfold impl_polar_k_columnPolar_c1 impl_polar_k_columnPolar_c1_s impl_polar_k_columnPolar_c1_F3
  have h6 := (ctx_cw hc).1
  have := polColOut_l big hc hg impl_polar_k_columnPolar_c1_a3 hb hr c.length big [] 0 (by omega) (by omega) (by simp) h6
  rw [show (0 : Int) = ((0 : Nat) : Int) from rfl, this]
  rfl

def colV (c : List (List Bool)) (rows : List Int) : List Int × Bool × Unit := if isCtx c && isSetB (cw c) rows then (pol (fun y => rows.all fun x => cellB c y x) c.length 0, true, ()) else ([], false, ())

theorem specColPolar_eq (c : List (List Bool)) (rows : List Int) (hc : c.length ≤ 1099511627776) (hb : rows.length ≤ 1099511627775) : spec_ColumnPolar c rows = some (colV c rows, ()) := by
  unfold spec_ColumnPolar spec_ColumnPolar_s colV
  rw [specCtx_eq, Option.bind_some, specColumns_eq, Option.bind_some]
  cases h : isCtx c with
  | false => rfl
  | true =>
    have h6 := (ctx_cw h).2
    rw [l30Set_eq _ _ (by omega) hb, Option.bind_some]
    cases h2 : isSetB (cw c) rows with
    | false => rfl
    | true => simp only [Bool.not_true, cond_false, specCol_eq h hb (setB_mem h2), Option.bind_some]; rfl

theorem implColPolar_eq (c : List (List Bool)) (rows : List Int) (hb : rows.length ≤ 1099511627775) : impl_ColumnPolar c rows = some (colV c rows, ()) := by
  unfold impl_ColumnPolar impl_ColumnPolar_s colV
  rw [implCtx_eq, Option.bind_some, columnsOf_eq, Option.bind_some, isSetOf_eq _ _ hb, Option.bind_some]
  unfold impl_columnPolar impl_columnPolar_s
  cases h : isCtx c with
  | false => rfl
  | true =>
    cases h2 : isSetB (cw c) rows with
    | false => rfl
    | true => simp only [Bool.not_true, cond_false, implCol_eq h hb (setB_mem h2), Option.bind_some]; rfl

theorem colV_len (c : List (List Bool)) (rows : List Int) : (colV c rows).1.length ≤ 6 := by
  unfold colV
  split
  · rename_i h
    simp only [Bool.and_eq_true] at h
    have h1 := pol_len (fun y => rows.all fun x => cellB c y x) c.length 0
    have h2 := (ctx_cw h.1).1
    simp only; omega
  · simp

theorem true_ColumnPolar (c : List (List Bool)) (rows : List Int) (hw : Wf (.pair (.sl (.sl .bool)) (.pair (.sl I) .unit)) (c, rows, ())) : laws_FnExactColumnPolar c rows = some (true, ()) := by
  simp only [Wf, maxLen] at hw
  unfold laws_FnExactColumnPolar laws_FnExactColumnPolar_s
  by_cases h : rows.length ≤ 1048576
  · rw [cdf (by omega)]
    obtain ⟨v, hv, hv2⟩ := szBoolSS_eq c hw.1.1 fun x hx => (hw.1.2 x hx).1
    rw [hv, Option.bind_some]
    by_cases h0 : v < 0
    · rw [cdt h0]
    · obtain ⟨h1, h2⟩ := hv2 (by omega)
      have h3 : ∀ x ∈ c, x.length ≤ 4294967296 := fun x hx => by have := h2 x hx; omega
      obtain ⟨m, j, hm, hj, hj2⟩ := markBoolSS_eq c 1 h1 h2 (by omega) (by omega)
      have hl := colV_len c rows
      rw [cdf h0]
      simp only [toBoolSS_eq c (by omega) h3, toIntS_eq rows (by omega), Option.bind_some, specColPolar_eq c rows (by omega) (by omega), implColPolar_eq c rows (by omega), eqIntS_eq (colV c rows).1 (colV c rows).1 (by omega), eqBoolSS_eq c c (by omega) h3, eqIntS_eq rows rows (by omega),
        hm, markIntS_eq2 rows j (by omega) hj hj2, markIntS_eq (colV c rows).1 1 (by omega) (by omega) (by omega), heldIntS_eq 1 (colV c rows).1.length (by omega) (by omega) (by omega)]
      simp
      repeat rw [cdf (by omega)]
  · rw [cdt (by omega)]


end Go.Proofs.Ytbegnofapodldaa
