import Derived.Test.YtbegnofapodldaaGxOps
set_option linter.unusedSimpArgs false
set_option linter.unusedVariables false
namespace Go.Gx
open Go

section
variable {P : Program} {A : Cfg} {c : Ctx} {own : Nat → List Nat} {st : St} {a : Act} {w : World} {ρ : Type}

theorem isBool_ok (hA : CfgOk P A) {T : TypeId} (h : isBoolTy (A.ty T) = true) : P.underlying T = some .bool := by
  cases ht : A.ty T with
  | none => rw [ht] at h; cases h
  | some tf =>
    obtain ⟨t, f⟩ := tf
    rw [ht] at h
    cases t <;> simp [isBoolTy] at h
    obtain ⟨i, z, d, h1, h2, h3, h4, h5, h6, h7, _⟩ := hA.ty T _ f ht
    rw [h7 rfl] at h5
    exact h5

theorem str_eq (x y : List UInt8) : ((⟨x.toArray⟩ : ByteArray).toList == (⟨y.toArray⟩ : ByteArray).toList) = decide (x = y) := by
  rw [ByteArray.toList_mk, ByteArray.toList_mk, Bool.eq_iff_iff]
  simp

theorem run_bool_eql (T : TypeId) (m n : Bool) (h : P.underlying T = some .bool) : (binOp .eql T (.bool m) (.bool n)).run P w = .ok (.bool (m == n)) w := by
  have h1 : (Op.equal T (.bool m) (.bool n)).run P w = .ok (m == n) w := run_equalIn_bool w 9999 T m n h
  simp only [binOp, Sem.run_bind, h1, Result.andThen_ok, Sem.run_pure]
theorem run_bool_neq (T : TypeId) (m n : Bool) (h : P.underlying T = some .bool) : (binOp .neq T (.bool m) (.bool n)).run P w = .ok (.bool (m != n)) w := by
  have h1 : (Op.equal T (.bool m) (.bool n)).run P w = .ok (m == n) w := run_equalIn_bool w 9999 T m n h
  simp only [binOp, Sem.run_bind, h1, Result.andThen_ok, Sem.run_pure]
  rfl

theorem eqGuard_int (op : BinOp) (T : TypeId) (x y : Operand) (k j : IntKind) (m n : Int) : (eqGuard op T x y (.int k m) (.int j n)).run P w = .ok () w := by
  unfold eqGuard
  split <;> simp [Sem.run_pure]
theorem eqGuard_bool (op : BinOp) (T : TypeId) (x y : Operand) (m n : Bool) : (eqGuard op T x y (.bool m) (.bool n)).run P w = .ok () w := by
  unfold eqGuard
  split <;> simp [Sem.run_pure]
theorem eqGuard_str (op : BinOp) (T : TypeId) (x y : Operand) (m n : ByteArray) : (eqGuard op T x y (.string m) (.string n)).run P w = .ok () w := by
  unfold eqGuard
  split <;> simp [Sem.run_pure]

theorem binOp_ok (hA : CfgOk P A) {o : Oper} {op : BinOp} {T T' : TypeId} {x y : Operand} {k : St → Option ρ} {r : ρ} (ho : o.op = .binOp op T x y T') (h : Inv c own [] st a w)
    (hk : binV (isBoolTy (A.ty T)) op (opd st x) (opd st y) (fun v => k (st.putO o.dst v)) = some r) : OpGoal P c o k r a w := by
  have hxv := opd_ok h x
  have hyv := opd_ok h y
  unfold binV at hk
  split at hk
  · rename_i j f1 m kd f2 n hx hy
    rw [hx] at hxv
    rw [hy] at hyv
    have sh : ∀ (z : Option Int), (binOp op T (.int j m) (.int kd n)).run P w = (match z with | some z => .ok (.int j z) w | none => (binOp op T (.int j m) (.int kd n)).run P w) → z.bind (fun x => k (st.putO o.dst (.val (.int j) .i x))) = some r → OpGoal P c o k r a w := by
      intro z hz hk
      cases z with
      | none => cases hk
      | some z =>
        refine opGoal_value h (v := .val (.int j) .i z) (value := .int j z) ?_ (slot_int _ _) hk
        unfold execOp
        simp only [ho, hxv.int, hyv.int, Sem.run_bind, eqGuard_int, hz, Result.andThen_ok, Sem.run_pure]
    split at hk
    · refine sh _ ?_ hk
      unfold shlI
      by_cases hn : n < 0
      · simp [hn]
      · simp [hn, binOp, Op.shift]
    · refine sh _ ?_ hk
      unfold shrI
      by_cases hn : n < 0
      · simp [hn]
      · simp [hn, binOp, Op.shift]
    split at hk
    · rename_i hjk
      subst hjk
      obtain ⟨v, value, hc, hrun, hs⟩ := binI_ok (P := P) (w := w) hk T
      refine opGoal_value h (v := v) (value := value) ?_ (hs _ _ _ _) hc
      unfold execOp
      simp only [ho, hxv.int, hyv.int, Sem.run_bind, eqGuard_int, hrun, Result.andThen_ok, Sem.run_pure]
    · cases hk
  · rename_i f1 m f2 n hx hy
    rw [hx] at hxv
    rw [hy] at hyv
    split at hk
    · rename_i hb
      have hu := isBool_ok hA hb
      split at hk
      · refine opGoal_value h (v := .val .bool .i _) (value := .bool _) ?_ (slot_bool _) hk
        unfold execOp
        simp only [ho, hxv.bool, hyv.bool, Sem.run_bind, eqGuard_bool, Result.andThen_ok, Sem.run_pure, run_bool_eql T _ _ hu]
      · refine opGoal_value h (v := .val .bool .i _) (value := .bool _) ?_ (slot_bool _) hk
        unfold execOp
        simp only [ho, hxv.bool, hyv.bool, Sem.run_bind, eqGuard_bool, Result.andThen_ok, Sem.run_pure, run_bool_neq T _ _ hu]
      · cases hk
    · cases hk
  · rename_i f1 m f2 n hx hy
    rw [hx] at hxv
    rw [hy] at hyv
    split at hk
    · refine opGoal_value h (v := .val .bool .i _) (value := .bool (decide (m = n))) ?_ (slot_bool _) hk
      unfold execOp
      simp only [ho, hxv.str, hyv.str, Sem.run_bind, eqGuard_str, Result.andThen_ok, Sem.run_pure, binOp, Op.stringOp, str_eq]
    · refine opGoal_value h (v := .val .bool .i _) (value := .bool (decide (m ≠ n))) ?_ (slot_bool _) hk
      unfold execOp
      simp only [ho, hxv.str, hyv.str, Sem.run_bind, eqGuard_str, Result.andThen_ok, Sem.run_pure, binOp, Op.stringOp, str_eq, decide_not]
    · cases hk
  · cases hk

theorem unOp_ok {o : Oper} {op : UnOp} {T : TypeId} {x : Operand} {k : St → Option ρ} {r : ρ} (ho : o.op = .unOp op T x) (h : Inv c own [] st a w)
    (hk : unV op (opd st x) (fun v => k (st.putO o.dst v)) = some r) : OpGoal P c o k r a w := by
  have hxv := opd_ok h x
  unfold unV at hk
  split at hk
  · rename_i f m hx
    rw [hx] at hxv
    split at hk
    · refine opGoal_value h (v := .val .bool .i _) (value := .bool (!m)) ?_ (slot_bool _) hk
      unfold execOp
      simp only [ho, hxv.bool, Sem.run_bind, Result.andThen_ok, Sem.run_pure, Op.unary]
    · cases hk
  · rename_i kd f m hx
    rw [hx] at hxv
    split at hk
    · refine opGoal_value h (v := .val (.int kd) .i _) (value := .int kd (kd.wrap (0 - m))) ?_ (slot_int _ _) hk
      unfold execOp
      simp only [ho, hxv.int, Sem.run_bind, Result.andThen_ok, Sem.run_pure, Op.unary, Op.intArith]
    · cases hk
  · cases hk

theorem pick_ok {o : Oper} {x y z : Operand} {k : St → Option ρ} {r : ρ} (ho : o.op = .pick x y z) (h : Inv c own [] st a w)
    (hk : pickV (opd st x) (opd st y) (opd st z) (fun v => k (st.putO o.dst v)) = some r) : OpGoal P c o k r a w := by
  have hxv := opd_ok h x
  have hyv := opd_ok h y
  have hzv := opd_ok h z
  unfold pickV at hk
  split at hk
  · rename_i f b hx
    rw [hx] at hxv
    split at hk
    · rename_i f1 m f2 n hy hz
      rw [hy] at hyv
      rw [hz] at hzv
      refine opGoal_value h (v := .val .bool .i _) (value := .bool (cond b m n)) ?_ (slot_bool _) hk
      unfold execOp
      simp only [ho, hxv.bool, hyv.bool, hzv.bool, asBool, Sem.run_bind, Result.andThen_ok, Sem.run_pure]
      cases b <;> rfl
    · rename_i f1 m hy _
      rw [hy] at hyv
      cases b with
      | false => cases hk
      | true =>
        refine opGoal_value h (v := .val .bool .i _) (value := .bool m) ?_ (slot_bool _) hk
        unfold execOp
        simp only [ho, hxv.bool, hyv.bool, asBool, Sem.run_bind, Result.andThen_ok, Sem.run_pure, if_true]
    · rename_i f1 m hz _
      rw [hz] at hzv
      cases b with
      | true => cases hk
      | false =>
        refine opGoal_value h (v := .val .bool .i _) (value := .bool m) ?_ (slot_bool _) hk
        unfold execOp
        simp only [ho, hxv.bool, hzv.bool, asBool, Sem.run_bind, Result.andThen_ok, Sem.run_pure, Bool.false_eq_true, if_false]
    · cases hk
  · cases hk

end
end Go.Gx
