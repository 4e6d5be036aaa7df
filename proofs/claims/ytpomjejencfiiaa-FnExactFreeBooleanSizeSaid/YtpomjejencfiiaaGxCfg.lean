import Derived.Test.YtpomjejencfiiaaGxLaw
set_option linter.unusedSimpArgs false
set_option linter.unusedVariables false
namespace Go.Gx
open Go

def vsame : Value → Value → Bool
  | .int k n, .int k' n' => decide (k = k') && decide (n = n')
  | .bool a, .bool b => a == b
  | .string s, .string s' => s.data.toList.isEmpty && s'.data.toList.isEmpty
  | .slice none 0 0, .slice none 0 0 => true
  | .pointer none, .pointer none => true
  | _, _ => false

theorem vsame_ok {u v : Value} (h : vsame u v = true) : u = v := by
  unfold vsame at h
  split at h
  · simp only [Bool.and_eq_true, decide_eq_true_eq] at h
    rw [h.1, h.2]
  · simp only [beq_iff_eq] at h; rw [h]
  · rename_i s s'
    simp only [Bool.and_eq_true, List.isEmpty_iff] at h
    have h1 : s = ⟨#[]⟩ := by cases s; simp_all
    have h2 : s' = ⟨#[]⟩ := by cases s'; simp_all
    rw [h1, h2]
  · rfl
  · rfl
  · cases h

def vsames : List Value → List Value → Bool
  | [], [] => true
  | u :: us, v :: vs => vsame u v && vsames us vs
  | _, _ => false

theorem vsames_ok : ∀ {us vs : List Value}, vsames us vs = true → us = vs
  | [], [], _ => rfl
  | u :: us, v :: vs, h => by
    simp only [vsames, Bool.and_eq_true] at h
    rw [vsame_ok h.1, vsames_ok h.2]
  | [], _ :: _, h => by cases h
  | _ :: _, [], h => by cases h

def aggD : TypeDesc → Bool
  | .struct _ => true | .array _ _ => true | _ => false

def descOk : Ty → TypeDesc → Bool
  | .bool, .bool => true
  | .bool, _ => false
  | .str, .string => true
  | .str, _ => false
  | .any _, _ => false
  | .tup _, _ => false
  | _, _ => true

def tyChk (P : Program) (T : TypeId) (t : Ty) : Bool := match P.info? T, P.underlying T with
  | some i, some d => match i.zero with
    | some z => decide (i.size = t.cells) && (!t.hasZero || vsames z.cells.toList (zc t)) && decide (z.cells.size = t.cells) && (t.isAgg == aggD d) && descOk t d
    | none => false
  | _, _ => false

theorem tyChk_ok {P : Program} {T : TypeId} {t : Ty} (h : tyChk P T t = true) : TyOk P T t := by
  unfold tyChk at h
  split at h
  case h_2 => cases h
  rename_i i d hi hd
  split at h
  case h_2 => cases h
  rename_i z hz
  simp only [Bool.and_eq_true, decide_eq_true_eq, Bool.or_eq_true, Bool.not_eq_true', beq_iff_eq] at h
  obtain ⟨⟨⟨⟨h1, h2⟩, h3⟩, h4⟩, h5⟩ := h
  refine ⟨i, z, d, hi, h1, hz, ⟨fun ht => ?_, h3⟩, hd, ?_, ?_, ?_, ?_, ?_⟩
  · rcases h2 with h2 | h2
    · rw [ht] at h2; cases h2
    · exact vsames_ok h2
  · rw [h4]; cases d <;> rfl
  · intro ht; subst ht; cases d <;> simp_all [descOk]
  · intro ht; subst ht; cases d <;> simp_all [descOk]
  · intro n ht; subst ht; simp [descOk] at h5
  · intro n ht; subst ht; simp [descOk] at h5

def elemChk (P : Program) (T : TypeId) (t : Ty) : Bool := match P.underlying T with
  | some (.slice e) => match P.info? e with
    | some i => tyChk P e t && decide (i.bytes ≤ 32768) && decide (0 < t.cells) && decide (t.cells ≤ 64)
    | none => false
  | _ => false

def look {α : Type} : List (Nat × α) → Nat → Option α
  | [], _ => none
  | (n, a) :: l, m => if m = n then some a else look l m

def lookT : List (Nat × Ty × Fl) → Nat → Option (Ty × Fl)
  | [], _ => none
  | (n, a) :: l, m => if m = n then some a else lookT l m

def lookS : List (Nat × List Sh) → Nat → Option (List Sh)
  | [], _ => none
  | (n, a) :: l, m => if m = n then some a else lookS l m

/-- the evaluator's tables: element types of slice types, types, contracts, shapes -/
def mkCfg (es ts : List (Nat × Ty × Fl)) (ss : List (Nat × Sig)) (sh : List (Nat × List Sh)) : Cfg :=
  { elem := lookT es, flds := fun _ => none, ty := lookT ts, sig := look ss, shape := lookS sh }

theorem lookT_mem : ∀ {l : List (Nat × Ty × Fl)} {m : Nat} {a : Ty × Fl}, lookT l m = some a → (m, a) ∈ l
  | [], _, _, h => by cases h
  | (n, b) :: l, m, a, h => by
    simp only [lookT] at h
    split at h
    · rename_i e; subst e; cases h; exact List.mem_cons_self
    · exact List.mem_cons_of_mem _ (lookT_mem h)

theorem look_mem {α : Type} : ∀ {l : List (Nat × α)} {m : Nat} {a : α}, look l m = some a → (m, a) ∈ l
  | [], _, _, h => by cases h
  | (n, b) :: l, m, a, h => by
    simp only [look] at h
    split at h
    · rename_i e; subst e; cases h; exact List.mem_cons_self
    · exact List.mem_cons_of_mem _ (look_mem h)

theorem mkCfg_ok {P : Program} {es ts : List (Nat × Ty × Fl)} {ss : List (Nat × Sig)} {sh : List (Nat × List Sh)} (h : (es.all (fun r => elemChk P r.1 r.2.1) && ts.all (fun r => tyChk P r.1 r.2.1)) = true) : CfgOk P (mkCfg es ts ss sh) := by
  simp only [Bool.and_eq_true, List.all_eq_true] at h
  refine ⟨fun T t f hT => ?_, fun T t f hT => ?_⟩
  · have := h.1 _ (lookT_mem hT)
    simp only [elemChk] at this
    split at this
    case h_2 => cases this
    rename_i e he
    split at this
    case h_2 => cases this
    rename_i i hi
    simp only [Bool.and_eq_true, decide_eq_true_eq] at this
    exact ⟨e, i, he, tyChk_ok this.1.1.1, hi, this.1.1.2, this.1.2, this.2⟩
  · exact tyChk_ok (h.2 _ (lookT_mem hT))

def FnOk (P : Program) (f : FuncId) : Prop := ∃ fn, P.funcs[f]? = some fn ∧ fn.body.isNone = false ∧ (fn.name == "runtime.NumGoroutine") = false

theorem mkCfg_sig {P : Program} {es ts : List (Nat × Ty × Fl)} {ss : List (Nat × Sig)} {sh : List (Nat × List Sh)} (h : ∀ p ∈ ss, FnOk P p.1 ∧ Good P p.1 p.2) : SigOk P (mkCfg es ts ss sh) :=
  ⟨fun f S hS => h (f, S) (look_mem hS)⟩

def loopOf (r : Nat) : Code → Option Code
  | .loop c => if rid c = r then some c else loopOf r c
  | .seq a b => (loopOf r a).orElse fun _ => loopOf r b
  | .block _ c => loopOf r c
  | .cond _ a b => (loopOf r a).orElse fun _ => loopOf r b
  | _ => none
/-- what stands behind the part of a sequence that begins in region r -/
def restOf (r : Nat) : Code → Option Code
  | .seq a b => if rid b = r then some b else (restOf r a).orElse fun _ => restOf r b
  | .block _ c => restOf r c
  | .loop c => restOf r c
  | .cond _ a b => (restOf r a).orElse fun _ => restOf r b
  | _ => none
def loopAt (fn : Func) (r : Nat) : Code := (fn.body.bind (loopOf r)).getD .skip
def restAt (fn : Func) (r : Nat) : Code := (fn.body.bind (restOf r)).getD .skip

end Go.Gx
