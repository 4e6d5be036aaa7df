/-
  The law FnExactFreeBooleanSize answers true at every argument and leaves it as it was; there is no condition.
-/
import Derived.Test.YtpomjejencfiiaaGxCfg
import Derived.Test.YtpomjejencfiiaaRows
import Derived.Test.YtpomjejencfiiaaChecked
import Derived.KernelRfl
set_option maxRecDepth 100000
namespace Go.Proofs.Ytpomjejencfiiaa
open Go Go.Gx Go.Proofs

abbrev I := Ty.int .i64
def tys : List (Nat × Ty × Fl) := [(3, I, .i), (4, .bool, .i)]
theorem tysOk : (([] : List (Nat × Ty × Fl)).all (fun r => elemChk Try.prog r.1 r.2.1) && tys.all (fun r => tyChk Try.prog r.1 r.2.1)) = true := by kernel_rfl

def S46 : Sig := { a := .pair I (.pair I (.pair I .unit)), md := [0, 0, 0], mf := [], m := .unit, r := .bool, rf := .i, f := fun x => cond (decide (x.2.1 ≤ x.1)) (some (decide (x.1 ≤ x.2.2.1), ())) (some (false, ())) }
theorem run46 (x : S46.a.den) : runF (mkCfg [] tys [] []) 0 Try.f46 S46 x = S46.f x := by kernel_rfl
theorem good46 : Gx.Good Try.prog 46 S46 := good_of_run Try.func46 (of_decide_eq_true (by kernel_rfl)) fun x r h => ⟨_, 0, mkCfg_ok tysOk, mkCfg_sig (by simp), (run46 x).trans h⟩

def loop47 : Nat → Int → Int → Int → Option (Int × Unit)
  | 0, _, _, _ => none
  | m + 1, n, k, o => cond (decide (0 < k)) (loop47 m n (IntKind.i64.wrap (k - 1)) (IntKind.i64.wrap (o * n))) (some (o, ()))
def S47 : Sig := { a := .pair I (.pair I .unit), md := [0, 0], mf := [], m := .unit, r := I, rf := .i, f := fun x => loop47 (x.2.1.toNat + 1) x.1 x.2.1 1 }
def A47 : Cfg := mkCfg [] tys [] [(4, [.as I .i, .as I .i, .drop, .drop, .drop, .as I .i]), (11, [.drop, .drop, .drop, .drop, .drop, .as I .i])]

def st47 (n k o : Int) : St := [.val I .i n, .val I .i k, .u, .u, .u, .val I .i o] ++ List.replicate 8 .u
def K47 (fn : Func) (N : Nat) : Ex → St → Option (Int × Unit) := blockK 0 (seqK (A47.shape 11) (run A47 N (restAt fn 5)) (finish S47 fn.results.toList))
theorem step47 (N m : Nat) (n k o : Int) : iter (A47.shape 4) (run A47 N (loopAt Try.f47 2)) (m + 1) (st47 n k o) (K47 Try.f47 N) =
    cond (decide (0 < k)) (iter (A47.shape 4) (run A47 N (loopAt Try.f47 2)) m (st47 n (IntKind.i64.wrap (k - 1)) (IntKind.i64.wrap (o * n))) (K47 Try.f47 N)) (some (o, ())) := by kernel_rfl
theorem iter47 (N : Nat) : ∀ (m : Nat) (n k o : Int), iter (A47.shape 4) (run A47 N (loopAt Try.f47 2)) m (st47 n k o) (K47 Try.f47 N) = loop47 m n k o
  | 0, _, _, _ => rfl
  | m + 1, n, k, o => by rw [step47, loop47, iter47 N m]
theorem run47 (N : Nat) (x : S47.a.den) : runF A47 N Try.f47 S47 x = iter (A47.shape 4) (run A47 N (loopAt Try.f47 2)) N (st47 x.1 x.2.1 1) (K47 Try.f47 N) := by kernel_rfl
theorem good47 : Gx.Good Try.prog 47 S47 := good_of_run Try.func47 (of_decide_eq_true (by kernel_rfl)) fun x r h => ⟨A47, x.2.1.toNat + 1, mkCfg_ok tysOk, mkCfg_sig (by simp), ((run47 _ x).trans (iter47 _ _ _ _ _)).trans h⟩

def S15 : Sig := { a := .pair I .unit, md := [0], mf := [], m := .unit, r := .tup (.pair I (.pair .bool .unit)), rf := .i, f := fun x => (S46.f (x.1, 0, 5, ())).bind fun r => cond (!r.1) (some ((0, false, ()), ())) ((S47.f (2, x.1, ())).bind fun p => (S47.f (2, p.1, ())).bind fun q => some ((q.1, true, ()), ())) }
def A15 : Cfg := mkCfg [] tys [(46, S46), (47, S47)] []
theorem run15 (x : S15.a.den) : runF A15 0 Try.f15 S15 x = S15.f x := by kernel_rfl

theorem fn46 : FnOk Try.prog 46 := ⟨_, Try.func46, by kernel_rfl, by kernel_rfl⟩
theorem fn47 : FnOk Try.prog 47 := ⟨_, Try.func47, by kernel_rfl, by kernel_rfl⟩
theorem fn15 : FnOk Try.prog 15 := ⟨_, Try.func15, by kernel_rfl, by kernel_rfl⟩
theorem fn16 : FnOk Try.prog 16 := ⟨_, Try.func16, by kernel_rfl, by kernel_rfl⟩
theorem good15 : Gx.Good Try.prog 15 S15 := good_of_run Try.func15 (of_decide_eq_true (by kernel_rfl)) fun x r h => ⟨A15, 0, mkCfg_ok tysOk, mkCfg_sig (by
  intro p hp
  simp only [List.mem_cons, List.not_mem_nil, or_false] at hp
  rcases hp with rfl | rfl
  · exact ⟨fn46, good46⟩
  · exact ⟨fn47, good47⟩), (run15 x).trans h⟩

def S16 : Sig := { a := .pair I .unit, md := [0], mf := [], m := .unit, r := .tup (.pair I (.pair .bool .unit)), rf := .i, f := fun x => cond (decide (x.1 < 0)) (some ((0, false, ()), ())) (cond (decide (5 < x.1)) (some ((0, false, ()), ())) ((shlI .u64 1 x.1).bind fun p => (shlI .i64 1 p).bind fun q => some ((q, true, ()), ()))) }
theorem run16 (x : S16.a.den) : runF (mkCfg [] tys [] []) 0 Try.f16 S16 x = S16.f x := by kernel_rfl
theorem good16 : Gx.Good Try.prog 16 S16 := good_of_run Try.func16 (of_decide_eq_true (by kernel_rfl)) fun x r h => ⟨_, 0, mkCfg_ok tysOk, mkCfg_sig (by simp), (run16 x).trans h⟩

def g3 (x : (Ty.pair I .unit).den) : Option Bool := (S15.f x).bind fun p => (S16.f x).bind fun q => cond (decide (q.1.1 ≠ p.1.1)) (some false) (cond (q.1.2.1 != p.1.2.1) (some false) (some true))
def S3 : Sig := lawSig (.pair I .unit) 1 g3
def A3 : Cfg := mkCfg [] tys [(15, S15), (16, S16)] []
def t3 (x : (Ty.pair I .unit).den) : Option (Bool × Unit) := (S15.f x).bind fun p => (S16.f x).bind fun q => cond (decide (q.1.1 ≠ p.1.1)) (some (false, ())) (cond (q.1.2.1 != p.1.2.1) (some (false, ())) (some (true, ())))
theorem run3 (x : S3.a.den) : runF A3 0 Try.f3 S3 x = t3 x := by kernel_rfl
theorem g3_t3 (x : (Ty.pair I .unit).den) : t3 x = S3.f x := by
  show t3 x = (g3 x).map fun b => (b, ())
  unfold t3 g3
  cases S15.f x with
  | none => rfl
  | some p =>
    cases S16.f x with
    | none => rfl
    | some q =>
      simp only [Option.bind_some]
      cases decide (q.1.1 ≠ p.1.1) <;> cases (q.1.2.1 != p.1.2.1) <;> rfl
theorem good3 : Gx.Good Try.prog 3 S3 := good_of_run Try.func3 (of_decide_eq_true (by kernel_rfl)) fun x r h => ⟨A3, 0, mkCfg_ok tysOk, mkCfg_sig (by
  intro p hp
  simp only [List.mem_cons, List.not_mem_nil, or_false] at hp
  rcases hp with rfl | rfl
  · exact ⟨fn15, good15⟩
  · exact ⟨fn16, good16⟩), (run3 x).trans ((g3_t3 x).trans h)⟩

theorem true3 (k : Int) : g3 (k, ()) = some true := by
  by_cases h0 : k < 0
  · have h1 : ¬ (0 ≤ k) := by omega
    simp [g3, S15, S46, S16, h0, h1]
  · by_cases h5 : 5 < k
    · have h1 : ¬ (k ≤ 5) := by omega
      have h2 : 0 ≤ k := by omega
      simp [g3, S15, S46, S16, h0, h1, h2, h5]
    · have hk : k = 0 ∨ k = 1 ∨ k = 2 ∨ k = 3 ∨ k = 4 ∨ k = 5 := by omega
      rcases hk with rfl | rfl | rfl | rfl | rfl | rfl
      · exact (by kernel_rfl : g3 ((0 : Int), ()) = some true)
      · exact (by kernel_rfl : g3 ((1 : Int), ()) = some true)
      · exact (by kernel_rfl : g3 ((2 : Int), ()) = some true)
      · exact (by kernel_rfl : g3 ((3 : Int), ()) = some true)
      · exact (by kernel_rfl : g3 ((4 : Int), ()) = some true)
      · exact (by kernel_rfl : g3 ((5 : Int), ()) = some true)

theorem own_ : ownKnob Try.prog.godebug = none := by kernel_rfl
theorem laidOut_ : laidOutB Try.prog = true := by kernel_rfl

open Go.ChangeShapes Go.WideShapes Go.ChangeAt Go.RowKit

theorem freeBooleanSize_lifted (os : Os) (started : os.Started) (H : Type) (enc : TypeId × Value → H) :
    ReturnsInHanded {} Try.checked os 3 .any (Rows.fnExactFreeBooleanSizeSpec.pre6 enc Try.prog Try.f3 Rows.fnExactFreeBooleanSizeRow.domain false) (Rows.fnExactFreeBooleanSizeSpec.post enc Try.prog Try.f3 false true false false) := by
  refine returnsInHanded_of_change (C := Try.checked) own_ started (by kernel_rfl) Try.func3
    (ChangeSpec.witness6 (enc := enc) (C := Try.checked) false ⟨#[], #[.int .i64 0], []⟩ 8 (by kernel_rfl) (by kernel_rfl) (by kernel_rfl) (by kernel_rfl)) ?_
  intro W base args ds gs before hval0 hW hcnd _
  exact law_ok (P := Try.prog) (fn := Try.f3) (n := 8) (ty := .pair I .unit) (Tb := 4) g3 laidOut_ (by kernel_rfl) (by kernel_rfl) good3 (fun x _ => true3 x.1) rfl (by kernel_rfl) rfl (fun ds hds => match ds, hds with | [d], _ => ⟨rfl, rfl, rfl⟩) hval0 hW

theorem freeBooleanSize_holds : Rows.FnExactFreeBooleanSizeSaid :=
  OpenClaim.holds_of_wide 3 Try.f3 rfl rfl rfl rfl rfl rfl rfl ⟨rfl, rfl, rfl, rfl, rfl⟩ rfl rfl rfl rfl rfl (by kernel_rfl) Try.func3 (by kernel_rfl)
    (of_decide_eq_true (by kernel_rfl)) (by unfold Func.isWrapper; first | (rw [if_pos (by decide +kernel)]; kernel_rfl) | (rw [if_neg (by decide +kernel)]; exact ⟨rfl, rfl⟩))
    (fun os started H enc _ => freeBooleanSize_lifted os started H enc)
end Go.Proofs.Ytpomjejencfiiaa
