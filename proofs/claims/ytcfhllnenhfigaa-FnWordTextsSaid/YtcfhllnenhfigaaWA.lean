import Derived.Test.YtcfhllnenhfigaaGAp1
import Derived.Shelf.Lay
import Derived.Shelf.Strings.Builder1
import Derived.WalkKit
import Derived.WalkSpells
import Derived.BigCall
import Derived.Test.YtcfhllnenhfigaaPTab
set_option linter.unusedVariables false
set_option maxRecDepth 100000
namespace Go.Proofs.Ytcfhllnenhfigaa
open Go Go.Gx Go.Proofs Go.RowKit Go.Shelf

def WB.wbRen : Ren where
  f := fun | 167 => 49 | 169 => 42 | 240 => 51 | 276 => 52 | n => n
  t := fun | 3 => 3 | 4 => 4 | 5 => 5 | 9 => 9 | 20 => 20 | 37 => 22 | 70 => 65 | 72 => 67 | 75 => 80 | 80 => 69 | 127 => 82 | 164 => 85 | n => n
  g := fun n => n
theorem WB.lays167 : Lays.n167 Try.prog WB.wbRen where
  mixed := by kernel_rfl
  f167 := by kernel_rfl
  f240 := by kernel_rfl
  f276 := by kernel_rfl
  t0 := Try.underlying0
  a0 := Try.isAgg0
  z0 := Try.sizeOf0
  v0 := Try.zeroValue0
  t4 := Try.underlying4
  a4 := Try.isAgg4
  z4 := Try.sizeOf4
  v4 := Try.zeroValue4
  t5 := Try.underlying5
  a5 := Try.isAgg5
  z5 := Try.sizeOf5
  v5 := Try.zeroValue5
  t9 := Try.underlying9
  a9 := Try.isAgg9
  z9 := Try.sizeOf9
  v9 := Try.zeroValue9
  t20 := Try.underlying20
  a20 := Try.isAgg20
  z20 := Try.sizeOf20
  v20 := Try.zeroValue20
  t37 := Try.underlying22
  a37 := Try.isAgg22
  z37 := Try.sizeOf22
  v37 := Try.zeroValue22
  t70 := Try.underlying65
  a70 := Try.isAgg65
  z70 := Try.sizeOf65
  v70 := Try.zeroValue65
  t72 := Try.underlying67
  a72 := Try.isAgg67
  z72 := Try.sizeOf67
  v72 := Try.zeroValue67
  t75 := Try.underlying80
  a75 := Try.isAgg80
  z75 := Try.sizeOf80
  v75 := Try.zeroValue80
  t164 := Try.underlying85
  a164 := Try.isAgg85
  z164 := Try.sizeOf85
  v164 := Try.zeroValue85
theorem WB.lays169 : Lays.n169 Try.prog WB.wbRen where
  mixed := by kernel_rfl
  f169 := by kernel_rfl
  t0 := Try.underlying0
  a0 := Try.isAgg0
  z0 := Try.sizeOf0
  v0 := Try.zeroValue0
  t3 := Try.underlying3
  a3 := Try.isAgg3
  z3 := Try.sizeOf3
  v3 := Try.zeroValue3
  t9 := Try.underlying9
  a9 := Try.isAgg9
  z9 := Try.sizeOf9
  v9 := Try.zeroValue9
  t37 := Try.underlying22
  a37 := Try.isAgg22
  z37 := Try.sizeOf22
  v37 := Try.zeroValue22
  t70 := Try.underlying65
  a70 := Try.isAgg65
  z70 := Try.sizeOf65
  v70 := Try.zeroValue65
  t72 := Try.underlying67
  a72 := Try.isAgg67
  z72 := Try.sizeOf67
  v72 := Try.zeroValue67
  t127 := Try.underlying82
  a127 := Try.isAgg82
  z127 := Try.sizeOf82
  v127 := Try.zeroValue82
theorem WB.Builder_Extra_167 : Builder.Extra Try.prog WB.wbRen where
  sizeBuilder := by kernel_rfl
  liesBuilder := by kernel_rfl
  t5 := Try.underlying5
  a5 := Try.isAgg5
  z5 := Try.sizeOf5
  v5 := Try.zeroValue5
  infoByte := by kernel_rfl
  cellsByte := by kernel_rfl
  sizeByte := by kernel_rfl
  neB5 := by decide
theorem WB.Builder_Extra_169 : Builder.Extra Try.prog WB.wbRen where
  sizeBuilder := by kernel_rfl
  liesBuilder := by kernel_rfl
  t5 := Try.underlying5
  a5 := Try.isAgg5
  z5 := Try.sizeOf5
  v5 := Try.zeroValue5
  infoByte := by kernel_rfl
  cellsByte := by kernel_rfl
  sizeByte := by kernel_rfl
  neB5 := by decide
open Go.RowKit in
theorem WB.Builder_WriteByte (B b : Nat) (bs : List Value) (c : Int) (w : World) (h : Lib.IsBuilder 67 5 B b bs w) (hlen : bs.length + 1 ≤ 140737488355328) (hBw : B ≤ w.heap.size) :
    Calls Try.prog 49 #[.pointer (some ⟨b, 0, none⟩), .int .u8 c] w fun e w' => e = .returned .nilIface ∧ (Lib.BuilderAt 67 5 B b (.pointer (some ⟨b, 0, none⟩)) (bs ++ [.int .u8 c]) w' ∧ Below B w w') := Any.Builder_WriteByte WB.lays167 WB.Builder_Extra_167 B b bs c w h hlen hBw
open Go.RowKit in
theorem WB.Builder_String_any (B b : Nat) (l : List UInt8) (w : World) (h : Lib.IsBuilder 67 5 B b (Lib.byteCells l) w) (hBw : B ≤ w.heap.size) :
    Calls Try.prog 42 #[.pointer (some ⟨b, 0, none⟩)] w fun e w' => e = .returned (.string ⟨l.toArray⟩) ∧ Below B w w' := Any.Builder_String_any WB.lays169 WB.Builder_Extra_169 B b l w h hBw

inductive Wd where
  | v (n : Int)
  | op (g : Int) (a b : Wd)

def Wd.fl : Wd → List Int
  | .v n => [n]
  | .op g a b => g :: (a.fl ++ b.fl)

def Wd.ok : Wd → Prop
  | .v n => 0 ≤ n ∧ n < 5
  | .op g a b => (g = -1 ∨ g = -2) ∧ a.ok ∧ b.ok

def Wd.tx : Wd → List UInt8
  | .v n => [UInt8.ofNat (97 + n.toNat)]
  | .op g a b => 40 :: (a.tx ++ (if g = -2 then 124 else 38) :: (b.tx ++ [41]))

theorem Wd.pos : ∀ A : Wd, 0 < A.fl.length
  | .v n => by simp [Wd.fl]
  | .op g a b => by simp [Wd.fl]

set_option maxHeartbeats 2000000 in
set_option maxRecDepth 100000 in
theorem WB.parts_walk (r o len cap e : Nat) (W : World) (h1 : 1 ≤ e) (h2 : e < len) (h3 : len ≤ cap) 
    (hEnd : Calls Try.prog 40 #[.slice (some ⟨r, o, none⟩) len cap, .int .i64 1] W fun x w' => x = .returned (.int .i64 e) ∧ Below W.heap.size W w') :
    Calls Try.prog 45 #[.slice (some ⟨r, o, none⟩) len cap] W fun x w' => x = .returned (.tuple #[.slice (some ⟨r, o + 1, none⟩) (e - 1) (cap - 1), .slice (some ⟨r, o + e, none⟩) (len - e) (cap - e)]) ∧ Below W.heap.size W w' := by
  go_enter Try.func45, Try.ntmps45
  go_wp2_with (go_at_call 40; refine hEnd.mono ?_)
  rintro x w1 ⟨rfl, hb⟩
  go_wp2
  have mixed := WB.lays167.mixed
  have a1 : e ≤ cap := by omega
  have a2 : (1 : Int) ≤ (e : Int) := by omega
  have a3 : ¬ cap = 1 := by omega
  have a4 : (e : Int) ≤ (len : Int) := by omega
  have a5 : ¬ cap = e := by omega
  have a6 : e ≤ len := by omega
  have a7 : len ≤ cap := h3
  have a8 : (len : Int) ≤ (cap : Int) := by omega
  go_region_o
  all_goals (go_wp2; go_ret2; exact ⟨rfl, Below.drew hb⟩)

def Cells (W : World) (r o : Nat) (xs : List Int) : Prop := ∀ j x, xs[j]? = some x → W.cell? ⟨r, o + j, none⟩ = some (.int .i64 x)
theorem Cells.below {W W' : World} {r o B : Nat} {xs : List Int} (h : Cells W r o xs) (hb : Below B W W') (hr : r < B) : Cells W' r o xs := fun j x hx =>
  (World.cell?_of_block (a := ⟨r, o + j, none⟩) (hb.block r hr)).trans (h j x hx)

/-- the end of a word's first part -/
def EndSpec : Prop := ∀ (g : Int) (a b : Wd) (r o cap : Nat) (W : World), (Wd.op g a b).ok → r < W.heap.size → (Wd.op g a b).fl.length ≤ cap → (Wd.op g a b).fl.length ≤ 1000000 → cap ≤ maxLen → Cells W r o (Wd.op g a b).fl →
  Calls Try.prog 40 #[.slice (some ⟨r, o, none⟩) (Wd.op g a b).fl.length cap, .int .i64 1] W fun x w' => x = .returned (.int .i64 ((1 + a.fl.length : Nat) : Int)) ∧ Below W.heap.size W w'

theorem isB_below {B b : Nat} {bs : List Value} {W W' : World} (h : Lib.IsBuilder 67 5 B b bs W) (hb : Below W.heap.size W W') : Lib.IsBuilder 67 5 B b bs W' := by
  have key : ∀ p, Lib.BuilderAt 67 5 B b p bs W → Lib.BuilderAt 67 5 B b p bs W' := by
    rintro p h
    have hlt := h.lt
    obtain ⟨hB, v, h1, h2, h3⟩ := h
    refine ⟨hB, v, by rw [hb.block b hlt]; exact h1, ⟨h2.1, ?_⟩, h3⟩
    rcases h2.2 with h4 | ⟨g, cap, cur, e1, e2, e3, e4⟩
    · exact .inl h4
    · refine .inr ⟨g, cap, cur, e1, e2, ?_, e4⟩
      have hg : g < W.heap.size := by
        rcases Nat.lt_or_ge g W.heap.size with h' | h'
        · exact h'
        · simp [Array.getElem?_eq_none h'] at e3
      rw [hb.block g hg]
      exact e3
  rcases h with h | h
  · exact .inl (key _ h)
  · exact .inr (key _ h)

set_option maxHeartbeats 2000000 in
set_option maxRecDepth 100000 in
theorem WB.write_leaf (n : Int) (h0 : 0 ≤ n) (h5 : n < 5) (r o cap B b : Nat) (bs : List Value) (W : World) (hr : r < B) (hB : B ≤ W.heap.size) (hI : Lib.IsBuilder 67 5 B b bs W) (hc : W.cell? ⟨r, o, none⟩ = some (.int .i64 n)) (hl : bs.length + 1 ≤ 1000000) (hcap : 1 ≤ cap) :
    Calls Try.prog 41 #[.pointer (some ⟨b, 0, none⟩), .slice (some ⟨r, o, none⟩) 1 cap] W fun x w' => x = .returned (.tuple #[]) ∧ Lib.IsBuilder 67 5 B b (bs ++ [.int .u8 (97 + n)]) w' ∧ Below B W w' := by
  have w1 : IntKind.i64.wrap (97 + n) = 97 + n := Go.Gx.wr (by omega) (by omega)
  go_enter Try.func41, Try.ntmps41
  go_wp2_with (go_at_call 49; refine (WB.Builder_WriteByte B b bs (97 + n) W hI (by omega) hB).mono ?_)
  rintro e w1 ⟨rfl, h1, b1⟩
  go_wp2
  refine bodyPost_ret (results_none rfl _ _ _) rfl ?_
  exact ⟨rfl, .inr h1, b1⟩

theorem leaf_tx {n : Int} (h0 : 0 ≤ n) (h5 : n < 5) : Lib.byteCells (Wd.tx (.v n)) = [.int .u8 (97 + n)] := by
  have : n = 0 ∨ n = 1 ∨ n = 2 ∨ n = 3 ∨ n = 4 := by omega
  rcases this with rfl | rfl | rfl | rfl | rfl <;> rfl

def Writes (xs : List Int) (t : List UInt8) : Prop := ∀ (r o cap B b : Nat) (bs : List Value) (W : World), r < B → B ≤ W.heap.size → Lib.IsBuilder 67 5 B b bs W → xs.length ≤ cap → xs.length ≤ 1000000 → cap ≤ maxLen → Cells W r o xs → bs.length + t.length ≤ 1000000 →
    Calls Try.prog 41 #[.pointer (some ⟨b, 0, none⟩), .slice (some ⟨r, o, none⟩) xs.length cap] W fun x w' => x = .returned (.tuple #[]) ∧ Lib.IsBuilder 67 5 B b (bs ++ Lib.byteCells t) w' ∧ Below B W w'

set_option maxHeartbeats 1000000 in
set_option maxRecDepth 100000 in
theorem WB.write_meet (xs ys : List Int) (tx ty : List UInt8) (L : Nat) (hL : 1 + xs.length + ys.length ≤ L ∧ L ≤ 1 + xs.length + ys.length) (px : 0 < xs.length) (py : 0 < ys.length) (ihx : Writes xs tx) (ihy : Writes ys ty) (r o cap B b : Nat) (bs : List Value) (W : World) (hr : r < B) (hB : B ≤ W.heap.size) (hI : Lib.IsBuilder 67 5 B b bs W) (hc : L ≤ cap) (hcap : L ≤ 1000000) (hmx : cap ≤ maxLen)
    (c0 : W.cell? ⟨r, o, none⟩ = some (.int .i64 (-1))) (cx : Cells W r (o + 1) xs) (cy : Cells W r (o + (1 + xs.length)) ys) (hl : bs.length + (3 + tx.length + ty.length) ≤ 1000000)
    (hP : Calls Try.prog 45 #[.slice (some ⟨r, o, none⟩) L cap] W fun x w' => x = .returned (.tuple #[.slice (some ⟨r, o + 1, none⟩) xs.length (cap - 1), .slice (some ⟨r, o + (1 + xs.length), none⟩) ys.length (cap - (1 + xs.length))]) ∧ Below W.heap.size W w') :
    Calls Try.prog 41 #[.pointer (some ⟨b, 0, none⟩), .slice (some ⟨r, o, none⟩) L cap] W fun x w' => x = .returned (.tuple #[]) ∧ Lib.IsBuilder 67 5 B b (List.append (List.append (List.append (List.append (List.append bs [Value.int .u8 40]) (Lib.byteCells tx)) [Value.int .u8 38]) (Lib.byteCells ty)) [Value.int .u8 41]) w' ∧ Below B W w' := by
  have hL0 : (0 : Int) < (L : Int) := by omega
  have hL1 : 0 < L := by omega
  have hl40 : bs.length + 1 ≤ 140737488355328 := by omega
  go_enter Try.func41, Try.ntmps41
  go_wp2_with (go_at_call 45; refine hP.mono ?_)
  rintro e w1 ⟨rfl, b1⟩
  have I1 := isB_below hI b1
  have B1 := b1.mono hB
  have z1 := B1.size
  go_wp2_with (go_at_call 49; refine (WB.Builder_WriteByte B b bs 40 w1 I1 hl40 (by omega)).mono ?_)
  rintro e w2 ⟨rfl, h2, b2⟩
  have I2 : Lib.IsBuilder 67 5 B b (bs ++ [Value.int .u8 40]) w2 := .inr h2
  have B2 := B1.trans b2
  have z2 := B2.size
  go_wp2_with (go_at_call 41; refine (ihx r (o + 1) (cap - 1) B b _ w2 hr (by omega) I2 (by omega) (by omega) (by omega) (cx.below B2 hr) (by simp; omega)).mono ?_)
  rintro e w3 ⟨rfl, I3, b3⟩
  have B3 := B2.trans b3
  have z3 := B3.size
  have c3 : w3.cell? ⟨r, o, none⟩ = some (.int .i64 (-1)) := (B3.cell (p := ⟨r, o, none⟩) hr).trans c0
  go_wp2_with (go_at_call 49; refine (WB.Builder_WriteByte B b _ 38 w3 I3 (by simp [Lib.byteCells_length]; omega) (by omega)).mono ?_)
  rintro e w4 ⟨rfl, h4, b4⟩
  have I4 : Lib.IsBuilder 67 5 B b _ w4 := .inr h4
  have B4 := B3.trans b4
  have z4 := B4.size
  go_wp2_with (go_at_call 41; refine (ihy r (o + (1 + xs.length)) (cap - (1 + xs.length)) B b _ w4 hr (by omega) I4 (by omega) (by omega) (by omega) (cy.below B4 hr) (by simp [Lib.byteCells_length]; omega)).mono ?_)
  rintro e w5 ⟨rfl, I5, b5⟩
  have B5 := B4.trans b5
  have z5 := B5.size
  go_wp2_with (go_at_call 49; refine (WB.Builder_WriteByte B b _ 41 w5 I5 (by simp [Lib.byteCells_length]; omega) (by omega)).mono ?_)
  rintro e w6 ⟨rfl, h6, b6⟩
  have B6 := B5.trans b6
  go_wp2
  go_end0
  exact ⟨rfl, .inr h6, B6⟩
set_option maxHeartbeats 1000000 in
set_option maxRecDepth 100000 in
theorem WB.write_join (xs ys : List Int) (tx ty : List UInt8) (L : Nat) (hL : 1 + xs.length + ys.length ≤ L ∧ L ≤ 1 + xs.length + ys.length) (px : 0 < xs.length) (py : 0 < ys.length) (ihx : Writes xs tx) (ihy : Writes ys ty) (r o cap B b : Nat) (bs : List Value) (W : World) (hr : r < B) (hB : B ≤ W.heap.size) (hI : Lib.IsBuilder 67 5 B b bs W) (hc : L ≤ cap) (hcap : L ≤ 1000000) (hmx : cap ≤ maxLen)
    (c0 : W.cell? ⟨r, o, none⟩ = some (.int .i64 (-2))) (cx : Cells W r (o + 1) xs) (cy : Cells W r (o + (1 + xs.length)) ys) (hl : bs.length + (3 + tx.length + ty.length) ≤ 1000000)
    (hP : Calls Try.prog 45 #[.slice (some ⟨r, o, none⟩) L cap] W fun x w' => x = .returned (.tuple #[.slice (some ⟨r, o + 1, none⟩) xs.length (cap - 1), .slice (some ⟨r, o + (1 + xs.length), none⟩) ys.length (cap - (1 + xs.length))]) ∧ Below W.heap.size W w') :
    Calls Try.prog 41 #[.pointer (some ⟨b, 0, none⟩), .slice (some ⟨r, o, none⟩) L cap] W fun x w' => x = .returned (.tuple #[]) ∧ Lib.IsBuilder 67 5 B b (List.append (List.append (List.append (List.append (List.append bs [Value.int .u8 40]) (Lib.byteCells tx)) [Value.int .u8 124]) (Lib.byteCells ty)) [Value.int .u8 41]) w' ∧ Below B W w' := by
  have hL0 : (0 : Int) < (L : Int) := by omega
  have hL1 : 0 < L := by omega
  have hl40 : bs.length + 1 ≤ 140737488355328 := by omega
  go_enter Try.func41, Try.ntmps41
  go_wp2_with (go_at_call 45; refine hP.mono ?_)
  rintro e w1 ⟨rfl, b1⟩
  have I1 := isB_below hI b1
  have B1 := b1.mono hB
  have z1 := B1.size
  go_wp2_with (go_at_call 49; refine (WB.Builder_WriteByte B b bs 40 w1 I1 hl40 (by omega)).mono ?_)
  rintro e w2 ⟨rfl, h2, b2⟩
  have I2 : Lib.IsBuilder 67 5 B b (bs ++ [Value.int .u8 40]) w2 := .inr h2
  have B2 := B1.trans b2
  have z2 := B2.size
  go_wp2_with (go_at_call 41; refine (ihx r (o + 1) (cap - 1) B b _ w2 hr (by omega) I2 (by omega) (by omega) (by omega) (cx.below B2 hr) (by simp; omega)).mono ?_)
  rintro e w3 ⟨rfl, I3, b3⟩
  have B3 := B2.trans b3
  have z3 := B3.size
  have c3 : w3.cell? ⟨r, o, none⟩ = some (.int .i64 (-2)) := (B3.cell (p := ⟨r, o, none⟩) hr).trans c0
  go_wp2_with (go_at_call 49; refine (WB.Builder_WriteByte B b _ 124 w3 I3 (by simp [Lib.byteCells_length]; omega) (by omega)).mono ?_)
  rintro e w4 ⟨rfl, h4, b4⟩
  have I4 : Lib.IsBuilder 67 5 B b _ w4 := .inr h4
  have B4 := B3.trans b4
  have z4 := B4.size
  go_wp2_with (go_at_call 41; refine (ihy r (o + (1 + xs.length)) (cap - (1 + xs.length)) B b _ w4 hr (by omega) I4 (by omega) (by omega) (by omega) (cy.below B4 hr) (by simp [Lib.byteCells_length]; omega)).mono ?_)
  rintro e w5 ⟨rfl, I5, b5⟩
  have B5 := B4.trans b5
  have z5 := B5.size
  go_wp2_with (go_at_call 49; refine (WB.Builder_WriteByte B b _ 41 w5 I5 (by simp [Lib.byteCells_length]; omega) (by omega)).mono ?_)
  rintro e w6 ⟨rfl, h6, b6⟩
  have B6 := B5.trans b6
  go_wp2
  go_end0
  exact ⟨rfl, .inr h6, B6⟩

theorem WB.write_walk (hEnd : EndSpec) : ∀ (A : Wd), A.ok → Writes A.fl A.tx
  | .v n, h => by
    intro r o cap B b bs W hr hB hI hc hcap hmx hcell hl
    rw [leaf_tx h.1 h.2]
    exact WB.write_leaf n h.1 h.2 r o cap B b bs W hr hB hI (hcell 0 n rfl) (by simpa [Wd.tx] using hl) (by simpa [Wd.fl] using hc)
  | .op g x y, h => by
    intro r o cap B b bs W hr hB hI hc hcap hmx hcell hl
    have ihx := WB.write_walk hEnd x h.2.1
    have ihy := WB.write_walk hEnd y h.2.2
    have px := x.pos
    have py := y.pos
    have hlen : (Wd.op g x y).fl.length = 1 + x.fl.length + y.fl.length := by simp [Wd.fl]; omega
    have htx : (Wd.op g x y).tx.length = 3 + x.tx.length + y.tx.length := by simp [Wd.tx]; omega
    have hP := WB.parts_walk r o (Wd.op g x y).fl.length cap (1 + x.fl.length) W (by omega) (by omega) hc (hEnd g x y r o cap W h (by omega) hc hcap hmx hcell)
    have e1 : 1 + x.fl.length - 1 = x.fl.length := by omega
    have e2 : (Wd.op g x y).fl.length - (1 + x.fl.length) = y.fl.length := by omega
    rw [e1, e2] at hP
    have c0 : W.cell? ⟨r, o, none⟩ = some (.int .i64 g) := hcell 0 g rfl
    have cx : Cells W r (o + 1) x.fl := fun j v hj => by
      have := hcell (1 + j) v (by
        have hjl : j < x.fl.length := (List.getElem?_eq_some_iff.1 hj).1
        simp only [Wd.fl, show 1 + j = j + 1 by omega, List.getElem?_cons_succ]
        rw [List.getElem?_append_left hjl]
        exact hj)
      rwa [show o + (1 + j) = o + 1 + j by omega] at this
    have cy : Cells W r (o + (1 + x.fl.length)) y.fl := fun j v hj => by
      have := hcell (1 + x.fl.length + j) v (by
        simp only [Wd.fl, show 1 + x.fl.length + j = (x.fl.length + j) + 1 by omega, List.getElem?_cons_succ]
        rw [List.getElem?_append_right (by omega), show x.fl.length + j - x.fl.length = j by omega]
        exact hj)
      rwa [show o + (1 + x.fl.length + j) = o + (1 + x.fl.length) + j by omega] at this
    rcases h.1 with rfl | rfl
    · refine (WB.write_meet x.fl y.fl x.tx y.tx _ (by omega) px py ihx ihy r o cap B b bs W hr hB hI hc hcap hmx c0 cx cy (by omega) hP).mono ?_
      rintro e w ⟨h1, h2, h3⟩
      refine ⟨h1, ?_, h3⟩
      have : List.append (List.append (List.append (List.append (List.append bs [Value.int .u8 40]) (Lib.byteCells x.tx)) [Value.int .u8 38]) (Lib.byteCells y.tx)) [Value.int .u8 41] = bs ++ Lib.byteCells (Wd.op (-1) x y).tx := by
        simp [Wd.tx, Lib.byteCells]
      rw [← this]
      exact h2
    · refine (WB.write_join x.fl y.fl x.tx y.tx _ (by omega) px py ihx ihy r o cap B b bs W hr hB hI hc hcap hmx c0 cx cy (by omega) hP).mono ?_
      rintro e w ⟨h1, h2, h3⟩
      refine ⟨h1, ?_, h3⟩
      have : List.append (List.append (List.append (List.append (List.append bs [Value.int .u8 40]) (Lib.byteCells x.tx)) [Value.int .u8 124]) (Lib.byteCells y.tx)) [Value.int .u8 41] = bs ++ Lib.byteCells (Wd.op (-2) x y).tx := by
        simp [Wd.tx, Lib.byteCells]
      rw [← this]
      exact h2

set_option maxHeartbeats 1000000 in
set_option maxRecDepth 100000 in
theorem WB.text_walk (hEnd : EndSpec) (A : Wd) (h : A.ok) (r o cap : Nat) (W : World) (hr : r < W.heap.size) (hc : A.fl.length ≤ cap) (hcap : A.fl.length ≤ 1000000) (hmx : cap ≤ maxLen) (hcell : Cells W r o A.fl) (hl : A.tx.length ≤ 1000000) :
    Calls Try.prog 21 #[.slice (some ⟨r, o, none⟩) A.fl.length cap] W fun x w' => x = .returned (.string ⟨A.tx.toArray⟩) ∧ Below W.heap.size W w' := by
  have I0 := Lib.fresh_isBuilder 67 5 W
  have b0 : Below W.heap.size W (W.alloc (.cells #[.pointer none, .slice none 0 0] 67)) := (Below.refl _ W).alloc (Nat.le_refl _) _
  have z0 := b0.size
  have hw := WB.write_walk hEnd A h r o cap W.heap.size W.heap.size [] _ hr z0 I0 hc hcap hmx (hcell.below b0 hr) (by simpa using hl)
  go_enter Try.func21, Try.ntmps21
  go_wp2_with (go_at_call 41; refine hw.mono ?_)
  rintro e w1 ⟨rfl, I1, b1⟩
  have B1 := b0.trans b1
  have z1 := B1.size
  go_wp2_with (go_at_call 42; refine (WB.Builder_String_any W.heap.size W.heap.size A.tx w1 I1 z1).mono ?_)
  rintro e w2 ⟨rfl, b2⟩
  have B2 := B1.trans b2
  go_wp2
  go_ret
  exact ⟨rfl, B2⟩

def EndPure : Prop := ∀ (g : Int) (a b : Wd), (Wd.op g a b).ok → (Wd.op g a b).fl.length ≤ 1000000 → impl_wordEnd big (Wd.op g a b).fl 1 = some (((1 + a.fl.length : Nat) : Int), ())

/-- the text of a word -/
noncomputable def impl_wordText (w : List Int) : Option (List UInt8 × Unit) := by
  classical exact if h : (∃ A : Wd, A.ok ∧ A.fl.length ≤ 40 ∧ A.fl = w) ∧ EndPure then some ((Classical.choose h.1).tx, ()) else none

noncomputable def S_impl_wordText : Gx.Sig := { a := (.pair (.sl I) .unit), md := [0], mf := [], m := .unit, r := .str, rf := .i, f := fun x => impl_wordText x.1 }

theorem wbRow {W : World} {r o : Nat} {xs : List Int} (h : Cells W r o xs) (h0 : xs ≠ []) : ∃ arr e fr, W.heap[r]? = some (.cells arr e fr) ∧ ∀ j x, xs[j]? = some x → arr[o + j]? = some (.int .i64 x) := by
  cases hx : W.heap[r]? with
  | none =>
    cases xs with
    | nil => exact absurd rfl h0
    | cons x xs =>
      have := h 0 x rfl
      simp [World.cell?, hx] at this
  | some ob =>
    cases ob with
    | cells arr e fr => exact ⟨arr, e, fr, rfl, fun j x hj => by have := h j x hj; simpa [World.cell?, hx] using this⟩
    | _ =>
      cases xs with
      | nil => exact absurd rfl h0
      | cons x xs =>
        have := h 0 x rfl
        simp [World.cell?, hx] at this

theorem wbRepL : ∀ {xs : List Int} {cs : List Value}, (∀ (j : Nat) (x : Int), xs[j]? = some x → cs[j]? = some (Value.int .i64 x)) → Gx.RepL (fun (x : Int) (ds : List Value) (G : List Nat) => ds = [Value.int .i64 x] ∧ G = []) 1 xs cs []
  | [], cs, h => rfl
  | x :: xs, cs, h => by
    cases cs with
    | nil => have := h 0 x rfl; simp at this
    | cons c cs =>
      have hc := h 0 x rfl
      simp only [List.getElem?_cons_zero, Option.some.injEq] at hc
      subst hc
      exact ⟨[], [], rfl, by simp, ⟨rfl, rfl⟩, wbRepL fun j y hj => by have := h (j + 1) y (by simpa using hj); simpa using this⟩

theorem wbRep {w : World} {N : Nat → Prop} {r o cap : Nat} {xs : List Int} (h : Cells w r o xs) (hc : xs.length ≤ cap) (hm : cap ≤ maxLen) (hN : N r) : Gx.RepS w N (.sl I) .i xs (.slice (some ⟨r, o, none⟩) xs.length cap) [] := by
  refine ⟨[.slice (some ⟨r, o, none⟩) xs.length cap], rfl, ?_⟩
  simp only [Gx.Rep]
  refine ⟨trivial, _, cap, rfl, hc, hm, fun h0 => ?_⟩
  obtain ⟨arr, e, fr, h1, h2⟩ := wbRow h h0
  exact ⟨r, o, arr, e, fr, rfl, hN, h1, wbRepL fun j x hj => by have := h2 j x hj; simpa using this⟩

theorem wbEnd (hp : EndPure) : EndSpec := by
  intro g a b r o cap W hok hr hcap hlen hm hcell
  have hg := good_impl_wordEnd ((Wd.op g a b).fl, ((1 : Int), ())) ((((1 + a.fl.length : Nat) : Int)), ()) (hp g a b hok hlen) W (fun k => k < W.heap.size) #[.slice (some ⟨r, o, none⟩) (Wd.op g a b).fl.length cap, .int .i64 1] []
    ⟨wbRep hcell hcap hm hr, ⟨[.int .i64 1], rfl, rfl, rfl⟩, rfl⟩ List.nodup_nil (by simp) (fun _ h => h)
  refine hg.mono ?_
  rintro e w' he
  cases e with
  | returned v =>
    obtain ⟨F, M', q1, q2, q3, q4, q5, q6, q7, q8, q9, q10, q11⟩ := he
    rcases q2 with ⟨cs, h1, h2⟩ | ⟨u, _, _, e1, _⟩
    · have h3 : cs = [v] := h1
      have h4 : cs = [.int .i64 ((1 + a.fl.length : Nat) : Int)] := h2.1
      rw [h3] at h4
      simp only [List.cons.injEq, and_true] at h4
      exact ⟨by rw [h4], ⟨q8, q9, q10, q7, fun k hk => q6 k hk (by simp)⟩⟩
    · cases e1
  | _ => exact he.elim

theorem wbCells {w : World} {N : Nat → Prop} {xs : List Int} {v : Value} (h : Gx.RepS w N (.sl I) .i xs v []) (h0 : xs ≠ []) : ∃ r o cap, v = .slice (some ⟨r, o, none⟩) xs.length cap ∧ xs.length ≤ cap ∧ cap ≤ maxLen ∧ N r ∧ Cells w r o xs := by
  obtain ⟨cs, h1, h2⟩ := h
  have h3 : cs = [v] := h1
  subst h3
  simp only [Gx.Rep] at h2
  obtain ⟨_, ad, cap, e1, hc, hm, hr⟩ := h2
  obtain ⟨r, o, arr, e, fr, rfl, hN, hh, hL⟩ := hr h0
  simp only [List.cons.injEq, and_true] at e1
  refine ⟨r, o, cap, e1, hc, hm, hN, fun j x hj => ?_⟩
  have hjl := (List.getElem?_eq_some_iff.1 hj).1
  have := Gx.repL_ints hL j hjl
  rw [List.getElem?_drop, List.getD_eq_getElem?_getD, hj] at this
  simpa [World.cell?, hh] using this

theorem wbTx : ∀ A : Wd, A.tx.length ≤ 4 * A.fl.length
  | .v n => by simp [Wd.tx, Wd.fl]
  | .op g a b => by
    have h1 := wbTx a
    have h2 := wbTx b
    simp only [Wd.tx, Wd.fl, List.length_cons, List.length_append, List.length_nil]
    omega

theorem fn_impl_wordText : FnOk Try.prog 21 := ⟨_, Try.func21, by kernel_rfl, by kernel_rfl⟩
theorem good_impl_wordText : Gx.Good Try.prog 21 S_impl_wordText := by
  intro x y hx w N args M hargs hnd hM hN
  have hx : impl_wordText x.1 = some y := hx
  unfold impl_wordText at hx
  split at hx
  case isFalse => cases hx
  rename_i hA
  have hx := Option.some.inj hx
  have hc := Classical.choose_spec hA.1
  generalize Classical.choose hA.1 = A at hx hc
  obtain ⟨hok, hl, hfl⟩ := hc
  subst hx
  obtain ⟨xs, u⟩ := x
  have hfl : A.fl = xs := hfl
  subst hfl
  obtain ⟨al⟩ := args
  match al, hargs with
  | [v], ⟨h1, h2⟩ =>
    have h2 : M = [] := h2
    subst h2
    have p := A.pos
    obtain ⟨r, o, cap, rfl, hcap, hm, hNr, hcell⟩ := wbCells h1 (fun e => by have e : A.fl = [] := e; rw [e] at p; simp at p)
    have ht := wbTx A
    refine (WB.text_walk (wbEnd hA.2) A hok r o cap w (hN r hNr) hcap (by omega) hm hcell (by omega)).mono ?_
    rintro e w' ⟨rfl, hb⟩
    exact ⟨[], [], by simp, .inl ⟨[.string ⟨A.tx.toArray⟩], rfl, rfl, rfl⟩, rfl, by simp, by simp, fun k hk _ => hb.block k hk, hb.size, hb.os, hb.tape, hb.output, trivial⟩
end Go.Proofs.Ytcfhllnenhfigaa
