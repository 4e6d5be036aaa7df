import Derived.Test.YteanfidobhpchaaGPNp2
set_option maxRecDepth 100000
set_option linter.unusedVariables false
namespace Go.Proofs.Yteanfidobhpchaa
open Go Go.Gx Go.Proofs
def vjt (rec : Y2 → Y4 → Int → Z7) (k : Z7) (p2 : Y2) (low5 : Y4) (i9 : Int) : Z7 :=
  cond (decide (i9 < (low5.length : Int)))
  ((atI low5 i9).bind fun _ =>
  (low5[i9.toNat]?).bind fun xq4 =>
  (atI p2.1 xq4).bind fun xq5 =>
  (zz41 big low5 xq5).bind fun rq6 =>
  cond rq6.1
  ((atI low5 i9).bind fun _ =>
  (low5[i9.toNat]?).bind fun xq7 =>
  some (xq7, (())))
  (rec p2 low5 (IntKind.i64.wrap (i9 + (1 : Int)))))
  (k)
def vju : Z7 :=
  some ((-1 : Int), (()))
def vne (rec : Y4 → Y2 → Y4 → Int → Bool → Int → Z7) (k : Y4 → Y2 → Y4 → Int → Bool → Z7) (some1 : Y4) (p2 : Y2) (low5 : Y4) (z6 : Int) (all7 : Bool) (i8 : Int) : Z7 :=
  cond (decide (i8 < (some1.length : Int)))
  (cond all7
  ((atI some1 i8).bind fun xq1 =>
  (zz15 p2 z6 xq1).bind fun rq2 =>
  rec some1 p2 low5 z6 rq2.1 (IntKind.i64.wrap (i8 + (1 : Int))))
  (rec some1 p2 low5 z6 false (IntKind.i64.wrap (i8 + (1 : Int)))))
  (k some1 p2 low5 z6 all7)
def vng (rec : Y4 → Y2 → Y4 → Int → Z7) (some1 : Y4) (p2 : Y2) (low5 : Y4) (z6 : Int) (all7 : Bool) : Z7 :=
  cond all7
  ((appI low5 [z6]).bind fun xq3 =>
  rec some1 p2 xq3 (IntKind.i64.wrap (z6 + (1 : Int))))
  (rec some1 p2 low5 (IntKind.i64.wrap (z6 + (1 : Int))))
def vow (L7 : Y4 → Y2 → Y4 → Int → Bool → Int → Z7) (k : Y2 → Y4 → Z7) (some1 : Y4) (p2 : Y2) (low5 : Y4) (z6 : Int) : Z7 :=
  cond (decide (z6 < (p2.1.length : Int)))
  (L7 some1 p2 low5 z6 true (0 : Int))
  (k p2 low5)
def vfi (L13 : Y2 → Y4 → Int → Z7) (p2 : Y2) (low5 : Y4) : Z7 :=
  L13 p2 low5 (0 : Int)
def vaxh (L3 : Y4 → Y2 → Y4 → Int → Z7) (p_0 : Y2) (some_1 : Y4) : Z7 :=
  L3 some_1 p_0 [] (0 : Int)
def vzw (N : Nat) (k : Y4 → Y2 → Y4 → Int → Bool → Z7) : Nat → Y4 → Y2 → Y4 → Int → Bool → Int → Z7
  | 0, _, _, _, _, _, _ => none
  | m + 1, some1, p2, low5, z6, all7, i8 => vne (vzw N k m) k some1 p2 low5 z6 all7 i8
def vru (N : Nat) (rec : Y4 → Y2 → Y4 → Int → Z7) (k : Y2 → Y4 → Z7) (some1 : Y4) (p2 : Y2) (low5 : Y4) (z6 : Int) (all7 : Bool) (i8 : Int) : Z7 := vzw N (vng rec) N some1 p2 low5 z6 all7 i8
def vafd (N : Nat) (k : Y2 → Y4 → Z7) : Nat → Y4 → Y2 → Y4 → Int → Z7
  | 0, _, _, _, _ => none
  | m + 1, some1, p2, low5, z6 => vow (vru N (vafd N k m) k) k some1 p2 low5 z6
def vut (N : Nat) (k : Z7) : Nat → Y2 → Y4 → Int → Z7
  | 0, _, _, _ => none
  | m + 1, p2, low5, i9 => vjt (vut N k m) k p2 low5 i9
def vco (N : Nat) (p2 : Y2) (low5 : Y4) (i9 : Int) : Z7 := vut N (vju) N p2 low5 i9
def vapf (N : Nat) (some1 : Y4) (p2 : Y2) (low5 : Y4) (z6 : Int) : Z7 := vafd N (vfi (vco N)) N some1 p2 low5 z6
def zz44 (N : Nat) (p_0 : Y2) (some_1 : Y4) : Z7 := vaxh (vapf N) p_0 some_1
def S_zz44 : Sig := { a := (.pair Q0 Q12), md := [0, 0], mf := [], m := .unit, r := I, rf := .i, f := fun x => zz44 big x.1 x.2.1 }
def A_zz44 : Cfg := mkCfg tab [(66, S_zz15), (115, S_zz41)] [(6, [.drop, .as Q7 .i, .as Q4 P5, .drop, .drop, .as Q7 P5, .as I .i]), (14, [.drop, .as Q7 .i, .as Q4 P5, .drop, .drop, .as Q7 P5, .as I .i, .as .bool .i, .as I .i]), (25, [.drop, .drop, .as Q4 P5, .drop, .drop, .as Q7 P5]), (26, [.drop, .drop, .as Q4 P5, .drop, .drop, .as Q7 P5, .drop, .drop, .drop, .as I .i]), (21, [.drop, .as Q7 .i, .as Q4 P5, .drop, .drop, .as Q7 P5, .as I .i, .as .bool .i]), (35, [])]
noncomputable def vhb (N n : Nat) (K : Ex → St → Z7) (some1 : Y4) (p2 : Y2) (low5 : Y4) (z6 : Int) : Z7 := iter ((A_zz44).shape 6) (run (A_zz44) N (codeAt Try.f86 [1, 1, 0, 1, 0, 0])) n ([.u, W4 some1, W2 p2, .u, .u, W3 low5, W0 z6] ++ List.replicate 52 .u) K
noncomputable def vlb (N n : Nat) (K : Ex → St → Z7) (some1 : Y4) (p2 : Y2) (low5 : Y4) (z6 : Int) (all7 : Bool) (i8 : Int) : Z7 := iter ((A_zz44).shape 14) (run (A_zz44) N (codeAt Try.f86 [1, 1, 0, 1, 0, 0, 1, 0, 0, 1, 0, 1, 0, 0])) n ([.u, W4 some1, W2 p2, .u, .u, W3 low5, W0 z6, .val .bool .i all7, W0 i8] ++ List.replicate 50 .u) K
noncomputable def vev (N n : Nat) (K : Ex → St → Z7) (p2 : Y2) (low5 : Y4) (i9 : Int) : Z7 := iter ((A_zz44).shape 26) (run (A_zz44) N (codeAt Try.f86 [1, 1, 1, 0, 1, 0, 0])) n ([.u, .u, W2 p2, .u, .u, W3 low5, .u, .u, .u, W0 i9] ++ List.replicate 49 .u) K
noncomputable abbrev vpr : Ex → St → Z7 := finish (A_zz44) S_zz44 Try.f86.results.toList
noncomputable abbrev vael (kX : St → Z7) (p2 : Y2) (low5 : Y4) : Z7 := kX ([.u, .u, W2 p2, .u, .u, W3 low5] ++ List.replicate 53 .u)
noncomputable abbrev vkw (kX : St → Z7) (kO : Nat → St → Z7) : Ex → St → Z7 := exK vpr 0 ((A_zz44).shape 25) kX kO
noncomputable abbrev vapt (kX : St → Z7) (some1 : Y4) (p2 : Y2) (low5 : Y4) (z6 : Int) (all7 : Bool) : Z7 := kX ([.u, W4 some1, W2 p2, .u, .u, W3 low5, W0 z6, .val .bool .i all7] ++ List.replicate 51 .u)
noncomputable abbrev vack (kX : St → Z7) (kO : Nat → St → Z7) : Ex → St → Z7 := exK vpr 2 ((A_zz44).shape 21) kX kO
noncomputable abbrev vahn (kX : St → Z7) : Z7 := kX ([] ++ List.replicate 59 .u)
noncomputable abbrev vua (kX : St → Z7) (kO : Nat → St → Z7) : Ex → St → Z7 := exK vpr 4 ((A_zz44).shape 35) kX kO
theorem vajr (N kX kO) : ∀ n, vlb N n (vack kX kO) = vzw N (vapt kX) n
 | 0 => rfl
 | m + 1 => (show vlb N (m + 1) (vack kX kO) = vne (vlb N m (vack kX kO)) (vapt kX) by kernel_rfl).trans (by rw [vajr N kX kO m]; funext _ _ _ _ _ _; rfl)
noncomputable abbrev vaew (N m : Nat) (kX : St → Z7) (kO : Nat → St → Z7) : Ex → St → Z7 := (blockK 2 (sqK (A_zz44) N 21 500010 (codeAt Try.f86 [1, 1, 0, 1, 0, 0, 1, 0, 0, 1, 1]) (blockK 1 (sqK (A_zz44) N 9 500004 (codeAt Try.f86 [1, 1, 0, 1, 0, 0, 1, 1]) (itK (A_zz44) N 6 (codeAt Try.f86 [1, 1, 0, 1, 0, 0]) m (vkw kX kO))))))
noncomputable abbrev vbci (N m : Nat) (kX : St → Z7) (kO : Nat → St → Z7) (st' : St) : Z7 := run (A_zz44) N (codeAt Try.f86 [1, 1, 0, 1, 0, 0, 1, 0, 0, 1, 1]) st' (blockK 1 (sqK (A_zz44) N 9 500004 (codeAt Try.f86 [1, 1, 0, 1, 0, 0, 1, 1]) (itK (A_zz44) N 6 (codeAt Try.f86 [1, 1, 0, 1, 0, 0]) m (vkw kX kO))))
theorem vbnl (N m kX kO) {r} (h : vhb N m (vkw kX kO) = r) : vlb N N (vaew N m kX kO) = vru N r (vael kX) := by
 rw [show vlb N N (vaew N m kX kO) = vlb N N (vack (vbci N m kX kO) fun j => (vaew N m kX kO) (.exit j)) from (by funext _ _ _ _ _ _; exact vac (fun _ => by kernel_rfl) fun _ => by kernel_rfl), vajr, show vapt (vbci N m kX kO) = vng (vhb N m (vkw kX kO)) by kernel_rfl, h]; rfl
theorem vajx (N kX kO) : ∀ n, vhb N n (vkw kX kO) = vafd N (vael kX) n
 | 0 => rfl
 | m + 1 => (show vhb N (m + 1) (vkw kX kO) = vow (vlb N N (vaew N m kX kO)) (vael kX) by kernel_rfl).trans (by rw [vbnl N m kX kO (vajx N kX kO m)]; funext _ _ _ _; rfl)
noncomputable abbrev vzm (N : Nat) : Ex → St → Z7 := (blockK 0 (sqK (A_zz44) N 25 500012 (codeAt Try.f86 [1, 1, 1]) vpr))
theorem vagt (N kX kO) : ∀ n, vev N n (vua kX kO) = vut N (vahn kX) n
 | 0 => rfl
 | m + 1 => (show vev N (m + 1) (vua kX kO) = vjt (vev N m (vua kX kO)) (vahn kX) by kernel_rfl).trans (by rw [vagt N kX kO m]; funext _ _ _; rfl)
noncomputable abbrev vtg (N : Nat) : Ex → St → Z7 := (blockK 4 (sqK (A_zz44) N 35 500017 (codeAt Try.f86 [1, 1, 1, 1]) vpr))
noncomputable abbrev vayp (N : Nat) (st' : St) : Z7 := run (A_zz44) N (codeAt Try.f86 [1, 1, 1, 1]) st' vpr
theorem vbhw (N) : vev N N (vtg N) = vco N := by
 rw [show vev N N (vtg N) = vev N N (vua (vayp N) fun j => (vtg N) (.exit j)) from (by funext _ _ _; exact vac (fun _ => by kernel_rfl) fun _ => by kernel_rfl), vagt, show vahn (vayp N) = vju by kernel_rfl]; rfl
noncomputable abbrev vbdj (N : Nat) (st' : St) : Z7 := run (A_zz44) N (codeAt Try.f86 [1, 1, 1]) st' vpr
theorem vboj (N) : vhb N N (vzm N) = vapf N := by
 rw [show vhb N N (vzm N) = vhb N N (vkw (vbdj N) fun j => (vzm N) (.exit j)) from (by funext _ _ _ _; exact vac (fun _ => by kernel_rfl) fun _ => by kernel_rfl), vajx, show vael (vbdj N) = vfi (vev N N (vtg N)) by kernel_rfl, vbhw N]; rfl
theorem run0_zz44 (N : Nat) (x : (S_zz44).a.den) : runF (A_zz44) N Try.f86 S_zz44 x = (vaxh (vhb N N (vzm N)) x.1 x.2.1) := by kernel_rfl
theorem run_zz44 (N : Nat) (x : (S_zz44).a.den) : runF (A_zz44) N Try.f86 S_zz44 x = zz44 N x.1 x.2.1 := by
  refine (run0_zz44 N x).trans ?_
  rw [vboj N]
  rfl
theorem fn_zz44 : FnOk Try.prog 86 := ⟨_, Try.func86, by kernel_rfl, by kernel_rfl⟩
theorem good_zz44 : Gx.Good Try.prog 86 S_zz44 := vaa Try.func86 (of_decide_eq_true (by kernel_rfl)) fun x r h => ⟨A_zz44, big, vad tabOk, vab (show SigsOk Try.prog [(66, S_zz15), (115, S_zz41)] from ⟨⟨fn_zz15, good_zz15⟩, ⟨fn_zz41, good_zz41⟩, trivial⟩), (run_zz44 big x).trans h⟩
def vnu (rec : Y2 → Y2 → Int → Int → Z1) (k : Y2 → Y2 → Int → Z1) (p1 dual3 : Y2) (x4 y5 : Int) : Z1 :=
  cond (decide (y5 < x4))
  ((zz44 big p1 [x4, y5]).bind fun rq3 =>
  cond (decide (rq3.1 < (0 : Int)))
  (some (false, (())))
  ((zz44 big dual3 [x4, y5]).bind fun rq4 =>
  cond (decide (rq4.1 < (0 : Int)))
  (some (false, (())))
  (rec p1 dual3 x4 (IntKind.i64.wrap (y5 + (1 : Int))))))
  (k p1 dual3 x4)
def voe (rec : Y2 → Y2 → Int → Z1) (p1 dual3 : Y2) (x4 : Int) : Z1 :=
  rec p1 dual3 (IntKind.i64.wrap (x4 + (1 : Int)))
def vpg (L8 : Y2 → Y2 → Int → Int → Z1) (k : Z1) (p1 dual3 : Y2) (x4 : Int) : Z1 :=
  cond (decide (x4 < (p1.1.length : Int)))
  (L8 p1 dual3 x4 (0 : Int))
  (k)
def vfw : Z1 :=
  some (true, (()))
def vazx (L5 : Y2 → Y2 → Int → Z1) (p_0 : Y2) : Z1 :=
  (zz42 big p_0).bind fun rq1 =>
  cond (!rq1.1)
  (some (false, (())))
  (cond (decide ((p_0.1.length : Int) = (0 : Int)))
  (some (false, (())))
  ((zz43 big p_0).bind fun rq2 =>
  L5 p_0 rq2.1 (0 : Int)))
def vzx (N : Nat) (k : Y2 → Y2 → Int → Z1) : Nat → Y2 → Y2 → Int → Int → Z1
  | 0, _, _, _, _ => none
  | m + 1, p1, dual3, x4, y5 => vnu (vzx N k m) k p1 dual3 x4 y5
def vrh (N : Nat) (rec : Y2 → Y2 → Int → Z1) (k : Z1) (p1 dual3 : Y2) (x4 y5 : Int) : Z1 := vzx N (voe rec) N p1 dual3 x4 y5
def vaeo (N : Nat) (k : Z1) : Nat → Y2 → Y2 → Int → Z1
  | 0, _, _, _ => none
  | m + 1, p1, dual3, x4 => vpg (vrh N (vaeo N k m) k) k p1 dual3 x4
def vaqf (N : Nat) (p1 dual3 : Y2) (x4 : Int) : Z1 := vaeo N (vfw) N p1 dual3 x4
def zz45 (N : Nat) (p_0 : Y2) : Z1 := vazx (vaqf N) p_0
def S_zz45 : Sig := { a := Q11, md := [0], mf := [], m := .unit, r := .bool, rf := .i, f := fun x => zz45 big x.1 }
def A_zz45 : Cfg := mkCfg tab [(85, S_zz42), (78, S_zz43), (86, S_zz44)] [(10, [.drop, .as Q4 P5, .drop, .as Q4 P1, .as I .i]), (16, [.drop, .as Q4 P5, .drop, .as Q4 P1, .as I .i, .as I .i]), (25, []), (13, [.drop, .as Q4 P5, .drop, .as Q4 P1, .as I .i])]
noncomputable def vgk (N n : Nat) (K : Ex → St → Z1) (p1 dual3 : Y2) (x4 : Int) : Z1 := iter ((A_zz45).shape 10) (run (A_zz45) N (codeAt Try.f45 [1, 1, 1, 0, 1, 0, 0])) n ([.u, W2 p1, .u, W1 dual3, W0 x4] ++ List.replicate 38 .u) K
noncomputable def vjg (N n : Nat) (K : Ex → St → Z1) (p1 dual3 : Y2) (x4 y5 : Int) : Z1 := iter ((A_zz45).shape 16) (run (A_zz45) N (codeAt Try.f45 [1, 1, 1, 0, 1, 0, 0, 1, 0, 0, 1, 0, 0])) n ([.u, W2 p1, .u, W1 dual3, W0 x4, W0 y5] ++ List.replicate 37 .u) K
noncomputable abbrev vamg : Ex → St → Z1 := finish (A_zz45) S_zz45 Try.f45.results.toList
noncomputable abbrev vaeg (kX : St → Z1) : Z1 := kX ([] ++ List.replicate 43 .u)
noncomputable abbrev vkg (kX : St → Z1) (kO : Nat → St → Z1) : Ex → St → Z1 := exK vamg 0 ((A_zz45).shape 25) kX kO
noncomputable abbrev vaou (kX : St → Z1) (p1 dual3 : Y2) (x4 : Int) : Z1 := kX ([.u, W2 p1, .u, W1 dual3, W0 x4] ++ List.replicate 38 .u)
noncomputable abbrev vxk (kX : St → Z1) (kO : Nat → St → Z1) : Ex → St → Z1 := exK vamg 2 ((A_zz45).shape 13) kX kO
theorem vait (N kX kO) : ∀ n, vjg N n (vxk kX kO) = vzx N (vaou kX) n
 | 0 => rfl
 | m + 1 => (show vjg N (m + 1) (vxk kX kO) = vnu (vjg N m (vxk kX kO)) (vaou kX) by kernel_rfl).trans (by rw [vait N kX kO m]; funext _ _ _ _; rfl)
noncomputable abbrev vxw (N m : Nat) (kX : St → Z1) (kO : Nat → St → Z1) : Ex → St → Z1 := (blockK 2 (blockK 1 (sqK (A_zz45) N 13 500006 (codeAt Try.f45 [1, 1, 1, 0, 1, 0, 0, 1, 1]) (itK (A_zz45) N 10 (codeAt Try.f45 [1, 1, 1, 0, 1, 0, 0]) m (vkg kX kO)))))
noncomputable abbrev vbdm (N m : Nat) (kX : St → Z1) (kO : Nat → St → Z1) (st' : St) : Z1 := run (A_zz45) N (codeAt Try.f45 [1, 1, 1, 0, 1, 0, 0, 1, 1]) st' (itK (A_zz45) N 10 (codeAt Try.f45 [1, 1, 1, 0, 1, 0, 0]) m (vkg kX kO))
theorem vbnx (N m kX kO) {r} (h : vgk N m (vkg kX kO) = r) : vjg N N (vxw N m kX kO) = vrh N r (vaeg kX) := by
 rw [show vjg N N (vxw N m kX kO) = vjg N N (vxk (vbdm N m kX kO) fun j => (vxw N m kX kO) (.exit j)) from (by funext _ _ _ _; exact vac (fun _ => by kernel_rfl) fun _ => by kernel_rfl), vait, show vaou (vbdm N m kX kO) = voe (vgk N m (vkg kX kO)) by kernel_rfl, h]; rfl
theorem vaje (N kX kO) : ∀ n, vgk N n (vkg kX kO) = vaeo N (vaeg kX) n
 | 0 => rfl
 | m + 1 => (show vgk N (m + 1) (vkg kX kO) = vpg (vjg N N (vxw N m kX kO)) (vaeg kX) by kernel_rfl).trans (by rw [vbnx N m kX kO (vaje N kX kO m)]; funext _ _ _; rfl)
noncomputable abbrev vyx (N : Nat) : Ex → St → Z1 := (blockK 0 (sqK (A_zz45) N 25 500012 (codeAt Try.f45 [1, 1, 1, 1]) vamg))
noncomputable abbrev vbfb (N : Nat) (st' : St) : Z1 := run (A_zz45) N (codeAt Try.f45 [1, 1, 1, 1]) st' vamg
theorem vbma (N) : vgk N N (vyx N) = vaqf N := by
 rw [show vgk N N (vyx N) = vgk N N (vkg (vbfb N) fun j => (vyx N) (.exit j)) from (by funext _ _ _; exact vac (fun _ => by kernel_rfl) fun _ => by kernel_rfl), vaje, show vaeg (vbfb N) = vfw by kernel_rfl]; rfl
theorem run0_zz45 (N : Nat) (x : (S_zz45).a.den) : runF (A_zz45) N Try.f45 S_zz45 x = (vazx (vgk N N (vyx N)) x.1) := by kernel_rfl
theorem run_zz45 (N : Nat) (x : (S_zz45).a.den) : runF (A_zz45) N Try.f45 S_zz45 x = zz45 N x.1 := by
  refine (run0_zz45 N x).trans ?_
  rw [vbma N]
  rfl
theorem fn_zz45 : FnOk Try.prog 45 := ⟨_, Try.func45, by kernel_rfl, by kernel_rfl⟩
theorem good_zz45 : Gx.Good Try.prog 45 S_zz45 := vaa Try.func45 (of_decide_eq_true (by kernel_rfl)) fun x r h => ⟨A_zz45, big, vad tabOk, vab (show SigsOk Try.prog [(85, S_zz42), (78, S_zz43), (86, S_zz44)] from ⟨⟨fn_zz42, good_zz42⟩, ⟨fn_zz43, good_zz43⟩, ⟨fn_zz44, good_zz44⟩, trivial⟩), (run_zz45 big x).trans h⟩
def vbic (p_0 : Y2) (x_1 y_2 : Int) : Z7 :=
  (zz44 big p_0 [x_1, y_2]).bind fun rq1 =>
  some (rq1.1, (()))
def zz46 (p_0 : Y2) (x_1 y_2 : Int) : Z7 := vbic p_0 x_1 y_2
def S_zz46 : Sig := { a := (.pair Q0 Q8), md := [0, 0, 0], mf := [], m := .unit, r := I, rf := .i, f := fun x => zz46 x.1 x.2.1 x.2.2.1 }
def A_zz46 : Cfg := mkCfg tab [(86, S_zz44)] []
theorem run_zz46 (N : Nat) (x : (S_zz46).a.den) : runF (A_zz46) N Try.f46 S_zz46 x = zz46 x.1 x.2.1 x.2.2.1 := by kernel_rfl
theorem fn_zz46 : FnOk Try.prog 46 := ⟨_, Try.func46, by kernel_rfl, by kernel_rfl⟩
theorem good_zz46 : Gx.Good Try.prog 46 S_zz46 := vaa Try.func46 (of_decide_eq_true (by kernel_rfl)) fun x r h => ⟨A_zz46, big, vad tabOk, vab (show SigsOk Try.prog [(86, S_zz44)] from ⟨⟨fn_zz44, good_zz44⟩, trivial⟩), (run_zz46 big x).trans h⟩
def vbhi (p_0 : Y2) (x_1 y_2 : Int) : Z7 :=
  (zz43 big p_0).bind fun rq1 =>
  (zz44 big rq1.1 [x_1, y_2]).bind fun rq2 =>
  some (rq2.1, (()))
def zz47 (p_0 : Y2) (x_1 y_2 : Int) : Z7 := vbhi p_0 x_1 y_2
def S_zz47 : Sig := { a := (.pair Q0 Q8), md := [0, 0, 0], mf := [], m := .unit, r := I, rf := .i, f := fun x => zz47 x.1 x.2.1 x.2.2.1 }
def A_zz47 : Cfg := mkCfg tab [(78, S_zz43), (86, S_zz44)] []
theorem run_zz47 (N : Nat) (x : (S_zz47).a.den) : runF (A_zz47) N Try.f47 S_zz47 x = zz47 x.1 x.2.1 x.2.2.1 := by kernel_rfl
theorem fn_zz47 : FnOk Try.prog 47 := ⟨_, Try.func47, by kernel_rfl, by kernel_rfl⟩
theorem good_zz47 : Gx.Good Try.prog 47 S_zz47 := vaa Try.func47 (of_decide_eq_true (by kernel_rfl)) fun x r h => ⟨A_zz47, big, vad tabOk, vab (show SigsOk Try.prog [(78, S_zz43), (86, S_zz44)] from ⟨⟨fn_zz43, good_zz43⟩, ⟨fn_zz44, good_zz44⟩, trivial⟩), (run_zz47 big x).trans h⟩
def vmh (rec : Y4 → Int → Z1) (k : Z1) (list0 : Y4) (i3 : Int) : Z1 :=
  cond (decide (i3 < (list0.length : Int)))
  ((slI list0 0 i3).bind fun xq1 =>
  (atI list0 i3).bind fun xq2 =>
  (zz14 big xq1 xq2).bind fun rq3 =>
  cond rq3.1
  (some (false, (())))
  (rec list0 (IntKind.i64.wrap (i3 + (1 : Int)))))
  (k)
def vnh : Z1 :=
  some (true, (()))
def vatc (L2 : Y4 → Int → Z1) (list_0 : Y4) : Z1 :=
  L2 list_0 (0 : Int)
def vacn (N : Nat) (k : Z1) : Nat → Y4 → Int → Z1
  | 0, _, _ => none
  | m + 1, list0, i3 => vmh (vacn N k m) k list0 i3
def vapl (N : Nat) (list0 : Y4) (i3 : Int) : Z1 := vacn N (vnh) N list0 i3
def zz48 (N : Nat) (list_0 : Y4) : Z1 := vatc (vapl N) list_0
def S_zz48 : Sig := { a := Q12, md := [0], mf := [], m := .unit, r := .bool, rf := .i, f := fun x => zz48 big x.1 }
def A_zz48 : Cfg := mkCfg tab [(87, S_zz14)] [(4, [.as Q7 .i, .drop, .drop, .as I .i]), (13, [])]
noncomputable def vig (N n : Nat) (K : Ex → St → Z1) (list0 : Y4) (i3 : Int) : Z1 := iter ((A_zz48).shape 4) (run (A_zz48) N (codeAt Try.f49 [1, 0, 1, 0, 0])) n ([W4 list0, .u, .u, W0 i3] ++ List.replicate 14 .u) K
noncomputable abbrev vatw : Ex → St → Z1 := finish (A_zz48) S_zz48 Try.f49.results.toList
noncomputable abbrev vaps (kX : St → Z1) : Z1 := kX ([] ++ List.replicate 18 .u)
noncomputable abbrev vacy (kX : St → Z1) (kO : Nat → St → Z1) : Ex → St → Z1 := exK vatw 0 ((A_zz48).shape 13) kX kO
theorem vajj (N kX kO) : ∀ n, vig N n (vacy kX kO) = vacn N (vaps kX) n
 | 0 => rfl
 | m + 1 => (show vig N (m + 1) (vacy kX kO) = vmh (vig N m (vacy kX kO)) (vaps kX) by kernel_rfl).trans (by rw [vajj N kX kO m]; funext _ _; rfl)
noncomputable abbrev vafa (N : Nat) : Ex → St → Z1 := (blockK 0 (sqK (A_zz48) N 13 500006 (codeAt Try.f49 [1, 1]) vatw))
noncomputable abbrev vbcw (N : Nat) (st' : St) : Z1 := run (A_zz48) N (codeAt Try.f49 [1, 1]) st' vatw
theorem vbnj (N) : vig N N (vafa N) = vapl N := by
 rw [show vig N N (vafa N) = vig N N (vacy (vbcw N) fun j => (vafa N) (.exit j)) from (by funext _ _; exact vac (fun _ => by kernel_rfl) fun _ => by kernel_rfl), vajj, show vaps (vbcw N) = vnh by kernel_rfl]; rfl
theorem run0_zz48 (N : Nat) (x : (S_zz48).a.den) : runF (A_zz48) N Try.f49 S_zz48 x = (vatc (vig N N (vafa N)) x.1) := by kernel_rfl
theorem run_zz48 (N : Nat) (x : (S_zz48).a.den) : runF (A_zz48) N Try.f49 S_zz48 x = zz48 N x.1 := by
  refine (run0_zz48 N x).trans ?_
  rw [vbnj N]
  rfl
theorem fn_zz48 : FnOk Try.prog 49 := ⟨_, Try.func49, by kernel_rfl, by kernel_rfl⟩
theorem good_zz48 : Gx.Good Try.prog 49 S_zz48 := vaa Try.func49 (of_decide_eq_true (by kernel_rfl)) fun x r h => ⟨A_zz48, big, vad tabOk, vab (show SigsOk Try.prog [(87, S_zz14)] from ⟨⟨fn_zz14, good_zz14⟩, trivial⟩), (run_zz48 big x).trans h⟩
def vom (rec : Y4 → Y4 → Int → Z1) (k : Z1) (a0 b1 : Y4) (i5 : Int) : Z1 :=
  cond (decide (i5 < (a0.length : Int)))
  ((atI a0 i5).bind fun xq1 =>
  (atI b1 i5).bind fun xq2 =>
  cond (decide (xq1 ≠ xq2))
  ((atI a0 i5).bind fun xq3 =>
  (atI b1 i5).bind fun xq4 =>
  some (decide (xq3 < xq4), (())))
  (rec a0 b1 (IntKind.i64.wrap (i5 + (1 : Int)))))
  (k)
def vou : Z1 :=
  some (false, (()))
def vath (L2 : Y4 → Y4 → Int → Z1) (a_0 b_1 : Y4) : Z1 :=
  L2 a_0 b_1 (0 : Int)
def vafc (N : Nat) (k : Z1) : Nat → Y4 → Y4 → Int → Z1
  | 0, _, _, _ => none
  | m + 1, a0, b1, i5 => vom (vafc N k m) k a0 b1 i5
def vaoh (N : Nat) (a0 b1 : Y4) (i5 : Int) : Z1 := vafc N (vou) N a0 b1 i5
def zz49 (N : Nat) (a_0 b_1 : Y4) : Z1 := vath (vaoh N) a_0 b_1
def S_zz49 : Sig := { a := (.pair Q7 Q12), md := [0, 0], mf := [], m := .unit, r := .bool, rf := .i, f := fun x => zz49 big x.1 x.2.1 }
def A_zz49 : Cfg := mkCfg tab [] [(4, [.as Q7 .i, .as Q7 .i, .drop, .drop, .drop, .as I .i]), (13, [])]
noncomputable def vjx (N n : Nat) (K : Ex → St → Z1) (a0 b1 : Y4) (i5 : Int) : Z1 := iter ((A_zz49).shape 4) (run (A_zz49) N (codeAt Try.f50 [1, 0, 1, 0, 0])) n ([W4 a0, W4 b1, .u, .u, .u, W0 i5] ++ List.replicate 24 .u) K
noncomputable abbrev vavb : Ex → St → Z1 := finish (A_zz49) S_zz49 Try.f50.results.toList
noncomputable abbrev vano (kX : St → Z1) : Z1 := kX ([] ++ List.replicate 30 .u)
noncomputable abbrev vadc (kX : St → Z1) (kO : Nat → St → Z1) : Ex → St → Z1 := exK vavb 0 ((A_zz49).shape 13) kX kO
theorem vaik (N kX kO) : ∀ n, vjx N n (vadc kX kO) = vafc N (vano kX) n
 | 0 => rfl
 | m + 1 => (show vjx N (m + 1) (vadc kX kO) = vom (vjx N m (vadc kX kO)) (vano kX) by kernel_rfl).trans (by rw [vaik N kX kO m]; funext _ _ _; rfl)
noncomputable abbrev vaap (N : Nat) : Ex → St → Z1 := (blockK 0 (sqK (A_zz49) N 13 500006 (codeAt Try.f50 [1, 1]) vavb))
noncomputable abbrev vbea (N : Nat) (st' : St) : Z1 := run (A_zz49) N (codeAt Try.f50 [1, 1]) st' vavb
theorem vbnf (N) : vjx N N (vaap N) = vaoh N := by
 rw [show vjx N N (vaap N) = vjx N N (vadc (vbea N) fun j => (vaap N) (.exit j)) from (by funext _ _ _; exact vac (fun _ => by kernel_rfl) fun _ => by kernel_rfl), vaik, show vano (vbea N) = vou by kernel_rfl]; rfl
theorem run0_zz49 (N : Nat) (x : (S_zz49).a.den) : runF (A_zz49) N Try.f50 S_zz49 x = (vath (vjx N N (vaap N)) x.1 x.2.1) := by kernel_rfl
theorem run_zz49 (N : Nat) (x : (S_zz49).a.den) : runF (A_zz49) N Try.f50 S_zz49 x = zz49 N x.1 x.2.1 := by
  refine (run0_zz49 N x).trans ?_
  rw [vbnf N]
  rfl
theorem fn_zz49 : FnOk Try.prog 50 := ⟨_, Try.func50, by kernel_rfl, by kernel_rfl⟩
theorem good_zz49 : Gx.Good Try.prog 50 S_zz49 := vaa Try.func50 (of_decide_eq_true (by kernel_rfl)) fun x r h => ⟨A_zz49, big, vad tabOk, vab (show SigsOk Try.prog [] from trivial), (run_zz49 big x).trans h⟩
def vcj (rec : Y2 → Int → Y4 → Int → Int → Int → Z0) (k : Y2 → Int → Y4 → Int → Int → Z0) (p1 : Y2) (n4 : Int) (best5 : Y4) (a6 b7 c8 : Int) : Z0 :=
  cond (decide (c8 < n4))
  ((zz46 p1 a6 c8).bind fun rq2 =>
  (zz47 p1 a6 c8).bind fun rq3 =>
  (zz16 p1 a6 b7).bind fun rq4 =>
  cond (!rq4.1)
  (rec p1 n4 best5 a6 b7 (IntKind.i64.wrap (c8 + (1 : Int))))
  ((zz46 p1 b7 c8).bind fun rq5 =>
  cond (decide (rq5.1 ≠ rq2.1))
  (rec p1 n4 best5 a6 b7 (IntKind.i64.wrap (c8 + (1 : Int))))
  ((zz47 p1 b7 c8).bind fun rq6 =>
  cond (decide (rq6.1 ≠ rq3.1))
  (rec p1 n4 best5 a6 b7 (IntKind.i64.wrap (c8 + (1 : Int))))
  ((zz48 big [rq2.1, a6, b7, c8, rq3.1]).bind fun rq7 =>
  cond rq7.1
  (cond (decide ((best5.length : Int) = (0 : Int)))
  (rec p1 n4 [rq2.1, a6, b7, c8, rq3.1] a6 b7 (IntKind.i64.wrap (c8 + (1 : Int))))
  ((zz49 big [rq2.1, a6, b7, c8, rq3.1] best5).bind fun rq8 =>
  cond rq8.1
  (rec p1 n4 [rq2.1, a6, b7, c8, rq3.1] a6 b7 (IntKind.i64.wrap (c8 + (1 : Int))))
  (rec p1 n4 best5 a6 b7 (IntKind.i64.wrap (c8 + (1 : Int))))))
  (rec p1 n4 best5 a6 b7 (IntKind.i64.wrap (c8 + (1 : Int))))))))
  (k p1 n4 best5 a6 b7)
def vet (rec : Y2 → Int → Y4 → Int → Int → Z0) (p1 : Y2) (n4 : Int) (best5 : Y4) (a6 b7 : Int) : Z0 :=
  rec p1 n4 best5 a6 (IntKind.i64.wrap (b7 + (1 : Int)))
def vfv (L12 : Y2 → Int → Y4 → Int → Int → Int → Z0) (k : Y2 → Int → Y4 → Int → Z0) (p1 : Y2) (n4 : Int) (best5 : Y4) (a6 b7 : Int) : Z0 :=
  cond (decide (b7 < n4))
  (L12 p1 n4 best5 a6 b7 (0 : Int))
  (k p1 n4 best5 a6)
def vdj (rec : Y2 → Int → Y4 → Int → Z0) (p1 : Y2) (n4 : Int) (best5 : Y4) (a6 : Int) : Z0 :=
  rec p1 n4 best5 (IntKind.i64.wrap (a6 + (1 : Int)))
def vfs (L9 : Y2 → Int → Y4 → Int → Int → Z0) (k : Y4 → Z0) (p1 : Y2) (n4 : Int) (best5 : Y4) (a6 : Int) : Z0 :=
  cond (decide (a6 < n4))
  (L9 p1 n4 best5 a6 (0 : Int))
  (k best5)
def vdm (best5 : Y4) : Z0 :=
  some ((best5, decide ((0 : Int) < (best5.length : Int)), ()), (()))
def valu (L6 : Y2 → Int → Y4 → Int → Z0) (p_0 : Y2) : Z0 :=
  (zz45 big p_0).bind fun rq1 =>
  cond (!rq1.1)
  (some (([], false, ()), (())))
  (L6 p_0 (p_0.1.length : Int) [] (0 : Int))
def vtm (N : Nat) (k : Y2 → Int → Y4 → Int → Int → Z0) : Nat → Y2 → Int → Y4 → Int → Int → Int → Z0
  | 0, _, _, _, _, _, _ => none
  | m + 1, p1, n4, best5, a6, b7, c8 => vcj (vtm N k m) k p1 n4 best5 a6 b7 c8
def vpt (N : Nat) (rec : Y2 → Int → Y4 → Int → Int → Z0) (k : Y2 → Int → Y4 → Int → Z0) (p1 : Y2) (n4 : Int) (best5 : Y4) (a6 b7 c8 : Int) : Z0 := vtm N (vet rec) N p1 n4 best5 a6 b7 c8
def vxh (N : Nat) (k : Y2 → Int → Y4 → Int → Z0) : Nat → Y2 → Int → Y4 → Int → Int → Z0
  | 0, _, _, _, _, _ => none
  | m + 1, p1, n4, best5, a6, b7 => vfv (vpt N (vxh N k m) k) k p1 n4 best5 a6 b7
def vsx (N : Nat) (rec : Y2 → Int → Y4 → Int → Z0) (k : Y4 → Z0) (p1 : Y2) (n4 : Int) (best5 : Y4) (a6 b7 : Int) : Z0 := vxh N (vdj rec) N p1 n4 best5 a6 b7
def vyn (N : Nat) (k : Y4 → Z0) : Nat → Y2 → Int → Y4 → Int → Z0
  | 0, _, _, _, _ => none
  | m + 1, p1, n4, best5, a6 => vfs (vsx N (vyn N k m) k) k p1 n4 best5 a6
def vank (N : Nat) (p1 : Y2) (n4 : Int) (best5 : Y4) (a6 : Int) : Z0 := vyn N (vdm) N p1 n4 best5 a6
def zz50 (N : Nat) (p_0 : Y2) : Z0 := valu (vank N) p_0
def S_zz50 : Sig := { a := Q11, md := [0], mf := [], m := .unit, r := Q9, rf := (.p P5 .i), f := fun x => zz50 big x.1 }
def A_zz50 : Cfg := mkCfg tab [(45, S_zz45), (46, S_zz46), (47, S_zz47), (48, S_zz16), (49, S_zz48), (50, S_zz49)] [(12, [.drop, .as Q4 P5, .drop, .drop, .as I .i, .as Q7 P5, .as I .i]), (18, [.drop, .as Q4 P5, .drop, .drop, .as I .i, .as Q7 P5, .as I .i, .as I .i]), (39, [.drop, .drop, .drop, .drop, .drop, .as Q7 P5]), (24, [.drop, .as Q4 P5, .drop, .drop, .as I .i, .as Q7 P5, .as I .i, .as I .i, .as I .i]), (15, [.drop, .as Q4 P5, .drop, .drop, .as I .i, .as Q7 P5, .as I .i]), (21, [.drop, .as Q4 P5, .drop, .drop, .as I .i, .as Q7 P5, .as I .i, .as I .i])]
noncomputable def vgu (N n : Nat) (K : Ex → St → Z0) (p1 : Y2) (n4 : Int) (best5 : Y4) (a6 : Int) : Z0 := iter ((A_zz50).shape 12) (run (A_zz50) N (codeAt Try.f8 [1, 1, 1, 1, 0, 1, 0, 0])) n ([.u, W2 p1, .u, .u, W0 n4, W3 best5, W0 a6] ++ List.replicate 80 .u) K
noncomputable def vfd (N n : Nat) (K : Ex → St → Z0) (p1 : Y2) (n4 : Int) (best5 : Y4) (a6 b7 : Int) : Z0 := iter ((A_zz50).shape 18) (run (A_zz50) N (codeAt Try.f8 [1, 1, 1, 1, 0, 1, 0, 0, 1, 0, 0, 1, 0, 0])) n ([.u, W2 p1, .u, .u, W0 n4, W3 best5, W0 a6, W0 b7] ++ List.replicate 79 .u) K
noncomputable def vei (N n : Nat) (K : Ex → St → Z0) (p1 : Y2) (n4 : Int) (best5 : Y4) (a6 b7 c8 : Int) : Z0 := iter ((A_zz50).shape 24) (run (A_zz50) N (codeAt Try.f8 [1, 1, 1, 1, 0, 1, 0, 0, 1, 0, 0, 1, 0, 0, 1, 0, 0, 1, 0, 0])) n ([.u, W2 p1, .u, .u, W0 n4, W3 best5, W0 a6, W0 b7, W0 c8] ++ List.replicate 78 .u) K
noncomputable abbrev vxb : Ex → St → Z0 := finish (A_zz50) S_zz50 Try.f8.results.toList
noncomputable abbrev vxo (kX : St → Z0) (best5 : Y4) : Z0 := kX ([.u, .u, .u, .u, .u, W3 best5] ++ List.replicate 81 .u)
noncomputable abbrev vis (kX : St → Z0) (kO : Nat → St → Z0) : Ex → St → Z0 := exK vxb 0 ((A_zz50).shape 39) kX kO
noncomputable abbrev vzo (kX : St → Z0) (p1 : Y2) (n4 : Int) (best5 : Y4) (a6 : Int) : Z0 := kX ([.u, W2 p1, .u, .u, W0 n4, W3 best5, W0 a6] ++ List.replicate 80 .u)
noncomputable abbrev viq (kX : St → Z0) (kO : Nat → St → Z0) : Ex → St → Z0 := exK vxb 2 ((A_zz50).shape 15) kX kO
noncomputable abbrev vahd (kX : St → Z0) (p1 : Y2) (n4 : Int) (best5 : Y4) (a6 b7 : Int) : Z0 := kX ([.u, W2 p1, .u, .u, W0 n4, W3 best5, W0 a6, W0 b7] ++ List.replicate 79 .u)
noncomputable abbrev vvi (kX : St → Z0) (kO : Nat → St → Z0) : Ex → St → Z0 := exK vxb 4 ((A_zz50).shape 21) kX kO
theorem vafo (N kX kO) : ∀ n, vei N n (vvi kX kO) = vtm N (vahd kX) n
 | 0 => rfl
 | m + 1 => (show vei N (m + 1) (vvi kX kO) = vcj (vei N m (vvi kX kO)) (vahd kX) by kernel_rfl).trans (by rw [vafo N kX kO m]; funext _ _ _ _ _ _; rfl)
noncomputable abbrev vtp (N m : Nat) (kX : St → Z0) (kO : Nat → St → Z0) : Ex → St → Z0 := (blockK 4 (blockK 3 (sqK (A_zz50) N 21 500010 (codeAt Try.f8 [1, 1, 1, 1, 0, 1, 0, 0, 1, 0, 0, 1, 0, 0, 1, 1]) (itK (A_zz50) N 18 (codeAt Try.f8 [1, 1, 1, 1, 0, 1, 0, 0, 1, 0, 0, 1, 0, 0]) m (viq kX kO)))))
noncomputable abbrev vatt (N m : Nat) (kX : St → Z0) (kO : Nat → St → Z0) (st' : St) : Z0 := run (A_zz50) N (codeAt Try.f8 [1, 1, 1, 1, 0, 1, 0, 0, 1, 0, 0, 1, 0, 0, 1, 1]) st' (itK (A_zz50) N 18 (codeAt Try.f8 [1, 1, 1, 1, 0, 1, 0, 0, 1, 0, 0, 1, 0, 0]) m (viq kX kO))
theorem vbkl (N m kX kO) {r} (h : vfd N m (viq kX kO) = r) : vei N N (vtp N m kX kO) = vpt N r (vzo kX) := by
 rw [show vei N N (vtp N m kX kO) = vei N N (vvi (vatt N m kX kO) fun j => (vtp N m kX kO) (.exit j)) from (by funext _ _ _ _ _ _; exact vac (fun _ => by kernel_rfl) fun _ => by kernel_rfl), vafo, show vahd (vatt N m kX kO) = vet (vfd N m (viq kX kO)) by kernel_rfl, h]; rfl
theorem vajl (N kX kO) : ∀ n, vfd N n (viq kX kO) = vxh N (vzo kX) n
 | 0 => rfl
 | m + 1 => (show vfd N (m + 1) (viq kX kO) = vfv (vei N N (vtp N m kX kO)) (vzo kX) by kernel_rfl).trans (by rw [vbkl N m kX kO (vajl N kX kO m)]; funext _ _ _ _ _; rfl)
noncomputable abbrev vaam (N m : Nat) (kX : St → Z0) (kO : Nat → St → Z0) : Ex → St → Z0 := (blockK 2 (blockK 1 (sqK (A_zz50) N 15 500007 (codeAt Try.f8 [1, 1, 1, 1, 0, 1, 0, 0, 1, 1]) (itK (A_zz50) N 12 (codeAt Try.f8 [1, 1, 1, 1, 0, 1, 0, 0]) m (vis kX kO)))))
noncomputable abbrev vbdp (N m : Nat) (kX : St → Z0) (kO : Nat → St → Z0) (st' : St) : Z0 := run (A_zz50) N (codeAt Try.f8 [1, 1, 1, 1, 0, 1, 0, 0, 1, 1]) st' (itK (A_zz50) N 12 (codeAt Try.f8 [1, 1, 1, 1, 0, 1, 0, 0]) m (vis kX kO))
theorem vbpp (N m kX kO) {r} (h : vgu N m (vis kX kO) = r) : vfd N N (vaam N m kX kO) = vsx N r (vxo kX) := by
 rw [show vfd N N (vaam N m kX kO) = vfd N N (viq (vbdp N m kX kO) fun j => (vaam N m kX kO) (.exit j)) from (by funext _ _ _ _ _; exact vac (fun _ => by kernel_rfl) fun _ => by kernel_rfl), vajl, show vzo (vbdp N m kX kO) = vdj (vgu N m (vis kX kO)) by kernel_rfl, h]; rfl
theorem vamk (N kX kO) : ∀ n, vgu N n (vis kX kO) = vyn N (vxo kX) n
 | 0 => rfl
 | m + 1 => (show vgu N (m + 1) (vis kX kO) = vfs (vfd N N (vaam N m kX kO)) (vxo kX) by kernel_rfl).trans (by rw [vbpp N m kX kO (vamk N kX kO m)]; funext _ _ _ _; rfl)
noncomputable abbrev vaab (N : Nat) : Ex → St → Z0 := (blockK 0 (sqK (A_zz50) N 39 500019 (codeAt Try.f8 [1, 1, 1, 1, 1]) vxb))
noncomputable abbrev vbcr (N : Nat) (st' : St) : Z0 := run (A_zz50) N (codeAt Try.f8 [1, 1, 1, 1, 1]) st' vxb
theorem vbmw (N) : vgu N N (vaab N) = vank N := by
 rw [show vgu N N (vaab N) = vgu N N (vis (vbcr N) fun j => (vaab N) (.exit j)) from (by funext _ _ _ _; exact vac (fun _ => by kernel_rfl) fun _ => by kernel_rfl), vamk, show vxo (vbcr N) = vdm by kernel_rfl]; rfl
theorem run0_zz50 (N : Nat) (x : (S_zz50).a.den) : runF (A_zz50) N Try.f8 S_zz50 x = (valu (vgu N N (vaab N)) x.1) := by kernel_rfl
theorem run_zz50 (N : Nat) (x : (S_zz50).a.den) : runF (A_zz50) N Try.f8 S_zz50 x = zz50 N x.1 := by
  refine (run0_zz50 N x).trans ?_
  rw [vbmw N]
  rfl
theorem fn_zz50 : FnOk Try.prog 8 := ⟨_, Try.func8, by kernel_rfl, by kernel_rfl⟩
theorem good_zz50 : Gx.Good Try.prog 8 S_zz50 := vaa Try.func8 (of_decide_eq_true (by kernel_rfl)) fun x r h => ⟨A_zz50, big, vad tabOk, vab (show SigsOk Try.prog [(45, S_zz45), (46, S_zz46), (47, S_zz47), (48, S_zz16), (49, S_zz48), (50, S_zz49)] from ⟨⟨fn_zz45, good_zz45⟩, ⟨fn_zz46, good_zz46⟩, ⟨fn_zz47, good_zz47⟩, ⟨fn_zz16, good_zz16⟩, ⟨fn_zz48, good_zz48⟩, ⟨fn_zz49, good_zz49⟩, trivial⟩), (run_zz50 big x).trans h⟩
def vmo (rec : Y4 → Y4 → Int → Z1) (k : Z1) (a0 b1 : Y4) (i5 : Int) : Z1 :=
  cond (decide (i5 < (a0.length : Int)))
  ((atI a0 i5).bind fun xq1 =>
  (atI b1 i5).bind fun xq2 =>
  cond (decide (xq1 ≠ xq2))
  (some (false, (())))
  (rec a0 b1 (IntKind.i64.wrap (i5 + (1 : Int)))))
  (k)
def von : Z1 :=
  some (true, (()))
def vays (L4 : Y4 → Y4 → Int → Z1) (a_0 b_1 : Y4) : Z1 :=
  cond (decide ((a_0.length : Int) ≠ (b_1.length : Int)))
  (some (false, (())))
  (L4 a_0 b_1 (0 : Int))
def vaby (N : Nat) (k : Z1) : Nat → Y4 → Y4 → Int → Z1
  | 0, _, _, _ => none
  | m + 1, a0, b1, i5 => vmo (vaby N k m) k a0 b1 i5
def vanz (N : Nat) (a0 b1 : Y4) (i5 : Int) : Z1 := vaby N (von) N a0 b1 i5
def zz51 (N : Nat) (a_0 b_1 : Y4) : Z1 := vays (vanz N) a_0 b_1
def S_zz51 : Sig := { a := (.pair Q7 Q12), md := [0, 0], mf := [], m := .unit, r := .bool, rf := .i, f := fun x => zz51 big x.1 x.2.1 }
def A_zz51 : Cfg := mkCfg tab [] [(8, [.as Q7 .i, .as Q7 .i, .drop, .drop, .drop, .as I .i]), (17, [])]
noncomputable def vlg (N n : Nat) (K : Ex → St → Z1) (a0 b1 : Y4) (i5 : Int) : Z1 := iter ((A_zz51).shape 8) (run (A_zz51) N (codeAt Try.f9 [1, 1, 0, 1, 0, 0])) n ([W4 a0, W4 b1, .u, .u, .u, W0 i5] ++ List.replicate 20 .u) K
noncomputable abbrev vatz : Ex → St → Z1 := finish (A_zz51) S_zz51 Try.f9.results.toList
noncomputable abbrev vapc (kX : St → Z1) : Z1 := kX ([] ++ List.replicate 26 .u)
noncomputable abbrev vzf (kX : St → Z1) (kO : Nat → St → Z1) : Ex → St → Z1 := exK vatz 0 ((A_zz51).shape 17) kX kO
theorem vakf (N kX kO) : ∀ n, vlg N n (vzf kX kO) = vaby N (vapc kX) n
 | 0 => rfl
 | m + 1 => (show vlg N (m + 1) (vzf kX kO) = vmo (vlg N m (vzf kX kO)) (vapc kX) by kernel_rfl).trans (by rw [vakf N kX kO m]; funext _ _ _; rfl)
noncomputable abbrev vabw (N : Nat) : Ex → St → Z1 := (blockK 0 (sqK (A_zz51) N 17 500008 (codeAt Try.f9 [1, 1, 1]) vatz))
noncomputable abbrev vbct (N : Nat) (st' : St) : Z1 := run (A_zz51) N (codeAt Try.f9 [1, 1, 1]) st' vatz
theorem vbmz (N) : vlg N N (vabw N) = vanz N := by
 rw [show vlg N N (vabw N) = vlg N N (vzf (vbct N) fun j => (vabw N) (.exit j)) from (by funext _ _ _; exact vac (fun _ => by kernel_rfl) fun _ => by kernel_rfl), vakf, show vapc (vbct N) = von by kernel_rfl]; rfl
theorem run0_zz51 (N : Nat) (x : (S_zz51).a.den) : runF (A_zz51) N Try.f9 S_zz51 x = (vays (vlg N N (vabw N)) x.1 x.2.1) := by kernel_rfl
theorem run_zz51 (N : Nat) (x : (S_zz51).a.den) : runF (A_zz51) N Try.f9 S_zz51 x = zz51 N x.1 x.2.1 := by
  refine (run0_zz51 N x).trans ?_
  rw [vbmz N]
  rfl
theorem fn_zz51 : FnOk Try.prog 9 := ⟨_, Try.func9, by kernel_rfl, by kernel_rfl⟩
theorem good_zz51 : Gx.Good Try.prog 9 S_zz51 := vaa Try.func9 (of_decide_eq_true (by kernel_rfl)) fun x r h => ⟨A_zz51, big, vad tabOk, vab (show SigsOk Try.prog [] from trivial), (run_zz51 big x).trans h⟩
def vbkb (l_0 : Y1) (o_1 x_2 y_3 z_4 i_5 : Int) : Z1 :=
  (l_0).bind fun xq1 =>
  (atI xq1.2.1 x_2).bind fun xq2 =>
  (atI xq2 y_3).bind fun xq3 =>
  cond (decide (xq3 = o_1))
  ((l_0).bind fun xq4 =>
  (atI xq4.2.1 y_3).bind fun xq5 =>
  (atI xq5 z_4).bind fun xq6 =>
  cond (decide (xq6 = o_1))
  ((l_0).bind fun xq7 =>
  (atI xq7.2.2.1 x_2).bind fun xq8 =>
  (atI xq8 y_3).bind fun xq9 =>
  cond (decide (xq9 = i_5))
  ((l_0).bind fun xq10 =>
  (atI xq10.2.2.1 y_3).bind fun xq11 =>
  (atI xq11 z_4).bind fun xq12 =>
  some (decide (xq12 = i_5), (())))
  (some (false, (()))))
  (some (false, (()))))
  (some (false, (())))
def zz52 (l_0 : Y1) (o_1 x_2 y_3 z_4 i_5 : Int) : Z1 := vbkb l_0 o_1 x_2 y_3 z_4 i_5
def S_zz52 : Sig := { a := (.pair Q2 (.pair I (.pair I (.pair I Q8)))), md := [0, 0, 0, 0, 0, 0], mf := [], m := .unit, r := .bool, rf := .i, f := fun x => zz52 x.1 x.2.1 x.2.2.1 x.2.2.2.1 x.2.2.2.2.1 x.2.2.2.2.2.1 }
def A_zz52 : Cfg := mkCfg tab [] []
theorem run_zz52 (N : Nat) (x : (S_zz52).a.den) : runF (A_zz52) N Try.f51 S_zz52 x = zz52 x.1 x.2.1 x.2.2.1 x.2.2.2.1 x.2.2.2.2.1 x.2.2.2.2.2.1 := by kernel_rfl
theorem fn_zz52 : FnOk Try.prog 51 := ⟨_, Try.func51, by kernel_rfl, by kernel_rfl⟩
theorem good_zz52 : Gx.Good Try.prog 51 S_zz52 := vaa Try.func51 (of_decide_eq_true (by kernel_rfl)) fun x r h => ⟨A_zz52, big, vad tabOk, vab (show SigsOk Try.prog [] from trivial), (run_zz52 big x).trans h⟩
def vdg (rec : Unit → Y1 → Y4 → Int → Int → Int → Int → Int → Int → Int → Int → Z0) (k : Unit → Y1 → Y4 → Int → Int → Int → Int → Int → Z0) (good1 : Unit) (l6 : Y1) (best8 : Y4) (a9 b10 t26 t27 t34 t35 t42 t43 : Int) : Z0 :=
  cond (decide (t43 < t42))
  ((l6).bind fun xq5 =>
  (atI xq5.2.1 a9).bind fun xq6 =>
  (atI xq6 t43).bind fun xq7 =>
  (l6).bind fun xq8 =>
  (atI xq8.2.2.1 a9).bind fun xq9 =>
  (atI xq9 t43).bind fun xq10 =>
  (zz34 big [xq7, a9, b10, t43, xq10]).bind fun rq11 =>
  cond (!rq11.1)
  (rec good1 l6 best8 a9 b10 t26 t27 t34 t35 t42 (IntKind.i64.wrap (t43 + (1 : Int))))
  ((atI [xq7, a9, b10, t43, xq10] (0 : Int)).bind fun _ =>
  ([xq7, a9, b10, t43, xq10][(0 : Int).toNat]?).bind fun xq12 =>
  (atI [xq7, a9, b10, t43, xq10] (4 : Int)).bind fun _ =>
  ([xq7, a9, b10, t43, xq10][(4 : Int).toNat]?).bind fun xq13 =>
  (zz52 l6 xq12 a9 b10 t43 xq13).bind fun rq14 =>
  cond (!rq14.1)
  (rec good1 l6 best8 a9 b10 t26 t27 t34 t35 t42 (IntKind.i64.wrap (t43 + (1 : Int))))
  (cond (decide ((best8.length : Int) = (0 : Int)))
  (rec good1 l6 [xq7, a9, b10, t43, xq10] a9 b10 t26 t27 t34 t35 t42 (IntKind.i64.wrap (t43 + (1 : Int))))
  ((zz35 big [xq7, a9, b10, t43, xq10] best8).bind fun rq15 =>
  cond (decide (rq15.1 < (0 : Int)))
  (rec good1 l6 [xq7, a9, b10, t43, xq10] a9 b10 t26 t27 t34 t35 t42 (IntKind.i64.wrap (t43 + (1 : Int))))
  (rec good1 l6 best8 a9 b10 t26 t27 t34 t35 t42 (IntKind.i64.wrap (t43 + (1 : Int))))))))
  (k good1 l6 best8 a9 t26 t27 t34 t35)
def ven (rec : Unit → Y1 → Y4 → Int → Int → Int → Int → Int → Z0) (good1 : Unit) (l6 : Y1) (best8 : Y4) (a9 t26 t27 t34 t35 : Int) : Z0 :=
  rec good1 l6 best8 a9 t26 t27 t34 (IntKind.i64.wrap (t35 + (1 : Int)))
def vgy (L12 : Unit → Y1 → Y4 → Int → Int → Int → Int → Int → Int → Int → Int → Z0) (k : Unit → Y1 → Y4 → Int → Int → Z0) (good1 : Unit) (l6 : Y1) (best8 : Y4) (a9 t26 t27 t34 t35 : Int) : Z0 :=
  cond (decide (t35 < t34))
  ((l6).bind fun xq4 =>
  L12 good1 l6 best8 a9 t35 t26 t27 t34 t35 (xq4.1.length : Int) (0 : Int))
  (k good1 l6 best8 t26 t27)
def vds (rec : Unit → Y1 → Y4 → Int → Int → Z0) (good1 : Unit) (l6 : Y1) (best8 : Y4) (t26 t27 : Int) : Z0 :=
  rec good1 l6 best8 t26 (IntKind.i64.wrap (t27 + (1 : Int)))
def vfp (L9 : Unit → Y1 → Y4 → Int → Int → Int → Int → Int → Z0) (k : Y4 → Z0) (good1 : Unit) (l6 : Y1) (best8 : Y4) (t26 t27 : Int) : Z0 :=
  cond (decide (t27 < t26))
  ((l6).bind fun xq3 =>
  L9 good1 l6 best8 t27 t26 t27 (xq3.1.length : Int) (0 : Int))
  (k best8)
def vdk (best8 : Y4) : Z0 :=
  some ((best8, decide ((0 : Int) < (best8.length : Int)), ()), (()))
def vwd (L6 : Unit → Y1 → Y4 → Int → Int → Z0) (p_0 : Y2) (good_1 : Unit) : Z0 :=
  (zz32 p_0).bind fun rq1 =>
  cond (!rq1.1.2.1)
  (some (([], false, ()), (())))
  ((rq1.1.1).bind fun xq2 =>
  L6 good_1 rq1.1.1 [] (xq2.1.length : Int) (0 : Int))
def vtk (N : Nat) (k : Unit → Y1 → Y4 → Int → Int → Int → Int → Int → Z0) : Nat → Unit → Y1 → Y4 → Int → Int → Int → Int → Int → Int → Int → Int → Z0
  | 0, _, _, _, _, _, _, _, _, _, _, _ => none
  | m + 1, good1, l6, best8, a9, b10, t26, t27, t34, t35, t42, t43 => vdg (vtk N k m) k good1 l6 best8 a9 b10 t26 t27 t34 t35 t42 t43
def vqf (N : Nat) (rec : Unit → Y1 → Y4 → Int → Int → Int → Int → Int → Z0) (k : Unit → Y1 → Y4 → Int → Int → Z0) (good1 : Unit) (l6 : Y1) (best8 : Y4) (a9 b10 t26 t27 t34 t35 t42 t43 : Int) : Z0 := vtk N (ven rec) N good1 l6 best8 a9 b10 t26 t27 t34 t35 t42 t43
def vxs (N : Nat) (k : Unit → Y1 → Y4 → Int → Int → Z0) : Nat → Unit → Y1 → Y4 → Int → Int → Int → Int → Int → Z0
  | 0, _, _, _, _, _, _, _, _ => none
  | m + 1, good1, l6, best8, a9, t26, t27, t34, t35 => vgy (vqf N (vxs N k m) k) k good1 l6 best8 a9 t26 t27 t34 t35
def vss (N : Nat) (rec : Unit → Y1 → Y4 → Int → Int → Z0) (k : Y4 → Z0) (good1 : Unit) (l6 : Y1) (best8 : Y4) (a9 t26 t27 t34 t35 : Int) : Z0 := vxs N (vds rec) N good1 l6 best8 a9 t26 t27 t34 t35
def vabc (N : Nat) (k : Y4 → Z0) : Nat → Unit → Y1 → Y4 → Int → Int → Z0
  | 0, _, _, _, _, _ => none
  | m + 1, good1, l6, best8, t26, t27 => vfp (vss N (vabc N k m) k) k good1 l6 best8 t26 t27
def vsm (N : Nat) (good1 : Unit) (l6 : Y1) (best8 : Y4) (t26 t27 : Int) : Z0 := vabc N (vdk) N good1 l6 best8 t26 t27
def zz53 (N : Nat) (p_0 : Y2) (good_1 : Unit) : Z0 := vwd (vsm N) p_0 good_1
def S_zz53 : Sig := { a := (.pair Q0 (.pair (.clo 51 0 .unit) .unit)), md := [0, 0], mf := [], m := .unit, r := Q9, rf := (.p P5 .i), f := fun x => zz53 big x.1 x.2.1 }
def A_zz53 : Cfg := mkCfg tab [(52, S_zz32), (83, S_zz34), (51, S_zz52), (84, S_zz35)] [(12, [.drop, .as (.clo 51 0 .unit) .i, .drop, .drop, .drop, .drop, .as Q2 .i, .drop, .as Q7 P5, .drop, .drop, .drop, .drop, .drop, .drop, .drop, .drop, .drop, .drop, .drop, .drop, .drop, .drop, .drop, .drop, .drop, .as I .i, .as I .i]), (18, [.drop, .as (.clo 51 0 .unit) .i, .drop, .drop, .drop, .drop, .as Q2 .i, .drop, .as Q7 P5, .as I .i, .drop, .drop, .drop, .drop, .drop, .drop, .drop, .drop, .drop, .drop, .drop, .drop, .drop, .drop, .drop, .drop, .as I .i, .as I .i, .drop, .drop, .drop, .drop, .drop, .drop, .as I .i, .as I .i]), (43, [.drop, .drop, .drop, .drop, .drop, .drop, .drop, .drop, .as Q7 P5]), (24, [.drop, .as (.clo 51 0 .unit) .i, .drop, .drop, .drop, .drop, .as Q2 .i, .drop, .as Q7 P5, .as I .i, .as I .i, .drop, .drop, .drop, .drop, .drop, .drop, .drop, .drop, .drop, .drop, .drop, .drop, .drop, .drop, .drop, .as I .i, .as I .i, .drop, .drop, .drop, .drop, .drop, .drop, .as I .i, .as I .i, .drop, .drop, .drop, .drop, .drop, .drop, .as I .i, .as I .i]), (41, [.drop, .as (.clo 51 0 .unit) .i, .drop, .drop, .drop, .drop, .as Q2 .i, .drop, .as Q7 P5, .drop, .drop, .drop, .drop, .drop, .drop, .drop, .drop, .drop, .drop, .drop, .drop, .drop, .drop, .drop, .drop, .drop, .as I .i, .as I .i]), (39, [.drop, .as (.clo 51 0 .unit) .i, .drop, .drop, .drop, .drop, .as Q2 .i, .drop, .as Q7 P5, .as I .i, .drop, .drop, .drop, .drop, .drop, .drop, .drop, .drop, .drop, .drop, .drop, .drop, .drop, .drop, .drop, .drop, .as I .i, .as I .i, .drop, .drop, .drop, .drop, .drop, .drop, .as I .i, .as I .i])]
noncomputable def vgm (N n : Nat) (K : Ex → St → Z0) (good1 : Unit) (l6 : Y1) (best8 : Y4) (t26 t27 : Int) : Z0 := iter ((A_zz53).shape 12) (run (A_zz53) N (codeAt Try.f42 [1, 1, 1, 1, 0, 1, 0, 0])) n ([.u, .val (.clo 51 0 .unit) .i good1, .u, .u, .u, .u, W6 l6, .u, W3 best8, .u, .u, .u, .u, .u, .u, .u, .u, .u, .u, .u, .u, .u, .u, .u, .u, .u, W0 t26, W0 t27] ++ List.replicate 77 .u) K
noncomputable def vho (N n : Nat) (K : Ex → St → Z0) (good1 : Unit) (l6 : Y1) (best8 : Y4) (a9 t26 t27 t34 t35 : Int) : Z0 := iter ((A_zz53).shape 18) (run (A_zz53) N (codeAt Try.f42 [1, 1, 1, 1, 0, 1, 0, 0, 1, 1, 0, 0, 1, 1, 0, 0])) n ([.u, .val (.clo 51 0 .unit) .i good1, .u, .u, .u, .u, W6 l6, .u, W3 best8, W0 a9, .u, .u, .u, .u, .u, .u, .u, .u, .u, .u, .u, .u, .u, .u, .u, .u, W0 t26, W0 t27, .u, .u, .u, .u, .u, .u, W0 t34, W0 t35] ++ List.replicate 69 .u) K
noncomputable def veo (N n : Nat) (K : Ex → St → Z0) (good1 : Unit) (l6 : Y1) (best8 : Y4) (a9 b10 t26 t27 t34 t35 t42 t43 : Int) : Z0 := iter ((A_zz53).shape 24) (run (A_zz53) N (codeAt Try.f42 [1, 1, 1, 1, 0, 1, 0, 0, 1, 1, 0, 0, 1, 1, 0, 0, 1, 1, 0, 0, 1, 1, 0, 0])) n ([.u, .val (.clo 51 0 .unit) .i good1, .u, .u, .u, .u, W6 l6, .u, W3 best8, W0 a9, W0 b10, .u, .u, .u, .u, .u, .u, .u, .u, .u, .u, .u, .u, .u, .u, .u, W0 t26, W0 t27, .u, .u, .u, .u, .u, .u, W0 t34, W0 t35, .u, .u, .u, .u, .u, .u, W0 t42, W0 t43] ++ List.replicate 61 .u) K
noncomputable abbrev vxf : Ex → St → Z0 := finish (A_zz53) S_zz53 Try.f42.results.toList
noncomputable abbrev vabo (kX : St → Z0) (best8 : Y4) : Z0 := kX ([.u, .u, .u, .u, .u, .u, .u, .u, W3 best8] ++ List.replicate 96 .u)
noncomputable abbrev vko (kX : St → Z0) (kO : Nat → St → Z0) : Ex → St → Z0 := exK vxf 0 ((A_zz53).shape 43) kX kO
noncomputable abbrev vabg (kX : St → Z0) (good1 : Unit) (l6 : Y1) (best8 : Y4) (t26 t27 : Int) : Z0 := kX ([.u, .val (.clo 51 0 .unit) .i good1, .u, .u, .u, .u, W6 l6, .u, W3 best8, .u, .u, .u, .u, .u, .u, .u, .u, .u, .u, .u, .u, .u, .u, .u, .u, .u, W0 t26, W0 t27] ++ List.replicate 77 .u)
noncomputable abbrev vkq (kX : St → Z0) (kO : Nat → St → Z0) : Ex → St → Z0 := exK vxf 2 ((A_zz53).shape 41) kX kO
noncomputable abbrev vahw (kX : St → Z0) (good1 : Unit) (l6 : Y1) (best8 : Y4) (a9 t26 t27 t34 t35 : Int) : Z0 := kX ([.u, .val (.clo 51 0 .unit) .i good1, .u, .u, .u, .u, W6 l6, .u, W3 best8, W0 a9, .u, .u, .u, .u, .u, .u, .u, .u, .u, .u, .u, .u, .u, .u, .u, .u, W0 t26, W0 t27, .u, .u, .u, .u, .u, .u, W0 t34, W0 t35] ++ List.replicate 69 .u)
noncomputable abbrev vvu (kX : St → Z0) (kO : Nat → St → Z0) : Ex → St → Z0 := exK vxf 4 ((A_zz53).shape 39) kX kO
theorem vagg (N kX kO) : ∀ n, veo N n (vvu kX kO) = vtk N (vahw kX) n
 | 0 => rfl
 | m + 1 => (show veo N (m + 1) (vvu kX kO) = vdg (veo N m (vvu kX kO)) (vahw kX) by kernel_rfl).trans (by rw [vagg N kX kO m]; funext _ _ _ _ _ _ _ _ _ _ _; rfl)
noncomputable abbrev vsz (N m : Nat) (kX : St → Z0) (kO : Nat → St → Z0) : Ex → St → Z0 := (blockK 4 (blockK 3 (sqK (A_zz53) N 39 500019 (codeAt Try.f42 [1, 1, 1, 1, 0, 1, 0, 0, 1, 1, 0, 0, 1, 1, 0, 0, 1, 1, 1]) (itK (A_zz53) N 18 (codeAt Try.f42 [1, 1, 1, 1, 0, 1, 0, 0, 1, 1, 0, 0, 1, 1, 0, 0]) m (vkq kX kO)))))
noncomputable abbrev vazg (N m : Nat) (kX : St → Z0) (kO : Nat → St → Z0) (st' : St) : Z0 := run (A_zz53) N (codeAt Try.f42 [1, 1, 1, 1, 0, 1, 0, 0, 1, 1, 0, 0, 1, 1, 0, 0, 1, 1, 1]) st' (itK (A_zz53) N 18 (codeAt Try.f42 [1, 1, 1, 1, 0, 1, 0, 0, 1, 1, 0, 0, 1, 1, 0, 0]) m (vkq kX kO))
theorem vbht (N m kX kO) {r} (h : vho N m (vkq kX kO) = r) : veo N N (vsz N m kX kO) = vqf N r (vabg kX) := by
 rw [show veo N N (vsz N m kX kO) = veo N N (vvu (vazg N m kX kO) fun j => (vsz N m kX kO) (.exit j)) from (by funext _ _ _ _ _ _ _ _ _ _ _; exact vac (fun _ => by kernel_rfl) fun _ => by kernel_rfl), vagg, show vahw (vazg N m kX kO) = ven (vho N m (vkq kX kO)) by kernel_rfl, h]; rfl
theorem vain (N kX kO) : ∀ n, vho N n (vkq kX kO) = vxs N (vabg kX) n
 | 0 => rfl
 | m + 1 => (show vho N (m + 1) (vkq kX kO) = vgy (veo N N (vsz N m kX kO)) (vabg kX) by kernel_rfl).trans (by rw [vbht N m kX kO (vain N kX kO m)]; funext _ _ _ _ _ _ _ _; rfl)
noncomputable abbrev vabn (N m : Nat) (kX : St → Z0) (kO : Nat → St → Z0) : Ex → St → Z0 := (blockK 2 (blockK 1 (sqK (A_zz53) N 41 500020 (codeAt Try.f42 [1, 1, 1, 1, 0, 1, 0, 0, 1, 1, 1]) (itK (A_zz53) N 12 (codeAt Try.f42 [1, 1, 1, 1, 0, 1, 0, 0]) m (vko kX kO)))))
noncomputable abbrev vbds (N m : Nat) (kX : St → Z0) (kO : Nat → St → Z0) (st' : St) : Z0 := run (A_zz53) N (codeAt Try.f42 [1, 1, 1, 1, 0, 1, 0, 0, 1, 1, 1]) st' (itK (A_zz53) N 12 (codeAt Try.f42 [1, 1, 1, 1, 0, 1, 0, 0]) m (vko kX kO))
theorem vblf (N m kX kO) {r} (h : vgm N m (vko kX kO) = r) : vho N N (vabn N m kX kO) = vss N r (vabo kX) := by
 rw [show vho N N (vabn N m kX kO) = vho N N (vkq (vbds N m kX kO) fun j => (vabn N m kX kO) (.exit j)) from (by funext _ _ _ _ _ _ _ _; exact vac (fun _ => by kernel_rfl) fun _ => by kernel_rfl), vain, show vabg (vbds N m kX kO) = vds (vgm N m (vko kX kO)) by kernel_rfl, h]; rfl
theorem vajb (N kX kO) : ∀ n, vgm N n (vko kX kO) = vabc N (vabo kX) n
 | 0 => rfl
 | m + 1 => (show vgm N (m + 1) (vko kX kO) = vfp (vho N N (vabn N m kX kO)) (vabo kX) by kernel_rfl).trans (by rw [vblf N m kX kO (vajb N kX kO m)]; funext _ _ _ _ _; rfl)
noncomputable abbrev vacq (N : Nat) : Ex → St → Z0 := (blockK 0 (sqK (A_zz53) N 43 500021 (codeAt Try.f42 [1, 1, 1, 1, 1]) vxf))
noncomputable abbrev vbbu (N : Nat) (st' : St) : Z0 := run (A_zz53) N (codeAt Try.f42 [1, 1, 1, 1, 1]) st' vxf
theorem vboe (N) : vgm N N (vacq N) = vsm N := by
 rw [show vgm N N (vacq N) = vgm N N (vko (vbbu N) fun j => (vacq N) (.exit j)) from (by funext _ _ _ _ _; exact vac (fun _ => by kernel_rfl) fun _ => by kernel_rfl), vajb, show vabo (vbbu N) = vdk by kernel_rfl]; rfl
theorem run0_zz53 (N : Nat) (x : (S_zz53).a.den) : runF (A_zz53) N Try.f42 S_zz53 x = (vwd (vgm N N (vacq N)) x.1 x.2.1) := by kernel_rfl
theorem run_zz53 (N : Nat) (x : (S_zz53).a.den) : runF (A_zz53) N Try.f42 S_zz53 x = zz53 N x.1 x.2.1 := by
  refine (run0_zz53 N x).trans ?_
  rw [vboe N]
  rfl
theorem fn_zz53 : FnOk Try.prog 42 := ⟨_, Try.func42, by kernel_rfl, by kernel_rfl⟩
theorem good_zz53 : Gx.Good Try.prog 42 S_zz53 := vaa Try.func42 (of_decide_eq_true (by kernel_rfl)) fun x r h => ⟨A_zz53, big, vad tabOk, vab (show SigsOk Try.prog [(52, S_zz32), (83, S_zz34), (51, S_zz52), (84, S_zz35)] from ⟨⟨fn_zz32, good_zz32⟩, ⟨fn_zz34, good_zz34⟩, ⟨fn_zz52, good_zz52⟩, ⟨fn_zz35, good_zz35⟩, trivial⟩), (run_zz53 big x).trans h⟩
def vamt (p_0 : Y2) : Z0 :=
  (zz53 big p_0 ()).bind fun rq1 =>
  some ((rq1.1.1, (((), rq1.1.2).2).1, ()), (()))
def zz54 (p_0 : Y2) : Z0 := vamt p_0
def S_zz54 : Sig := { a := Q11, md := [0], mf := [], m := .unit, r := Q9, rf := (.p P5 .i), f := fun x => zz54 x.1 }
def A_zz54 : Cfg := mkCfg tab [(42, S_zz53)] []
theorem run_zz54 (N : Nat) (x : (S_zz54).a.den) : runF (A_zz54) N Try.f10 S_zz54 x = zz54 x.1 := by kernel_rfl
theorem fn_zz54 : FnOk Try.prog 10 := ⟨_, Try.func10, by kernel_rfl, by kernel_rfl⟩
theorem good_zz54 : Gx.Good Try.prog 10 S_zz54 := vaa Try.func10 (of_decide_eq_true (by kernel_rfl)) fun x r h => ⟨A_zz54, big, vad tabOk, vab (show SigsOk Try.prog [(42, S_zz53)] from ⟨⟨fn_zz53, good_zz53⟩, trivial⟩), (run_zz54 big x).trans h⟩
def vcn (rec : Y2 → Int → Y4 → Int → Int → Int → Z0) (k : Y2 → Int → Y4 → Int → Int → Z0) (p1 : Y2) (n4 : Int) (best5 : Y4) (x6 y7 z8 : Int) : Z0 :=
  cond (decide (z8 < n4))
  ((zz46 p1 x6 y7).bind fun rq2 =>
  (zz47 p1 x6 y7).bind fun rq3 =>
  (zz46 p1 x6 z8).bind fun rq4 =>
  cond (decide (rq4.1 ≠ rq2.1))
  (rec p1 n4 best5 x6 y7 (IntKind.i64.wrap (z8 + (1 : Int))))
  ((zz46 p1 y7 z8).bind fun rq5 =>
  cond (decide (rq5.1 ≠ rq2.1))
  (rec p1 n4 best5 x6 y7 (IntKind.i64.wrap (z8 + (1 : Int))))
  ((zz47 p1 x6 z8).bind fun rq6 =>
  cond (decide (rq6.1 ≠ rq3.1))
  (rec p1 n4 best5 x6 y7 (IntKind.i64.wrap (z8 + (1 : Int))))
  ((zz47 p1 y7 z8).bind fun rq7 =>
  cond (decide (rq7.1 ≠ rq3.1))
  (rec p1 n4 best5 x6 y7 (IntKind.i64.wrap (z8 + (1 : Int))))
  ((zz48 big [rq2.1, x6, y7, z8, rq3.1]).bind fun rq8 =>
  cond rq8.1
  (cond (decide ((best5.length : Int) = (0 : Int)))
  (rec p1 n4 [rq2.1, x6, y7, z8, rq3.1] x6 y7 (IntKind.i64.wrap (z8 + (1 : Int))))
  ((zz49 big [rq2.1, x6, y7, z8, rq3.1] best5).bind fun rq9 =>
  cond rq9.1
  (rec p1 n4 [rq2.1, x6, y7, z8, rq3.1] x6 y7 (IntKind.i64.wrap (z8 + (1 : Int))))
  (rec p1 n4 best5 x6 y7 (IntKind.i64.wrap (z8 + (1 : Int))))))
  (rec p1 n4 best5 x6 y7 (IntKind.i64.wrap (z8 + (1 : Int)))))))))
  (k p1 n4 best5 x6 y7)
def veu (rec : Y2 → Int → Y4 → Int → Int → Z0) (p1 : Y2) (n4 : Int) (best5 : Y4) (x6 y7 : Int) : Z0 :=
  rec p1 n4 best5 x6 (IntKind.i64.wrap (y7 + (1 : Int)))
def vgh (L12 : Y2 → Int → Y4 → Int → Int → Int → Z0) (k : Y2 → Int → Y4 → Int → Z0) (p1 : Y2) (n4 : Int) (best5 : Y4) (x6 y7 : Int) : Z0 :=
  cond (decide (y7 < n4))
  (L12 p1 n4 best5 x6 y7 (0 : Int))
  (k p1 n4 best5 x6)
def vdr (rec : Y2 → Int → Y4 → Int → Z0) (p1 : Y2) (n4 : Int) (best5 : Y4) (x6 : Int) : Z0 :=
  rec p1 n4 best5 (IntKind.i64.wrap (x6 + (1 : Int)))
def vhd (L9 : Y2 → Int → Y4 → Int → Int → Z0) (k : Y4 → Z0) (p1 : Y2) (n4 : Int) (best5 : Y4) (x6 : Int) : Z0 :=
  cond (decide (x6 < n4))
  (L9 p1 n4 best5 x6 (0 : Int))
  (k best5)
def vdl (best5 : Y4) : Z0 :=
  some ((best5, decide ((0 : Int) < (best5.length : Int)), ()), (()))
def valk (L6 : Y2 → Int → Y4 → Int → Z0) (p_0 : Y2) : Z0 :=
  (zz45 big p_0).bind fun rq1 =>
  cond (!rq1.1)
  (some (([], false, ()), (())))
  (L6 p_0 (p_0.1.length : Int) [] (0 : Int))
def vtl (N : Nat) (k : Y2 → Int → Y4 → Int → Int → Z0) : Nat → Y2 → Int → Y4 → Int → Int → Int → Z0
  | 0, _, _, _, _, _, _ => none
  | m + 1, p1, n4, best5, x6, y7, z8 => vcn (vtl N k m) k p1 n4 best5 x6 y7 z8
def vqe (N : Nat) (rec : Y2 → Int → Y4 → Int → Int → Z0) (k : Y2 → Int → Y4 → Int → Z0) (p1 : Y2) (n4 : Int) (best5 : Y4) (x6 y7 z8 : Int) : Z0 := vtl N (veu rec) N p1 n4 best5 x6 y7 z8
def vaex (N : Nat) (k : Y2 → Int → Y4 → Int → Z0) : Nat → Y2 → Int → Y4 → Int → Int → Z0
  | 0, _, _, _, _, _ => none
  | m + 1, p1, n4, best5, x6, y7 => vgh (vqe N (vaex N k m) k) k p1 n4 best5 x6 y7
def vrz (N : Nat) (rec : Y2 → Int → Y4 → Int → Z0) (k : Y4 → Z0) (p1 : Y2) (n4 : Int) (best5 : Y4) (x6 y7 : Int) : Z0 := vaex N (vdr rec) N p1 n4 best5 x6 y7
def vaec (N : Nat) (k : Y4 → Z0) : Nat → Y2 → Int → Y4 → Int → Z0
  | 0, _, _, _, _ => none
  | m + 1, p1, n4, best5, x6 => vhd (vrz N (vaec N k m) k) k p1 n4 best5 x6
def vapg (N : Nat) (p1 : Y2) (n4 : Int) (best5 : Y4) (x6 : Int) : Z0 := vaec N (vdl) N p1 n4 best5 x6
def zz55 (N : Nat) (p_0 : Y2) : Z0 := valk (vapg N) p_0
def S_zz55 : Sig := { a := Q11, md := [0], mf := [], m := .unit, r := Q9, rf := (.p P5 .i), f := fun x => zz55 big x.1 }
def A_zz55 : Cfg := mkCfg tab [(45, S_zz45), (46, S_zz46), (47, S_zz47), (49, S_zz48), (50, S_zz49)] [(12, [.drop, .as Q4 P5, .drop, .drop, .as I .i, .as Q7 P5, .as I .i]), (18, [.drop, .as Q4 P5, .drop, .drop, .as I .i, .as Q7 P5, .as I .i, .as I .i]), (39, [.drop, .drop, .drop, .drop, .drop, .as Q7 P5]), (24, [.drop, .as Q4 P5, .drop, .drop, .as I .i, .as Q7 P5, .as I .i, .as I .i, .as I .i]), (15, [.drop, .as Q4 P5, .drop, .drop, .as I .i, .as Q7 P5, .as I .i]), (21, [.drop, .as Q4 P5, .drop, .drop, .as I .i, .as Q7 P5, .as I .i, .as I .i])]
noncomputable def vgw (N n : Nat) (K : Ex → St → Z0) (p1 : Y2) (n4 : Int) (best5 : Y4) (x6 : Int) : Z0 := iter ((A_zz55).shape 12) (run (A_zz55) N (codeAt Try.f11 [1, 1, 1, 1, 0, 1, 0, 0])) n ([.u, W2 p1, .u, .u, W0 n4, W3 best5, W0 x6] ++ List.replicate 89 .u) K
noncomputable def vft (N n : Nat) (K : Ex → St → Z0) (p1 : Y2) (n4 : Int) (best5 : Y4) (x6 y7 : Int) : Z0 := iter ((A_zz55).shape 18) (run (A_zz55) N (codeAt Try.f11 [1, 1, 1, 1, 0, 1, 0, 0, 1, 0, 0, 1, 0, 0])) n ([.u, W2 p1, .u, .u, W0 n4, W3 best5, W0 x6, W0 y7] ++ List.replicate 88 .u) K
noncomputable def vew (N n : Nat) (K : Ex → St → Z0) (p1 : Y2) (n4 : Int) (best5 : Y4) (x6 y7 z8 : Int) : Z0 := iter ((A_zz55).shape 24) (run (A_zz55) N (codeAt Try.f11 [1, 1, 1, 1, 0, 1, 0, 0, 1, 0, 0, 1, 0, 0, 1, 0, 0, 1, 0, 0])) n ([.u, W2 p1, .u, .u, W0 n4, W3 best5, W0 x6, W0 y7, W0 z8] ++ List.replicate 87 .u) K
noncomputable abbrev vwj : Ex → St → Z0 := finish (A_zz55) S_zz55 Try.f11.results.toList
noncomputable abbrev vzt (kX : St → Z0) (best5 : Y4) : Z0 := kX ([.u, .u, .u, .u, .u, W3 best5] ++ List.replicate 90 .u)
noncomputable abbrev vim (kX : St → Z0) (kO : Nat → St → Z0) : Ex → St → Z0 := exK vwj 0 ((A_zz55).shape 39) kX kO
noncomputable abbrev vzb (kX : St → Z0) (p1 : Y2) (n4 : Int) (best5 : Y4) (x6 : Int) : Z0 := kX ([.u, W2 p1, .u, .u, W0 n4, W3 best5, W0 x6] ++ List.replicate 89 .u)
noncomputable abbrev vlj (kX : St → Z0) (kO : Nat → St → Z0) : Ex → St → Z0 := exK vwj 2 ((A_zz55).shape 15) kX kO
noncomputable abbrev vahf (kX : St → Z0) (p1 : Y2) (n4 : Int) (best5 : Y4) (x6 y7 : Int) : Z0 := kX ([.u, W2 p1, .u, .u, W0 n4, W3 best5, W0 x6, W0 y7] ++ List.replicate 88 .u)
noncomputable abbrev vux (kX : St → Z0) (kO : Nat → St → Z0) : Ex → St → Z0 := exK vwj 4 ((A_zz55).shape 21) kX kO
theorem vagk (N kX kO) : ∀ n, vew N n (vux kX kO) = vtl N (vahf kX) n
 | 0 => rfl
 | m + 1 => (show vew N (m + 1) (vux kX kO) = vcn (vew N m (vux kX kO)) (vahf kX) by kernel_rfl).trans (by rw [vagk N kX kO m]; funext _ _ _ _ _ _; rfl)
noncomputable abbrev vtc (N m : Nat) (kX : St → Z0) (kO : Nat → St → Z0) : Ex → St → Z0 := (blockK 4 (blockK 3 (sqK (A_zz55) N 21 500010 (codeAt Try.f11 [1, 1, 1, 1, 0, 1, 0, 0, 1, 0, 0, 1, 0, 0, 1, 1]) (itK (A_zz55) N 18 (codeAt Try.f11 [1, 1, 1, 1, 0, 1, 0, 0, 1, 0, 0, 1, 0, 0]) m (vlj kX kO)))))
noncomputable abbrev vati (N m : Nat) (kX : St → Z0) (kO : Nat → St → Z0) (st' : St) : Z0 := run (A_zz55) N (codeAt Try.f11 [1, 1, 1, 1, 0, 1, 0, 0, 1, 0, 0, 1, 0, 0, 1, 1]) st' (itK (A_zz55) N 18 (codeAt Try.f11 [1, 1, 1, 1, 0, 1, 0, 0, 1, 0, 0, 1, 0, 0]) m (vlj kX kO))
theorem vbia (N m kX kO) {r} (h : vft N m (vlj kX kO) = r) : vew N N (vtc N m kX kO) = vqe N r (vzb kX) := by
 rw [show vew N N (vtc N m kX kO) = vew N N (vux (vati N m kX kO) fun j => (vtc N m kX kO) (.exit j)) from (by funext _ _ _ _ _ _; exact vac (fun _ => by kernel_rfl) fun _ => by kernel_rfl), vagk, show vahf (vati N m kX kO) = veu (vft N m (vlj kX kO)) by kernel_rfl, h]; rfl
theorem vane (N kX kO) : ∀ n, vft N n (vlj kX kO) = vaex N (vzb kX) n
 | 0 => rfl
 | m + 1 => (show vft N (m + 1) (vlj kX kO) = vgh (vew N N (vtc N m kX kO)) (vzb kX) by kernel_rfl).trans (by rw [vbia N m kX kO (vane N kX kO m)]; funext _ _ _ _ _; rfl)
noncomputable abbrev vabl (N m : Nat) (kX : St → Z0) (kO : Nat → St → Z0) : Ex → St → Z0 := (blockK 2 (blockK 1 (sqK (A_zz55) N 15 500007 (codeAt Try.f11 [1, 1, 1, 1, 0, 1, 0, 0, 1, 1]) (itK (A_zz55) N 12 (codeAt Try.f11 [1, 1, 1, 1, 0, 1, 0, 0]) m (vim kX kO)))))
noncomputable abbrev vbbo (N m : Nat) (kX : St → Z0) (kO : Nat → St → Z0) (st' : St) : Z0 := run (A_zz55) N (codeAt Try.f11 [1, 1, 1, 1, 0, 1, 0, 0, 1, 1]) st' (itK (A_zz55) N 12 (codeAt Try.f11 [1, 1, 1, 1, 0, 1, 0, 0]) m (vim kX kO))
theorem vbng (N m kX kO) {r} (h : vgw N m (vim kX kO) = r) : vft N N (vabl N m kX kO) = vrz N r (vzt kX) := by
 rw [show vft N N (vabl N m kX kO) = vft N N (vlj (vbbo N m kX kO) fun j => (vabl N m kX kO) (.exit j)) from (by funext _ _ _ _ _; exact vac (fun _ => by kernel_rfl) fun _ => by kernel_rfl), vane, show vzb (vbbo N m kX kO) = vdr (vgw N m (vim kX kO)) by kernel_rfl, h]; rfl
theorem vaio (N kX kO) : ∀ n, vgw N n (vim kX kO) = vaec N (vzt kX) n
 | 0 => rfl
 | m + 1 => (show vgw N (m + 1) (vim kX kO) = vhd (vft N N (vabl N m kX kO)) (vzt kX) by kernel_rfl).trans (by rw [vbng N m kX kO (vaio N kX kO m)]; funext _ _ _ _; rfl)
noncomputable abbrev vaen (N : Nat) : Ex → St → Z0 := (blockK 0 (sqK (A_zz55) N 39 500019 (codeAt Try.f11 [1, 1, 1, 1, 1]) vwj))
noncomputable abbrev vbbk (N : Nat) (st' : St) : Z0 := run (A_zz55) N (codeAt Try.f11 [1, 1, 1, 1, 1]) st' vwj
theorem vbox (N) : vgw N N (vaen N) = vapg N := by
 rw [show vgw N N (vaen N) = vgw N N (vim (vbbk N) fun j => (vaen N) (.exit j)) from (by funext _ _ _ _; exact vac (fun _ => by kernel_rfl) fun _ => by kernel_rfl), vaio, show vzt (vbbk N) = vdl by kernel_rfl]; rfl
theorem run0_zz55 (N : Nat) (x : (S_zz55).a.den) : runF (A_zz55) N Try.f11 S_zz55 x = (valk (vgw N N (vaen N)) x.1) := by kernel_rfl
theorem run_zz55 (N : Nat) (x : (S_zz55).a.den) : runF (A_zz55) N Try.f11 S_zz55 x = zz55 N x.1 := by
  refine (run0_zz55 N x).trans ?_
  rw [vbox N]
  rfl
theorem fn_zz55 : FnOk Try.prog 11 := ⟨_, Try.func11, by kernel_rfl, by kernel_rfl⟩
theorem good_zz55 : Gx.Good Try.prog 11 S_zz55 := vaa Try.func11 (of_decide_eq_true (by kernel_rfl)) fun x r h => ⟨A_zz55, big, vad tabOk, vab (show SigsOk Try.prog [(45, S_zz45), (46, S_zz46), (47, S_zz47), (49, S_zz48), (50, S_zz49)] from ⟨⟨fn_zz45, good_zz45⟩, ⟨fn_zz46, good_zz46⟩, ⟨fn_zz47, good_zz47⟩, ⟨fn_zz48, good_zz48⟩, ⟨fn_zz49, good_zz49⟩, trivial⟩), (run_zz55 big x).trans h⟩
def vnn (rec : Y1 → Int → Int → Int → Int → Int → Int → Int → Int → Z4) (k : Y1 → Int → Int → Int → Int → Int → Z4) (l0 : Y1) (x3 y4 t10 t11 t18 t19 t26 t27 : Int) : Z4 :=
  cond (decide (t27 < t26))
  ((l0).bind fun xq4 =>
  (atI xq4.1 x3).bind fun xq5 =>
  (atI xq5 t27).bind fun xq6 =>
  cond xq6
  ((l0).bind fun xq7 =>
  (atI xq7.2.2.1 x3).bind fun xq8 =>
  (l0).bind fun xq9 =>
  (atI xq9.2.1 y4).bind fun xq10 =>
  (atI xq10 t27).bind fun xq11 =>
  (atI xq8 xq11).bind fun xq12 =>
  (l0).bind fun xq13 =>
  (atI xq13.2.1 t27).bind fun xq14 =>
  (l0).bind fun xq15 =>
  (atI xq15.2.2.1 x3).bind fun xq16 =>
  (atI xq16 y4).bind fun xq17 =>
  (atI xq14 xq17).bind fun xq18 =>
  cond (decide (xq12 ≠ xq18))
  (some ((some [x3, y4, t27]), (())))
  (rec l0 x3 y4 t10 t11 t18 t19 t26 (IntKind.i64.wrap (t27 + (1 : Int)))))
  (rec l0 x3 y4 t10 t11 t18 t19 t26 (IntKind.i64.wrap (t27 + (1 : Int)))))
  (k l0 x3 t10 t11 t18 t19)
def vms (rec : Y1 → Int → Int → Int → Int → Int → Z4) (l0 : Y1) (x3 t10 t11 t18 t19 : Int) : Z4 :=
  rec l0 x3 t10 t11 t18 (IntKind.i64.wrap (t19 + (1 : Int)))
def vmq (L8 : Y1 → Int → Int → Int → Int → Int → Int → Int → Int → Z4) (k : Y1 → Int → Int → Z4) (l0 : Y1) (x3 t10 t11 t18 t19 : Int) : Z4 :=
  cond (decide (t19 < t18))
  ((l0).bind fun xq3 =>
  L8 l0 x3 t19 t10 t11 t18 t19 (xq3.1.length : Int) (0 : Int))
  (k l0 t10 t11)
def vgi (rec : Y1 → Int → Int → Z4) (l0 : Y1) (t10 t11 : Int) : Z4 :=
  rec l0 t10 (IntKind.i64.wrap (t11 + (1 : Int)))
def vpb (L5 : Y1 → Int → Int → Int → Int → Int → Z4) (k : Z4) (l0 : Y1) (t10 t11 : Int) : Z4 :=
  cond (decide (t11 < t10))
  ((l0).bind fun xq2 =>
  L5 l0 t11 t10 t11 (xq2.1.length : Int) (0 : Int))
  (k)
def vhk : Z4 :=
  some (none, (()))
def vaxj (L2 : Y1 → Int → Int → Z4) (l_0 : Y1) : Z4 :=
  (l_0).bind fun xq1 =>
  L2 l_0 (xq1.1.length : Int) (0 : Int)
def vadh (N : Nat) (k : Y1 → Int → Int → Int → Int → Int → Z4) : Nat → Y1 → Int → Int → Int → Int → Int → Int → Int → Int → Z4
  | 0, _, _, _, _, _, _, _, _, _ => none
  | m + 1, l0, x3, y4, t10, t11, t18, t19, t26, t27 => vnn (vadh N k m) k l0 x3 y4 t10 t11 t18 t19 t26 t27
def vrm (N : Nat) (rec : Y1 → Int → Int → Int → Int → Int → Z4) (k : Y1 → Int → Int → Z4) (l0 : Y1) (x3 y4 t10 t11 t18 t19 t26 t27 : Int) : Z4 := vadh N (vms rec) N l0 x3 y4 t10 t11 t18 t19 t26 t27
def vzi (N : Nat) (k : Y1 → Int → Int → Z4) : Nat → Y1 → Int → Int → Int → Int → Int → Z4
  | 0, _, _, _, _, _, _ => none
  | m + 1, l0, x3, t10, t11, t18, t19 => vmq (vrm N (vzi N k m) k) k l0 x3 t10 t11 t18 t19
def vst (N : Nat) (rec : Y1 → Int → Int → Z4) (k : Z4) (l0 : Y1) (x3 t10 t11 t18 t19 : Int) : Z4 := vzi N (vgi rec) N l0 x3 t10 t11 t18 t19
def vaev (N : Nat) (k : Z4) : Nat → Y1 → Int → Int → Z4
  | 0, _, _, _ => none
  | m + 1, l0, t10, t11 => vpb (vst N (vaev N k m) k) k l0 t10 t11
def vaqb (N : Nat) (l0 : Y1) (t10 t11 : Int) : Z4 := vaev N (vhk) N l0 t10 t11
def zz56 (N : Nat) (l_0 : Y1) : Z4 := vaxj (vaqb N) l_0
def S_zz56 : Sig := { a := (.pair Q2 .unit), md := [0], mf := [], m := .unit, r := (.ns I), rf := .i, f := fun x => zz56 big x.1 }
def A_zz56 : Cfg := mkCfg tab [] [(4, [.as Q2 .i, .drop, .drop, .drop, .drop, .drop, .drop, .drop, .drop, .drop, .as I .i, .as I .i]), (10, [.as Q2 .i, .drop, .drop, .as I .i, .drop, .drop, .drop, .drop, .drop, .drop, .as I .i, .as I .i, .drop, .drop, .drop, .drop, .drop, .drop, .as I .i, .as I .i]), (31, []), (16, [.as Q2 .i, .drop, .drop, .as I .i, .as I .i, .drop, .drop, .drop, .drop, .drop, .as I .i, .as I .i, .drop, .drop, .drop, .drop, .drop, .drop, .as I .i, .as I .i, .drop, .drop, .drop, .drop, .drop, .drop, .as I .i, .as I .i]), (29, [.as Q2 .i, .drop, .drop, .drop, .drop, .drop, .drop, .drop, .drop, .drop, .as I .i, .as I .i]), (27, [.as Q2 .i, .drop, .drop, .as I .i, .drop, .drop, .drop, .drop, .drop, .drop, .as I .i, .as I .i, .drop, .drop, .drop, .drop, .drop, .drop, .as I .i, .as I .i])]
noncomputable def vgv (N n : Nat) (K : Ex → St → Z4) (l0 : Y1) (t10 t11 : Int) : Z4 := iter ((A_zz56).shape 4) (run (A_zz56) N (codeAt Try.f53 [1, 0, 1, 0, 0])) n ([W6 l0, .u, .u, .u, .u, .u, .u, .u, .u, .u, W0 t10, W0 t11] ++ List.replicate 76 .u) K
noncomputable def vfn (N n : Nat) (K : Ex → St → Z4) (l0 : Y1) (x3 t10 t11 t18 t19 : Int) : Z4 := iter ((A_zz56).shape 10) (run (A_zz56) N (codeAt Try.f53 [1, 0, 1, 0, 0, 1, 1, 0, 0, 1, 1, 0, 0])) n ([W6 l0, .u, .u, W0 x3, .u, .u, .u, .u, .u, .u, W0 t10, W0 t11, .u, .u, .u, .u, .u, .u, W0 t18, W0 t19] ++ List.replicate 68 .u) K
noncomputable def via (N n : Nat) (K : Ex → St → Z4) (l0 : Y1) (x3 y4 t10 t11 t18 t19 t26 t27 : Int) : Z4 := iter ((A_zz56).shape 16) (run (A_zz56) N (codeAt Try.f53 [1, 0, 1, 0, 0, 1, 1, 0, 0, 1, 1, 0, 0, 1, 1, 0, 0, 1, 1, 0, 0])) n ([W6 l0, .u, .u, W0 x3, W0 y4, .u, .u, .u, .u, .u, W0 t10, W0 t11, .u, .u, .u, .u, .u, .u, W0 t18, W0 t19, .u, .u, .u, .u, .u, .u, W0 t26, W0 t27] ++ List.replicate 60 .u) K
noncomputable abbrev vwa : Ex → St → Z4 := finish (A_zz56) S_zz56 Try.f53.results.toList
noncomputable abbrev vyr (kX : St → Z4) : Z4 := kX ([] ++ List.replicate 88 .u)
noncomputable abbrev vka (kX : St → Z4) (kO : Nat → St → Z4) : Ex → St → Z4 := exK vwa 0 ((A_zz56).shape 31) kX kO
noncomputable abbrev vyi (kX : St → Z4) (l0 : Y1) (t10 t11 : Int) : Z4 := kX ([W6 l0, .u, .u, .u, .u, .u, .u, .u, .u, .u, W0 t10, W0 t11] ++ List.replicate 76 .u)
noncomputable abbrev vjl (kX : St → Z4) (kO : Nat → St → Z4) : Ex → St → Z4 := exK vwa 2 ((A_zz56).shape 29) kX kO
noncomputable abbrev vaoe (kX : St → Z4) (l0 : Y1) (x3 t10 t11 t18 t19 : Int) : Z4 := kX ([W6 l0, .u, .u, W0 x3, .u, .u, .u, .u, .u, .u, W0 t10, W0 t11, .u, .u, .u, .u, .u, .u, W0 t18, W0 t19] ++ List.replicate 68 .u)
noncomputable abbrev vaba (kX : St → Z4) (kO : Nat → St → Z4) : Ex → St → Z4 := exK vwa 4 ((A_zz56).shape 27) kX kO
theorem vaka (N kX kO) : ∀ n, via N n (vaba kX kO) = vadh N (vaoe kX) n
 | 0 => rfl
 | m + 1 => (show via N (m + 1) (vaba kX kO) = vnn (via N m (vaba kX kO)) (vaoe kX) by kernel_rfl).trans (by rw [vaka N kX kO m]; funext _ _ _ _ _ _ _ _ _; rfl)
noncomputable abbrev vadd (N m : Nat) (kX : St → Z4) (kO : Nat → St → Z4) : Ex → St → Z4 := (blockK 4 (blockK 3 (sqK (A_zz56) N 27 500013 (codeAt Try.f53 [1, 0, 1, 0, 0, 1, 1, 0, 0, 1, 1, 0, 0, 1, 1, 1]) (itK (A_zz56) N 10 (codeAt Try.f53 [1, 0, 1, 0, 0, 1, 1, 0, 0, 1, 1, 0, 0]) m (vjl kX kO)))))
noncomputable abbrev vbca (N m : Nat) (kX : St → Z4) (kO : Nat → St → Z4) (st' : St) : Z4 := run (A_zz56) N (codeAt Try.f53 [1, 0, 1, 0, 0, 1, 1, 0, 0, 1, 1, 0, 0, 1, 1, 1]) st' (itK (A_zz56) N 10 (codeAt Try.f53 [1, 0, 1, 0, 0, 1, 1, 0, 0, 1, 1, 0, 0]) m (vjl kX kO))
theorem vbpi (N m kX kO) {r} (h : vfn N m (vjl kX kO) = r) : via N N (vadd N m kX kO) = vrm N r (vyi kX) := by
 rw [show via N N (vadd N m kX kO) = via N N (vaba (vbca N m kX kO) fun j => (vadd N m kX kO) (.exit j)) from (by funext _ _ _ _ _ _ _ _ _; exact vac (fun _ => by kernel_rfl) fun _ => by kernel_rfl), vaka, show vaoe (vbca N m kX kO) = vms (vfn N m (vjl kX kO)) by kernel_rfl, h]; rfl
theorem vamh (N kX kO) : ∀ n, vfn N n (vjl kX kO) = vzi N (vyi kX) n
 | 0 => rfl
 | m + 1 => (show vfn N (m + 1) (vjl kX kO) = vmq (via N N (vadd N m kX kO)) (vyi kX) by kernel_rfl).trans (by rw [vbpi N m kX kO (vamh N kX kO m)]; funext _ _ _ _ _ _; rfl)
noncomputable abbrev vyb (N m : Nat) (kX : St → Z4) (kO : Nat → St → Z4) : Ex → St → Z4 := (blockK 2 (blockK 1 (sqK (A_zz56) N 29 500014 (codeAt Try.f53 [1, 0, 1, 0, 0, 1, 1, 1]) (itK (A_zz56) N 4 (codeAt Try.f53 [1, 0, 1, 0, 0]) m (vka kX kO)))))
noncomputable abbrev vbbr (N m : Nat) (kX : St → Z4) (kO : Nat → St → Z4) (st' : St) : Z4 := run (A_zz56) N (codeAt Try.f53 [1, 0, 1, 0, 0, 1, 1, 1]) st' (itK (A_zz56) N 4 (codeAt Try.f53 [1, 0, 1, 0, 0]) m (vka kX kO))
theorem vbod (N m kX kO) {r} (h : vgv N m (vka kX kO) = r) : vfn N N (vyb N m kX kO) = vst N r (vyr kX) := by
 rw [show vfn N N (vyb N m kX kO) = vfn N N (vjl (vbbr N m kX kO) fun j => (vyb N m kX kO) (.exit j)) from (by funext _ _ _ _ _ _; exact vac (fun _ => by kernel_rfl) fun _ => by kernel_rfl), vamh, show vyi (vbbr N m kX kO) = vgi (vgv N m (vka kX kO)) by kernel_rfl, h]; rfl
theorem vanc (N kX kO) : ∀ n, vgv N n (vka kX kO) = vaev N (vyr kX) n
 | 0 => rfl
 | m + 1 => (show vgv N (m + 1) (vka kX kO) = vpb (vfn N N (vyb N m kX kO)) (vyr kX) by kernel_rfl).trans (by rw [vbod N m kX kO (vanc N kX kO m)]; funext _ _ _; rfl)
noncomputable abbrev vaem (N : Nat) : Ex → St → Z4 := (blockK 0 (sqK (A_zz56) N 31 500015 (codeAt Try.f53 [1, 1]) vwa))
noncomputable abbrev vbcj (N : Nat) (st' : St) : Z4 := run (A_zz56) N (codeAt Try.f53 [1, 1]) st' vwa
theorem vbnu (N) : vgv N N (vaem N) = vaqb N := by
 rw [show vgv N N (vaem N) = vgv N N (vka (vbcj N) fun j => (vaem N) (.exit j)) from (by funext _ _ _; exact vac (fun _ => by kernel_rfl) fun _ => by kernel_rfl), vanc, show vyr (vbcj N) = vhk by kernel_rfl]; rfl
theorem run0_zz56 (N : Nat) (x : (S_zz56).a.den) : runF (A_zz56) N Try.f53 S_zz56 x = (vaxj (vgv N N (vaem N)) x.1) := by kernel_rfl
theorem run_zz56 (N : Nat) (x : (S_zz56).a.den) : runF (A_zz56) N Try.f53 S_zz56 x = zz56 N x.1 := by
  refine (run0_zz56 N x).trans ?_
  rw [vbnu N]
  rfl
theorem fn_zz56 : FnOk Try.prog 53 := ⟨_, Try.func53, by kernel_rfl, by kernel_rfl⟩
theorem good_zz56 : Gx.Good Try.prog 53 S_zz56 := vaa Try.func53 (of_decide_eq_true (by kernel_rfl)) fun x r h => ⟨A_zz56, big, vad tabOk, vab (show SigsOk Try.prog [] from trivial), (run_zz56 big x).trans h⟩
def vavv (p_0 : Y2) : Option ((Bool × (Bool × Unit)) × Unit) :=
  (zz32 p_0).bind fun rq1 =>
  cond rq1.1.2.1
  ((zz56 big rq1.1.1).bind fun rq2 =>
  some ((rq2.1.isNone, rq1.1.2.1, ()), (())))
  (some ((false, rq1.1.2.1, ()), (())))
def zz57 (p_0 : Y2) : Option ((Bool × (Bool × Unit)) × Unit) := vavv p_0
def S_zz57 : Sig := { a := Q11, md := [0], mf := [], m := .unit, r := (.tup (.pair .bool (.pair .bool .unit))), rf := .i, f := fun x => zz57 x.1 }
def A_zz57 : Cfg := mkCfg tab [(52, S_zz32), (53, S_zz56)] []
theorem run_zz57 (N : Nat) (x : (S_zz57).a.den) : runF (A_zz57) N Try.f12 S_zz57 x = zz57 x.1 := by kernel_rfl
theorem fn_zz57 : FnOk Try.prog 12 := ⟨_, Try.func12, by kernel_rfl, by kernel_rfl⟩
theorem good_zz57 : Gx.Good Try.prog 12 S_zz57 := vaa Try.func12 (of_decide_eq_true (by kernel_rfl)) fun x r h => ⟨A_zz57, big, vad tabOk, vab (show SigsOk Try.prog [(52, S_zz32), (53, S_zz56)] from ⟨⟨fn_zz32, good_zz32⟩, ⟨fn_zz56, good_zz56⟩, trivial⟩), (run_zz57 big x).trans h⟩
def vok (rec : Y2 → Int → Int → Int → Int → Z0) (k : Y2 → Int → Int → Int → Z0) (p1 : Y2) (n4 x5 y6 z7 : Int) : Z0 :=
  cond (decide (z7 < n4))
  ((zz15 p1 x5 z7).bind fun rq1 =>
  cond rq1.1
  ((zz46 p1 y6 z7).bind fun rq2 =>
  (zz47 p1 x5 rq2.1).bind fun rq3 =>
  (zz47 p1 x5 y6).bind fun rq4 =>
  (zz46 p1 rq4.1 z7).bind fun rq5 =>
  cond (decide (rq3.1 ≠ rq5.1))
  (some (([x5, y6, z7], true, ()), (())))
  (rec p1 n4 x5 y6 (IntKind.i64.wrap (z7 + (1 : Int)))))
  (rec p1 n4 x5 y6 (IntKind.i64.wrap (z7 + (1 : Int)))))
  (k p1 n4 x5 y6)
def vmj (rec : Y2 → Int → Int → Int → Z0) (p1 : Y2) (n4 x5 y6 : Int) : Z0 :=
  rec p1 n4 x5 (IntKind.i64.wrap (y6 + (1 : Int)))
def vpf (L9 : Y2 → Int → Int → Int → Int → Z0) (k : Y2 → Int → Int → Z0) (p1 : Y2) (n4 x5 y6 : Int) : Z0 :=
  cond (decide (y6 < n4))
  (L9 p1 n4 x5 y6 (0 : Int))
  (k p1 n4 x5)
def vgt (rec : Y2 → Int → Int → Z0) (p1 : Y2) (n4 x5 : Int) : Z0 :=
  rec p1 n4 (IntKind.i64.wrap (x5 + (1 : Int)))
def vmr (L6 : Y2 → Int → Int → Int → Z0) (k : Z0) (p1 : Y2) (n4 x5 : Int) : Z0 :=
  cond (decide (x5 < n4))
  (L6 p1 n4 x5 (0 : Int))
  (k)
def vgs : Z0 :=
  some (([], false, ()), (()))
def vatl (L3 : Y2 → Int → Int → Z0) (p_0 : Y2) : Z0 :=
  L3 p_0 (p_0.1.length : Int) (0 : Int)
def vyd (N : Nat) (k : Y2 → Int → Int → Int → Z0) : Nat → Y2 → Int → Int → Int → Int → Z0
  | 0, _, _, _, _, _ => none
  | m + 1, p1, n4, x5, y6, z7 => vok (vyd N k m) k p1 n4 x5 y6 z7
def vsk (N : Nat) (rec : Y2 → Int → Int → Int → Z0) (k : Y2 → Int → Int → Z0) (p1 : Y2) (n4 x5 y6 z7 : Int) : Z0 := vyd N (vmj rec) N p1 n4 x5 y6 z7
def vabt (N : Nat) (k : Y2 → Int → Int → Z0) : Nat → Y2 → Int → Int → Int → Z0
  | 0, _, _, _, _ => none
  | m + 1, p1, n4, x5, y6 => vpf (vsk N (vabt N k m) k) k p1 n4 x5 y6
def vsc (N : Nat) (rec : Y2 → Int → Int → Z0) (k : Z0) (p1 : Y2) (n4 x5 y6 : Int) : Z0 := vabt N (vgt rec) N p1 n4 x5 y6
def vyq (N : Nat) (k : Z0) : Nat → Y2 → Int → Int → Z0
  | 0, _, _, _ => none
  | m + 1, p1, n4, x5 => vmr (vsc N (vyq N k m) k) k p1 n4 x5
def vaos (N : Nat) (p1 : Y2) (n4 x5 : Int) : Z0 := vyq N (vgs) N p1 n4 x5
def zz58 (N : Nat) (p_0 : Y2) : Z0 := vatl (vaos N) p_0
def S_zz58 : Sig := { a := Q11, md := [0], mf := [], m := .unit, r := Q9, rf := (.p P5 .i), f := fun x => zz58 big x.1 }
def A_zz58 : Cfg := mkCfg tab [(66, S_zz15), (46, S_zz46), (47, S_zz47)] [(6, [.drop, .as Q4 P5, .drop, .drop, .as I .i, .as I .i]), (12, [.drop, .as Q4 P5, .drop, .drop, .as I .i, .as I .i, .as I .i]), (27, []), (18, [.drop, .as Q4 P5, .drop, .drop, .as I .i, .as I .i, .as I .i, .as I .i]), (9, [.drop, .as Q4 P5, .drop, .drop, .as I .i, .as I .i]), (15, [.drop, .as Q4 P5, .drop, .drop, .as I .i, .as I .i, .as I .i])]
noncomputable def vhg (N n : Nat) (K : Ex → St → Z0) (p1 : Y2) (n4 x5 : Int) : Z0 := iter ((A_zz58).shape 6) (run (A_zz58) N (codeAt Try.f54 [1, 1, 0, 1, 0, 0])) n ([.u, W2 p1, .u, .u, W0 n4, W0 x5] ++ List.replicate 46 .u) K
noncomputable def vfj (N n : Nat) (K : Ex → St → Z0) (p1 : Y2) (n4 x5 y6 : Int) : Z0 := iter ((A_zz58).shape 12) (run (A_zz58) N (codeAt Try.f54 [1, 1, 0, 1, 0, 0, 1, 0, 0, 1, 0, 0])) n ([.u, W2 p1, .u, .u, W0 n4, W0 x5, W0 y6] ++ List.replicate 45 .u) K
noncomputable def vke (N n : Nat) (K : Ex → St → Z0) (p1 : Y2) (n4 x5 y6 z7 : Int) : Z0 := iter ((A_zz58).shape 18) (run (A_zz58) N (codeAt Try.f54 [1, 1, 0, 1, 0, 0, 1, 0, 0, 1, 0, 0, 1, 0, 0, 1, 0, 0])) n ([.u, W2 p1, .u, .u, W0 n4, W0 x5, W0 y6, W0 z7] ++ List.replicate 44 .u) K
noncomputable abbrev vxg : Ex → St → Z0 := finish (A_zz58) S_zz58 Try.f54.results.toList
noncomputable abbrev vzn (kX : St → Z0) : Z0 := kX ([] ++ List.replicate 52 .u)
noncomputable abbrev vkp (kX : St → Z0) (kO : Nat → St → Z0) : Ex → St → Z0 := exK vxg 0 ((A_zz58).shape 27) kX kO
noncomputable abbrev vaaz (kX : St → Z0) (p1 : Y2) (n4 x5 : Int) : Z0 := kX ([.u, W2 p1, .u, .u, W0 n4, W0 x5] ++ List.replicate 46 .u)
noncomputable abbrev vkf (kX : St → Z0) (kO : Nat → St → Z0) : Ex → St → Z0 := exK vxg 2 ((A_zz58).shape 9) kX kO
noncomputable abbrev vapi (kX : St → Z0) (p1 : Y2) (n4 x5 y6 : Int) : Z0 := kX ([.u, W2 p1, .u, .u, W0 n4, W0 x5, W0 y6] ++ List.replicate 45 .u)
noncomputable abbrev vabq (kX : St → Z0) (kO : Nat → St → Z0) : Ex → St → Z0 := exK vxg 4 ((A_zz58).shape 15) kX kO
theorem vaja (N kX kO) : ∀ n, vke N n (vabq kX kO) = vyd N (vapi kX) n
 | 0 => rfl
 | m + 1 => (show vke N (m + 1) (vabq kX kO) = vok (vke N m (vabq kX kO)) (vapi kX) by kernel_rfl).trans (by rw [vaja N kX kO m]; funext _ _ _ _ _; rfl)
noncomputable abbrev vadz (N m : Nat) (kX : St → Z0) (kO : Nat → St → Z0) : Ex → St → Z0 := (blockK 4 (blockK 3 (sqK (A_zz58) N 15 500007 (codeAt Try.f54 [1, 1, 0, 1, 0, 0, 1, 0, 0, 1, 0, 0, 1, 1]) (itK (A_zz58) N 12 (codeAt Try.f54 [1, 1, 0, 1, 0, 0, 1, 0, 0, 1, 0, 0]) m (vkf kX kO)))))
noncomputable abbrev vbbt (N m : Nat) (kX : St → Z0) (kO : Nat → St → Z0) (st' : St) : Z0 := run (A_zz58) N (codeAt Try.f54 [1, 1, 0, 1, 0, 0, 1, 0, 0, 1, 0, 0, 1, 1]) st' (itK (A_zz58) N 12 (codeAt Try.f54 [1, 1, 0, 1, 0, 0, 1, 0, 0, 1, 0, 0]) m (vkf kX kO))
theorem vbml (N m kX kO) {r} (h : vfj N m (vkf kX kO) = r) : vke N N (vadz N m kX kO) = vsk N r (vaaz kX) := by
 rw [show vke N N (vadz N m kX kO) = vke N N (vabq (vbbt N m kX kO) fun j => (vadz N m kX kO) (.exit j)) from (by funext _ _ _ _ _; exact vac (fun _ => by kernel_rfl) fun _ => by kernel_rfl), vaja, show vapi (vbbt N m kX kO) = vmj (vfj N m (vkf kX kO)) by kernel_rfl, h]; rfl
theorem vama (N kX kO) : ∀ n, vfj N n (vkf kX kO) = vabt N (vaaz kX) n
 | 0 => rfl
 | m + 1 => (show vfj N (m + 1) (vkf kX kO) = vpf (vke N N (vadz N m kX kO)) (vaaz kX) by kernel_rfl).trans (by rw [vbml N m kX kO (vama N kX kO m)]; funext _ _ _ _; rfl)
noncomputable abbrev vyv (N m : Nat) (kX : St → Z0) (kO : Nat → St → Z0) : Ex → St → Z0 := (blockK 2 (blockK 1 (sqK (A_zz58) N 9 500004 (codeAt Try.f54 [1, 1, 0, 1, 0, 0, 1, 1]) (itK (A_zz58) N 6 (codeAt Try.f54 [1, 1, 0, 1, 0, 0]) m (vkp kX kO)))))
noncomputable abbrev vbde (N m : Nat) (kX : St → Z0) (kO : Nat → St → Z0) (st' : St) : Z0 := run (A_zz58) N (codeAt Try.f54 [1, 1, 0, 1, 0, 0, 1, 1]) st' (itK (A_zz58) N 6 (codeAt Try.f54 [1, 1, 0, 1, 0, 0]) m (vkp kX kO))
theorem vbpn (N m kX kO) {r} (h : vhg N m (vkp kX kO) = r) : vfj N N (vyv N m kX kO) = vsc N r (vzn kX) := by
 rw [show vfj N N (vyv N m kX kO) = vfj N N (vkf (vbde N m kX kO) fun j => (vyv N m kX kO) (.exit j)) from (by funext _ _ _ _; exact vac (fun _ => by kernel_rfl) fun _ => by kernel_rfl), vama, show vaaz (vbde N m kX kO) = vgt (vhg N m (vkp kX kO)) by kernel_rfl, h]; rfl
theorem vakr (N kX kO) : ∀ n, vhg N n (vkp kX kO) = vyq N (vzn kX) n
 | 0 => rfl
 | m + 1 => (show vhg N (m + 1) (vkp kX kO) = vmr (vfj N N (vyv N m kX kO)) (vzn kX) by kernel_rfl).trans (by rw [vbpn N m kX kO (vakr N kX kO m)]; funext _ _ _; rfl)
noncomputable abbrev vach (N : Nat) : Ex → St → Z0 := (blockK 0 (sqK (A_zz58) N 27 500013 (codeAt Try.f54 [1, 1, 1]) vxg))
noncomputable abbrev vbfm (N : Nat) (st' : St) : Z0 := run (A_zz58) N (codeAt Try.f54 [1, 1, 1]) st' vxg
theorem vbno (N) : vhg N N (vach N) = vaos N := by
 rw [show vhg N N (vach N) = vhg N N (vkp (vbfm N) fun j => (vach N) (.exit j)) from (by funext _ _ _; exact vac (fun _ => by kernel_rfl) fun _ => by kernel_rfl), vakr, show vzn (vbfm N) = vgs by kernel_rfl]; rfl
theorem run0_zz58 (N : Nat) (x : (S_zz58).a.den) : runF (A_zz58) N Try.f54 S_zz58 x = (vatl (vhg N N (vach N)) x.1) := by kernel_rfl
theorem run_zz58 (N : Nat) (x : (S_zz58).a.den) : runF (A_zz58) N Try.f54 S_zz58 x = zz58 N x.1 := by
  refine (run0_zz58 N x).trans ?_
  rw [vbno N]
  rfl
theorem fn_zz58 : FnOk Try.prog 54 := ⟨_, Try.func54, by kernel_rfl, by kernel_rfl⟩
theorem good_zz58 : Gx.Good Try.prog 54 S_zz58 := vaa Try.func54 (of_decide_eq_true (by kernel_rfl)) fun x r h => ⟨A_zz58, big, vad tabOk, vab (show SigsOk Try.prog [(66, S_zz15), (46, S_zz46), (47, S_zz47)] from ⟨⟨fn_zz15, good_zz15⟩, ⟨fn_zz46, good_zz46⟩, ⟨fn_zz47, good_zz47⟩, trivial⟩), (run_zz58 big x).trans h⟩
def vawb (p_0 : Y2) : Option ((Bool × (Bool × Unit)) × Unit) :=
  (zz45 big p_0).bind fun rq1 =>
  cond (!rq1.1)
  (some ((false, false, ()), (())))
  ((zz58 big p_0).bind fun rq2 =>
  some ((!((((), rq2.1.2).2).1), true, ()), (())))
def zz59 (p_0 : Y2) : Option ((Bool × (Bool × Unit)) × Unit) := vawb p_0
def S_zz59 : Sig := { a := Q11, md := [0], mf := [], m := .unit, r := (.tup (.pair .bool (.pair .bool .unit))), rf := .i, f := fun x => zz59 x.1 }
def A_zz59 : Cfg := mkCfg tab [(45, S_zz45), (54, S_zz58)] []
theorem run_zz59 (N : Nat) (x : (S_zz59).a.den) : runF (A_zz59) N Try.f13 S_zz59 x = zz59 x.1 := by kernel_rfl
theorem fn_zz59 : FnOk Try.prog 13 := ⟨_, Try.func13, by kernel_rfl, by kernel_rfl⟩
theorem good_zz59 : Gx.Good Try.prog 13 S_zz59 := vaa Try.func13 (of_decide_eq_true (by kernel_rfl)) fun x r h => ⟨A_zz59, big, vad tabOk, vab (show SigsOk Try.prog [(45, S_zz45), (54, S_zz58)] from ⟨⟨fn_zz45, good_zz45⟩, ⟨fn_zz58, good_zz58⟩, trivial⟩), (run_zz59 big x).trans h⟩
def vnc (rec : Y1 → Int → Int → Int → Int → Int → Int → Int → Int → Z4) (k : Y1 → Int → Int → Int → Int → Int → Z4) (l0 : Y1) (x3 y4 t10 t11 t18 t19 t26 t27 : Int) : Z4 :=
  cond (decide (t27 < t26))
  ((l0).bind fun xq4 =>
  (atI xq4.2.1 x3).bind fun xq5 =>
  (l0).bind fun xq6 =>
  (atI xq6.2.2.1 y4).bind fun xq7 =>
  (atI xq7 t27).bind fun xq8 =>
  (atI xq5 xq8).bind fun xq9 =>
  (l0).bind fun xq10 =>
  (l0).bind fun xq11 =>
  (atI xq11.2.1 x3).bind fun xq12 =>
  (atI xq12 y4).bind fun xq13 =>
  (atI xq10.2.2.1 xq13).bind fun xq14 =>
  (l0).bind fun xq15 =>
  (atI xq15.2.1 x3).bind fun xq16 =>
  (atI xq16 t27).bind fun xq17 =>
  (atI xq14 xq17).bind fun xq18 =>
  cond (decide (xq9 ≠ xq18))
  (some ((some [x3, y4, t27]), (())))
  (rec l0 x3 y4 t10 t11 t18 t19 t26 (IntKind.i64.wrap (t27 + (1 : Int)))))
  (k l0 x3 t10 t11 t18 t19)
def vog (rec : Y1 → Int → Int → Int → Int → Int → Z4) (l0 : Y1) (x3 t10 t11 t18 t19 : Int) : Z4 :=
  rec l0 x3 t10 t11 t18 (IntKind.i64.wrap (t19 + (1 : Int)))
def vod (L8 : Y1 → Int → Int → Int → Int → Int → Int → Int → Int → Z4) (k : Y1 → Int → Int → Z4) (l0 : Y1) (x3 t10 t11 t18 t19 : Int) : Z4 :=
  cond (decide (t19 < t18))
  ((l0).bind fun xq3 =>
  L8 l0 x3 t19 t10 t11 t18 t19 (xq3.1.length : Int) (0 : Int))
  (k l0 t10 t11)
def vfl (rec : Y1 → Int → Int → Z4) (l0 : Y1) (t10 t11 : Int) : Z4 :=
  rec l0 t10 (IntKind.i64.wrap (t11 + (1 : Int)))
def vmk (L5 : Y1 → Int → Int → Int → Int → Int → Z4) (k : Z4) (l0 : Y1) (t10 t11 : Int) : Z4 :=
  cond (decide (t11 < t10))
  ((l0).bind fun xq2 =>
  L5 l0 t11 t10 t11 (xq2.1.length : Int) (0 : Int))
  (k)
def vhe : Z4 :=
  some (none, (()))
def vayh (L2 : Y1 → Int → Int → Z4) (l_0 : Y1) : Z4 :=
  (l_0).bind fun xq1 =>
  L2 l_0 (xq1.1.length : Int) (0 : Int)
def vzz (N : Nat) (k : Y1 → Int → Int → Int → Int → Int → Z4) : Nat → Y1 → Int → Int → Int → Int → Int → Int → Int → Int → Z4
  | 0, _, _, _, _, _, _, _, _, _ => none
  | m + 1, l0, x3, y4, t10, t11, t18, t19, t26, t27 => vnc (vzz N k m) k l0 x3 y4 t10 t11 t18 t19 t26 t27
def vrl (N : Nat) (rec : Y1 → Int → Int → Int → Int → Int → Z4) (k : Y1 → Int → Int → Z4) (l0 : Y1) (x3 y4 t10 t11 t18 t19 t26 t27 : Int) : Z4 := vzz N (vog rec) N l0 x3 y4 t10 t11 t18 t19 t26 t27
def vyj (N : Nat) (k : Y1 → Int → Int → Z4) : Nat → Y1 → Int → Int → Int → Int → Int → Z4
  | 0, _, _, _, _, _, _ => none
  | m + 1, l0, x3, t10, t11, t18, t19 => vod (vrl N (vyj N k m) k) k l0 x3 t10 t11 t18 t19
def vrt (N : Nat) (rec : Y1 → Int → Int → Z4) (k : Z4) (l0 : Y1) (x3 t10 t11 t18 t19 : Int) : Z4 := vyj N (vfl rec) N l0 x3 t10 t11 t18 t19
def vxl (N : Nat) (k : Z4) : Nat → Y1 → Int → Int → Z4
  | 0, _, _, _ => none
  | m + 1, l0, t10, t11 => vmk (vrt N (vxl N k m) k) k l0 t10 t11
def vapq (N : Nat) (l0 : Y1) (t10 t11 : Int) : Z4 := vxl N (vhe) N l0 t10 t11
def zz60 (N : Nat) (l_0 : Y1) : Z4 := vayh (vapq N) l_0
def S_zz60 : Sig := { a := (.pair Q2 .unit), md := [0], mf := [], m := .unit, r := (.ns I), rf := .i, f := fun x => zz60 big x.1 }
def A_zz60 : Cfg := mkCfg tab [] [(4, [.as Q2 .i, .drop, .drop, .drop, .drop, .drop, .drop, .drop, .drop, .drop, .as I .i, .as I .i]), (10, [.as Q2 .i, .drop, .drop, .as I .i, .drop, .drop, .drop, .drop, .drop, .drop, .as I .i, .as I .i, .drop, .drop, .drop, .drop, .drop, .drop, .as I .i, .as I .i]), (31, []), (16, [.as Q2 .i, .drop, .drop, .as I .i, .as I .i, .drop, .drop, .drop, .drop, .drop, .as I .i, .as I .i, .drop, .drop, .drop, .drop, .drop, .drop, .as I .i, .as I .i, .drop, .drop, .drop, .drop, .drop, .drop, .as I .i, .as I .i]), (29, [.as Q2 .i, .drop, .drop, .drop, .drop, .drop, .drop, .drop, .drop, .drop, .as I .i, .as I .i]), (27, [.as Q2 .i, .drop, .drop, .as I .i, .drop, .drop, .drop, .drop, .drop, .drop, .as I .i, .as I .i, .drop, .drop, .drop, .drop, .drop, .drop, .as I .i, .as I .i])]
noncomputable def vgb (N n : Nat) (K : Ex → St → Z4) (l0 : Y1) (t10 t11 : Int) : Z4 := iter ((A_zz60).shape 4) (run (A_zz60) N (codeAt Try.f55 [1, 0, 1, 0, 0])) n ([W6 l0, .u, .u, .u, .u, .u, .u, .u, .u, .u, W0 t10, W0 t11] ++ List.replicate 73 .u) K
noncomputable def vge (N n : Nat) (K : Ex → St → Z4) (l0 : Y1) (x3 t10 t11 t18 t19 : Int) : Z4 := iter ((A_zz60).shape 10) (run (A_zz60) N (codeAt Try.f55 [1, 0, 1, 0, 0, 1, 1, 0, 0, 1, 1, 0, 0])) n ([W6 l0, .u, .u, W0 x3, .u, .u, .u, .u, .u, .u, W0 t10, W0 t11, .u, .u, .u, .u, .u, .u, W0 t18, W0 t19] ++ List.replicate 65 .u) K
noncomputable def vif (N n : Nat) (K : Ex → St → Z4) (l0 : Y1) (x3 y4 t10 t11 t18 t19 t26 t27 : Int) : Z4 := iter ((A_zz60).shape 16) (run (A_zz60) N (codeAt Try.f55 [1, 0, 1, 0, 0, 1, 1, 0, 0, 1, 1, 0, 0, 1, 1, 0, 0, 1, 1, 0, 0])) n ([W6 l0, .u, .u, W0 x3, W0 y4, .u, .u, .u, .u, .u, W0 t10, W0 t11, .u, .u, .u, .u, .u, .u, W0 t18, W0 t19, .u, .u, .u, .u, .u, .u, W0 t26, W0 t27] ++ List.replicate 57 .u) K
noncomputable abbrev vxd : Ex → St → Z4 := finish (A_zz60) S_zz60 Try.f55.results.toList
noncomputable abbrev vaai (kX : St → Z4) : Z4 := kX ([] ++ List.replicate 85 .u)
noncomputable abbrev vkb (kX : St → Z4) (kO : Nat → St → Z4) : Ex → St → Z4 := exK vxd 0 ((A_zz60).shape 31) kX kO
noncomputable abbrev vacz (kX : St → Z4) (l0 : Y1) (t10 t11 : Int) : Z4 := kX ([W6 l0, .u, .u, .u, .u, .u, .u, .u, .u, .u, W0 t10, W0 t11] ++ List.replicate 73 .u)
noncomputable abbrev vhz (kX : St → Z4) (kO : Nat → St → Z4) : Ex → St → Z4 := exK vxd 2 ((A_zz60).shape 29) kX kO
noncomputable abbrev vaoz (kX : St → Z4) (l0 : Y1) (x3 t10 t11 t18 t19 : Int) : Z4 := kX ([W6 l0, .u, .u, W0 x3, .u, .u, .u, .u, .u, .u, W0 t10, W0 t11, .u, .u, .u, .u, .u, .u, W0 t18, W0 t19] ++ List.replicate 65 .u)
noncomputable abbrev vaah (kX : St → Z4) (kO : Nat → St → Z4) : Ex → St → Z4 := exK vxd 4 ((A_zz60).shape 27) kX kO
theorem vair (N kX kO) : ∀ n, vif N n (vaah kX kO) = vzz N (vaoz kX) n
 | 0 => rfl
 | m + 1 => (show vif N (m + 1) (vaah kX kO) = vnc (vif N m (vaah kX kO)) (vaoz kX) by kernel_rfl).trans (by rw [vair N kX kO m]; funext _ _ _ _ _ _ _ _ _; rfl)
noncomputable abbrev vaey (N m : Nat) (kX : St → Z4) (kO : Nat → St → Z4) : Ex → St → Z4 := (blockK 4 (blockK 3 (sqK (A_zz60) N 27 500013 (codeAt Try.f55 [1, 0, 1, 0, 0, 1, 1, 0, 0, 1, 1, 0, 0, 1, 1, 1]) (itK (A_zz60) N 10 (codeAt Try.f55 [1, 0, 1, 0, 0, 1, 1, 0, 0, 1, 1, 0, 0]) m (vhz kX kO)))))
noncomputable abbrev vbec (N m : Nat) (kX : St → Z4) (kO : Nat → St → Z4) (st' : St) : Z4 := run (A_zz60) N (codeAt Try.f55 [1, 0, 1, 0, 0, 1, 1, 0, 0, 1, 1, 0, 0, 1, 1, 1]) st' (itK (A_zz60) N 10 (codeAt Try.f55 [1, 0, 1, 0, 0, 1, 1, 0, 0, 1, 1, 0, 0]) m (vhz kX kO))
theorem vbpe (N m kX kO) {r} (h : vge N m (vhz kX kO) = r) : vif N N (vaey N m kX kO) = vrl N r (vacz kX) := by
 rw [show vif N N (vaey N m kX kO) = vif N N (vaah (vbec N m kX kO) fun j => (vaey N m kX kO) (.exit j)) from (by funext _ _ _ _ _ _ _ _ _; exact vac (fun _ => by kernel_rfl) fun _ => by kernel_rfl), vair, show vaoz (vbec N m kX kO) = vog (vge N m (vhz kX kO)) by kernel_rfl, h]; rfl
theorem vakl (N kX kO) : ∀ n, vge N n (vhz kX kO) = vyj N (vacz kX) n
 | 0 => rfl
 | m + 1 => (show vge N (m + 1) (vhz kX kO) = vod (vif N N (vaey N m kX kO)) (vacz kX) by kernel_rfl).trans (by rw [vbpe N m kX kO (vakl N kX kO m)]; funext _ _ _ _ _ _; rfl)
noncomputable abbrev vadx (N m : Nat) (kX : St → Z4) (kO : Nat → St → Z4) : Ex → St → Z4 := (blockK 2 (blockK 1 (sqK (A_zz60) N 29 500014 (codeAt Try.f55 [1, 0, 1, 0, 0, 1, 1, 1]) (itK (A_zz60) N 4 (codeAt Try.f55 [1, 0, 1, 0, 0]) m (vkb kX kO)))))
noncomputable abbrev vbbp (N m : Nat) (kX : St → Z4) (kO : Nat → St → Z4) (st' : St) : Z4 := run (A_zz60) N (codeAt Try.f55 [1, 0, 1, 0, 0, 1, 1, 1]) st' (itK (A_zz60) N 4 (codeAt Try.f55 [1, 0, 1, 0, 0]) m (vkb kX kO))
theorem vbnb (N m kX kO) {r} (h : vgb N m (vkb kX kO) = r) : vge N N (vadx N m kX kO) = vrt N r (vaai kX) := by
 rw [show vge N N (vadx N m kX kO) = vge N N (vhz (vbbp N m kX kO) fun j => (vadx N m kX kO) (.exit j)) from (by funext _ _ _ _ _ _; exact vac (fun _ => by kernel_rfl) fun _ => by kernel_rfl), vakl, show vacz (vbbp N m kX kO) = vfl (vgb N m (vkb kX kO)) by kernel_rfl, h]; rfl
theorem vall (N kX kO) : ∀ n, vgb N n (vkb kX kO) = vxl N (vaai kX) n
 | 0 => rfl
 | m + 1 => (show vgb N (m + 1) (vkb kX kO) = vmk (vge N N (vadx N m kX kO)) (vaai kX) by kernel_rfl).trans (by rw [vbnb N m kX kO (vall N kX kO m)]; funext _ _ _; rfl)
noncomputable abbrev vyg (N : Nat) : Ex → St → Z4 := (blockK 0 (sqK (A_zz60) N 31 500015 (codeAt Try.f55 [1, 1]) vxd))
noncomputable abbrev vbbm (N : Nat) (st' : St) : Z4 := run (A_zz60) N (codeAt Try.f55 [1, 1]) st' vxd
theorem vbly (N) : vgb N N (vyg N) = vapq N := by
 rw [show vgb N N (vyg N) = vgb N N (vkb (vbbm N) fun j => (vyg N) (.exit j)) from (by funext _ _ _; exact vac (fun _ => by kernel_rfl) fun _ => by kernel_rfl), vall, show vaai (vbbm N) = vhe by kernel_rfl]; rfl
theorem run0_zz60 (N : Nat) (x : (S_zz60).a.den) : runF (A_zz60) N Try.f55 S_zz60 x = (vayh (vgb N N (vyg N)) x.1) := by kernel_rfl
theorem run_zz60 (N : Nat) (x : (S_zz60).a.den) : runF (A_zz60) N Try.f55 S_zz60 x = zz60 N x.1 := by
  refine (run0_zz60 N x).trans ?_
  rw [vbly N]
  rfl
theorem fn_zz60 : FnOk Try.prog 55 := ⟨_, Try.func55, by kernel_rfl, by kernel_rfl⟩
theorem good_zz60 : Gx.Good Try.prog 55 S_zz60 := vaa Try.func55 (of_decide_eq_true (by kernel_rfl)) fun x r h => ⟨A_zz60, big, vad tabOk, vab (show SigsOk Try.prog [] from trivial), (run_zz60 big x).trans h⟩
def vaxb (p_0 : Y2) : Option ((Bool × (Bool × Unit)) × Unit) :=
  (zz32 p_0).bind fun rq1 =>
  cond rq1.1.2.1
  ((zz60 big rq1.1.1).bind fun rq2 =>
  some ((rq2.1.isNone, rq1.1.2.1, ()), (())))
  (some ((false, rq1.1.2.1, ()), (())))
def zz61 (p_0 : Y2) : Option ((Bool × (Bool × Unit)) × Unit) := vaxb p_0
def S_zz61 : Sig := { a := Q11, md := [0], mf := [], m := .unit, r := (.tup (.pair .bool (.pair .bool .unit))), rf := .i, f := fun x => zz61 x.1 }
def A_zz61 : Cfg := mkCfg tab [(52, S_zz32), (55, S_zz60)] []
theorem run_zz61 (N : Nat) (x : (S_zz61).a.den) : runF (A_zz61) N Try.f14 S_zz61 x = zz61 x.1 := by kernel_rfl
theorem fn_zz61 : FnOk Try.prog 14 := ⟨_, Try.func14, by kernel_rfl, by kernel_rfl⟩
theorem good_zz61 : Gx.Good Try.prog 14 S_zz61 := vaa Try.func14 (of_decide_eq_true (by kernel_rfl)) fun x r h => ⟨A_zz61, big, vad tabOk, vab (show SigsOk Try.prog [(52, S_zz32), (55, S_zz60)] from ⟨⟨fn_zz32, good_zz32⟩, ⟨fn_zz60, good_zz60⟩, trivial⟩), (run_zz61 big x).trans h⟩
def vazz (p_0 : Y2) : Z0 :=
  (zz32 p_0).bind fun rq1 =>
  cond (!rq1.1.2.1)
  (some (([], false, ()), (())))
  ((zz56 big rq1.1.1).bind fun rq2 =>
  cond rq2.1.isNone
  (some (([], false, ()), (())))
  (some (((rq2.1.getD []), true, ()), (()))))
def zz62 (p_0 : Y2) : Z0 := vazz p_0
def S_zz62 : Sig := { a := Q11, md := [0], mf := [], m := .unit, r := Q9, rf := .i, f := fun x => zz62 x.1 }
def A_zz62 : Cfg := mkCfg tab [(52, S_zz32), (53, S_zz56)] []
theorem run_zz62 (N : Nat) (x : (S_zz62).a.den) : runF (A_zz62) N Try.f15 S_zz62 x = zz62 x.1 := by kernel_rfl
theorem fn_zz62 : FnOk Try.prog 15 := ⟨_, Try.func15, by kernel_rfl, by kernel_rfl⟩
theorem good_zz62 : Gx.Good Try.prog 15 S_zz62 := vaa Try.func15 (of_decide_eq_true (by kernel_rfl)) fun x r h => ⟨A_zz62, big, vad tabOk, vab (show SigsOk Try.prog [(52, S_zz32), (53, S_zz56)] from ⟨⟨fn_zz32, good_zz32⟩, ⟨fn_zz56, good_zz56⟩, trivial⟩), (run_zz62 big x).trans h⟩
def vave (p_0 : Y2) : Z0 :=
  (zz45 big p_0).bind fun rq1 =>
  cond (!rq1.1)
  (some (([], false, ()), (())))
  ((zz58 big p_0).bind fun rq2 =>
  some ((rq2.1.1, (((), rq2.1.2).2).1, ()), (())))
def zz63 (p_0 : Y2) : Z0 := vave p_0
def S_zz63 : Sig := { a := Q11, md := [0], mf := [], m := .unit, r := Q9, rf := (.p P5 .i), f := fun x => zz63 x.1 }
def A_zz63 : Cfg := mkCfg tab [(45, S_zz45), (54, S_zz58)] []
theorem run_zz63 (N : Nat) (x : (S_zz63).a.den) : runF (A_zz63) N Try.f16 S_zz63 x = zz63 x.1 := by kernel_rfl
theorem fn_zz63 : FnOk Try.prog 16 := ⟨_, Try.func16, by kernel_rfl, by kernel_rfl⟩
theorem good_zz63 : Gx.Good Try.prog 16 S_zz63 := vaa Try.func16 (of_decide_eq_true (by kernel_rfl)) fun x r h => ⟨A_zz63, big, vad tabOk, vab (show SigsOk Try.prog [(45, S_zz45), (54, S_zz58)] from ⟨⟨fn_zz45, good_zz45⟩, ⟨fn_zz58, good_zz58⟩, trivial⟩), (run_zz63 big x).trans h⟩
def vbui (o_0 : Y5) (list_1 : Y4) : Z1 :=
  (zz24 big list_1 (o_0.length : Int)).bind fun rq1 =>
  some (rq1.1, (()))
def zz64 (o_0 : Y5) (list_1 : Y4) : Z1 := vbui o_0 list_1
def S_zz64 : Sig := { a := (.pair Q6 Q12), md := [0, 0], mf := [], m := .unit, r := .bool, rf := .i, f := fun x => zz64 x.1 x.2.1 }
def A_zz64 : Cfg := mkCfg tab [(90, S_zz24)] []
theorem run_zz64 (N : Nat) (x : (S_zz64).a.den) : runF (A_zz64) N Try.f57 S_zz64 x = zz64 x.1 x.2.1 := by kernel_rfl
theorem fn_zz64 : FnOk Try.prog 57 := ⟨_, Try.func57, by kernel_rfl, by kernel_rfl⟩
theorem good_zz64 : Gx.Good Try.prog 57 S_zz64 := vaa Try.func57 (of_decide_eq_true (by kernel_rfl)) fun x r h => ⟨A_zz64, big, vad tabOk, vab (show SigsOk Try.prog [(90, S_zz24)] from ⟨⟨fn_zz24, good_zz24⟩, trivial⟩), (run_zz64 big x).trans h⟩
def vbbe (rec : Y5 → Y2 → Y2 → Int → Y4 → Int → Int → Int → Int → Z3) (k : Y5 → Y2 → Y2 → Y4 → Int → Int → Z3) (o0 : Y5) (t2 p3 : Y2) (x4 : Int) (list5 : Y4) (t10 t11 t16 t17 : Int) : Z3 :=
  cond (decide (t17 < t16))
  ((atI o0 t17).bind fun xq1 =>
  (atI xq1 x4).bind fun xq2 =>
  cond xq2
  ((appI list5 [t17]).bind fun xq3 =>
  rec o0 t2 p3 x4 xq3 t10 t11 t16 (IntKind.i64.wrap (t17 + (1 : Int))))
  (rec o0 t2 p3 x4 list5 t10 t11 t16 (IntKind.i64.wrap (t17 + (1 : Int)))))
  (k o0 t2 p3 list5 t10 t11)
def vbdw (rec : Y5 → Y2 → Y2 → Int → Int → Z3) (o0 : Y5) (t2 p3 : Y2) (list5 : Y4) (t10 t11 : Int) : Z3 :=
  (appI p3.1 [list5]).bind fun xq4 =>
  rec o0 t2 (xq4, ((), p3.2).2) t10 (IntKind.i64.wrap (t11 + (1 : Int)))
def vbbz (L7 : Y5 → Y2 → Y2 → Int → Y4 → Int → Int → Int → Int → Z3) (k : Y2 → Y2 → Z3) (o0 : Y5) (t2 p3 : Y2) (t10 t11 : Int) : Z3 :=
  cond (decide (t11 < t10))
  (L7 o0 t2 p3 t11 [] t10 t11 (o0.length : Int) (0 : Int))
  (k t2 p3)
def vbcx (t2 p3 : Y2) : Z3 :=
  some (p3, (()))
def vbkd (L3 : Y5 → Y2 → Y2 → Int → Int → Z3) (o_0 : Y5) : Z3 :=
  L3 o_0 (([] : Y3), ()) ([], ()) (o_0.length : Int) (0 : Int)
def vanw (N : Nat) (k : Y5 → Y2 → Y2 → Y4 → Int → Int → Z3) : Nat → Y5 → Y2 → Y2 → Int → Y4 → Int → Int → Int → Int → Z3
  | 0, _, _, _, _, _, _, _, _, _ => none
  | m + 1, o0, t2, p3, x4, list5, t10, t11, t16, t17 => vbbe (vanw N k m) k o0 t2 p3 x4 list5 t10 t11 t16 t17
def vbfs (N : Nat) (rec : Y5 → Y2 → Y2 → Int → Int → Z3) (k : Y2 → Y2 → Z3) (o0 : Y5) (t2 p3 : Y2) (x4 : Int) (list5 : Y4) (t10 t11 t16 t17 : Int) : Z3 := vanw N (vbdw rec) N o0 t2 p3 x4 list5 t10 t11 t16 t17
def vapm (N : Nat) (k : Y2 → Y2 → Z3) : Nat → Y5 → Y2 → Y2 → Int → Int → Z3
  | 0, _, _, _, _, _ => none
  | m + 1, o0, t2, p3, t10, t11 => vbbz (vbfs N (vapm N k m) k) k o0 t2 p3 t10 t11
def vbex (N : Nat) (o0 : Y5) (t2 p3 : Y2) (t10 t11 : Int) : Z3 := vapm N (vbcx) N o0 t2 p3 t10 t11
def zz65 (N : Nat) (o_0 : Y5) : Z3 := vbkd (vbex N) o_0
def S_zz65 : Sig := { a := (.pair Q6 .unit), md := [0], mf := [], m := .unit, r := Q0, rf := (.p P10 .i), f := fun x => zz65 big x.1 }
def A_zz65 : Cfg := mkCfg tab [] [(6, [.as Q6 .i, .drop, .as Q4 P1, .as Q4 P1, .drop, .drop, .drop, .drop, .drop, .drop, .as I .i, .as I .i]), (14, [.as Q6 .i, .drop, .as Q4 P1, .as Q4 P1, .as I .i, .as Q7 P5, .drop, .drop, .drop, .drop, .as I .i, .as I .i, .drop, .drop, .drop, .drop, .as I .i, .as I .i]), (29, [.drop, .drop, .as Q4 P1, .as Q4 P1]), (25, [.as Q6 .i, .drop, .as Q4 P1, .as Q4 P1, .drop, .as Q7 P5, .drop, .drop, .drop, .drop, .as I .i, .as I .i])]
noncomputable def vga (N n : Nat) (K : Ex → St → Z3) (o0 : Y5) (t2 p3 : Y2) (t10 t11 : Int) : Z3 := iter ((A_zz65).shape 6) (run (A_zz65) N (codeAt Try.f59 [1, 1, 0, 1, 0, 0])) n ([.val Q6 .i o0, .u, W1 t2, W1 p3, .u, .u, .u, .u, .u, .u, W0 t10, W0 t11] ++ List.replicate 28 .u) K
noncomputable def vkn (N n : Nat) (K : Ex → St → Z3) (o0 : Y5) (t2 p3 : Y2) (x4 : Int) (list5 : Y4) (t10 t11 t16 t17 : Int) : Z3 := iter ((A_zz65).shape 14) (run (A_zz65) N (codeAt Try.f59 [1, 1, 0, 1, 0, 0, 1, 1, 0, 0, 1, 1, 0, 1, 0, 0])) n ([.val Q6 .i o0, .u, W1 t2, W1 p3, W0 x4, W3 list5, .u, .u, .u, .u, W0 t10, W0 t11, .u, .u, .u, .u, W0 t16, W0 t17] ++ List.replicate 22 .u) K
noncomputable abbrev vakw : Ex → St → Z3 := finish (A_zz65) S_zz65 Try.f59.results.toList
noncomputable abbrev vacl (kX : St → Z3) (t2 p3 : Y2) : Z3 := kX ([.u, .u, W1 t2, W1 p3] ++ List.replicate 36 .u)
noncomputable abbrev vjf (kX : St → Z3) (kO : Nat → St → Z3) : Ex → St → Z3 := exK vakw 0 ((A_zz65).shape 29) kX kO
noncomputable abbrev vapu (kX : St → Z3) (o0 : Y5) (t2 p3 : Y2) (list5 : Y4) (t10 t11 : Int) : Z3 := kX ([.val Q6 .i o0, .u, W1 t2, W1 p3, .u, W3 list5, .u, .u, .u, .u, W0 t10, W0 t11] ++ List.replicate 28 .u)
noncomputable abbrev vyu (kX : St → Z3) (kO : Nat → St → Z3) : Ex → St → Z3 := exK vakw 2 ((A_zz65).shape 25) kX kO
theorem vajt (N kX kO) : ∀ n, vkn N n (vyu kX kO) = vanw N (vapu kX) n
 | 0 => rfl
 | m + 1 => (show vkn N (m + 1) (vyu kX kO) = vbbe (vkn N m (vyu kX kO)) (vapu kX) by kernel_rfl).trans (by rw [vajt N kX kO m]; funext _ _ _ _ _ _ _ _ _; rfl)
noncomputable abbrev vadr (N m : Nat) (kX : St → Z3) (kO : Nat → St → Z3) : Ex → St → Z3 := (blockK 2 (sqK (A_zz65) N 25 500012 (codeAt Try.f59 [1, 1, 0, 1, 0, 0, 1, 1, 0, 0, 1, 1, 1]) (blockK 1 (sqK (A_zz65) N 27 500013 (codeAt Try.f59 [1, 1, 0, 1, 0, 0, 1, 1, 1]) (itK (A_zz65) N 6 (codeAt Try.f59 [1, 1, 0, 1, 0, 0]) m (vjf kX kO))))))
noncomputable abbrev vbfn (N m : Nat) (kX : St → Z3) (kO : Nat → St → Z3) (st' : St) : Z3 := run (A_zz65) N (codeAt Try.f59 [1, 1, 0, 1, 0, 0, 1, 1, 0, 0, 1, 1, 1]) st' (blockK 1 (sqK (A_zz65) N 27 500013 (codeAt Try.f59 [1, 1, 0, 1, 0, 0, 1, 1, 1]) (itK (A_zz65) N 6 (codeAt Try.f59 [1, 1, 0, 1, 0, 0]) m (vjf kX kO))))
theorem vbpc (N m kX kO) {r} (h : vga N m (vjf kX kO) = r) : vkn N N (vadr N m kX kO) = vbfs N r (vacl kX) := by
 rw [show vkn N N (vadr N m kX kO) = vkn N N (vyu (vbfn N m kX kO) fun j => (vadr N m kX kO) (.exit j)) from (by funext _ _ _ _ _ _ _ _ _; exact vac (fun _ => by kernel_rfl) fun _ => by kernel_rfl), vajt, show vapu (vbfn N m kX kO) = vbdw (vga N m (vjf kX kO)) by kernel_rfl, h]; rfl
theorem vaki (N kX kO) : ∀ n, vga N n (vjf kX kO) = vapm N (vacl kX) n
 | 0 => rfl
 | m + 1 => (show vga N (m + 1) (vjf kX kO) = vbbz (vkn N N (vadr N m kX kO)) (vacl kX) by kernel_rfl).trans (by rw [vbpc N m kX kO (vaki N kX kO m)]; funext _ _ _ _ _; rfl)
noncomputable abbrev vaci (N : Nat) : Ex → St → Z3 := (blockK 0 (sqK (A_zz65) N 29 500014 (codeAt Try.f59 [1, 1, 1]) vakw))
noncomputable abbrev vbcb (N : Nat) (st' : St) : Z3 := run (A_zz65) N (codeAt Try.f59 [1, 1, 1]) st' vakw
theorem vbpj (N) : vga N N (vaci N) = vbex N := by
 rw [show vga N N (vaci N) = vga N N (vjf (vbcb N) fun j => (vaci N) (.exit j)) from (by funext _ _ _ _ _; exact vac (fun _ => by kernel_rfl) fun _ => by kernel_rfl), vaki, show vacl (vbcb N) = vbcx by kernel_rfl]; rfl
theorem run0_zz65 (N : Nat) (x : (S_zz65).a.den) : runF (A_zz65) N Try.f59 S_zz65 x = (vbkd (vga N N (vaci N)) x.1) := by kernel_rfl
theorem run_zz65 (N : Nat) (x : (S_zz65).a.den) : runF (A_zz65) N Try.f59 S_zz65 x = zz65 N x.1 := by
  refine (run0_zz65 N x).trans ?_
  rw [vbpj N]
  rfl
theorem fn_zz65 : FnOk Try.prog 59 := ⟨_, Try.func59, by kernel_rfl, by kernel_rfl⟩
theorem good_zz65 : Gx.Good Try.prog 59 S_zz65 := vaa Try.func59 (of_decide_eq_true (by kernel_rfl)) fun x r h => ⟨A_zz65, big, vad tabOk, vab (show SigsOk Try.prog [] from trivial), (run_zz65 big x).trans h⟩
def vauo (rec : Y2 → Y5 → Int → Int → Int → Int → Int → Int → Int → Int → Z6) (k : Y2 → Y5 → Int → Int → Int → Int → Int → Z6) (t4 : Y2) (o6 : Y5) (z10 x11 t71 t72 t76 t77 t81 t82 : Int) : Z6 :=
  cond (decide (t82 < t81))
  ((atI o6 x11).bind fun _ =>
  (o6[x11.toNat]?).bind fun xq14 =>
  (atI o6 x11).bind fun _ =>
  (o6[x11.toNat]?).bind fun xq15 =>
  (o6[x11.toNat]?).bind fun xq16 =>
  (atI xq16 t82).bind fun _ =>
  (o6[x11.toNat]?).bind fun xq17 =>
  (xq17[t82.toNat]?).bind fun xq18 =>
  cond xq18
  ((o6[x11.toNat]?).bind fun xq19 =>
  (atI xq19 t82).bind fun _ =>
  (o6[x11.toNat]?).bind fun xq20 =>
  (xq20[t82.toNat]?).bind fun xq21 =>
  rec t4 (o6.set x11.toNat (xq20.set t82.toNat true)) z10 x11 t71 t72 t76 t77 t81 (IntKind.i64.wrap (t82 + (1 : Int))))
  ((atI o6 x11).bind fun _ =>
  (o6[x11.toNat]?).bind fun xq22 =>
  (o6[x11.toNat]?).bind fun xq23 =>
  (atI xq23 z10).bind fun _ =>
  (o6[x11.toNat]?).bind fun xq24 =>
  (xq24[z10.toNat]?).bind fun xq25 =>
  cond xq25
  ((atI o6 z10).bind fun _ =>
  (o6[z10.toNat]?).bind fun xq26 =>
  (o6[z10.toNat]?).bind fun xq27 =>
  (atI xq27 t82).bind fun _ =>
  (o6[z10.toNat]?).bind fun xq28 =>
  (xq28[t82.toNat]?).bind fun xq29 =>
  (o6[x11.toNat]?).bind fun xq30 =>
  (atI xq30 t82).bind fun _ =>
  (o6[x11.toNat]?).bind fun xq31 =>
  (xq31[t82.toNat]?).bind fun xq32 =>
  rec t4 (o6.set x11.toNat (xq31.set t82.toNat xq29)) z10 x11 t71 t72 t76 t77 t81 (IntKind.i64.wrap (t82 + (1 : Int))))
  ((o6[x11.toNat]?).bind fun xq33 =>
  (atI xq33 t82).bind fun _ =>
  (o6[x11.toNat]?).bind fun xq34 =>
  (xq34[t82.toNat]?).bind fun xq35 =>
  rec t4 (o6.set x11.toNat (xq34.set t82.toNat false)) z10 x11 t71 t72 t76 t77 t81 (IntKind.i64.wrap (t82 + (1 : Int))))))
  (k t4 o6 z10 t71 t72 t76 t77)
def vayg (rec : Y2 → Y5 → Int → Int → Int → Int → Int → Z6) (t4 : Y2) (o6 : Y5) (z10 t71 t72 t76 t77 : Int) : Z6 :=
  rec t4 o6 z10 t71 t72 t76 (IntKind.i64.wrap (t77 + (1 : Int)))
def vaws (L23 : Y2 → Y5 → Int → Int → Int → Int → Int → Int → Int → Int → Z6) (k : Y2 → Y5 → Int → Int → Z6) (t4 : Y2) (o6 : Y5) (z10 t71 t72 t76 t77 : Int) : Z6 :=
  cond (decide (t77 < t76))
  (L23 t4 o6 z10 t77 t71 t72 t76 t77 (o6.length : Int) (0 : Int))
  (k t4 o6 t71 t72)
def vaxv (rec : Y2 → Y5 → Int → Int → Z6) (t4 : Y2) (o6 : Y5) (t71 t72 : Int) : Z6 :=
  rec t4 o6 t71 (IntKind.i64.wrap (t72 + (1 : Int)))
def vawi (L20 : Y2 → Y5 → Int → Int → Int → Int → Int → Z6) (k : Y2 → Y5 → Z6) (t4 : Y2) (o6 : Y5) (t71 t72 : Int) : Z6 :=
  cond (decide (t72 < t71))
  (L20 t4 o6 t72 t71 t72 (o6.length : Int) (0 : Int))
  (k t4 o6)
def vavz (t4 : Y2) (o6 : Y5) : Z6 :=
  (zz25 big o6).bind fun rq12 =>
  cond (!rq12.1)
  (some (((([] : Y3), ()), false, ()), (())))
  ((zz65 big o6).bind fun rq13 =>
  some ((rq13.1, true, ()), (())))
def vazy (rec : Y2 → Y5 → Z14 → Int → Int → Z6) (k : Y2 → Y5 → Z6) (t4 : Y2) (o6 : Y5) (t39 : Z14) (t40 t41 : Int) : Z6 :=
  cond (decide (t41 < t40))
  ((atI t39 t41).bind fun xq6 =>
  (zz64 o6 [xq6.1, xq6.2.1]).bind fun rq7 =>
  cond (!rq7.1)
  (some (((([] : Y3), ()), false, ()), (())))
  (cond (decide (xq6.1 = xq6.2.1))
  (some (((([] : Y3), ()), false, ()), (())))
  ((atI o6 xq6.1).bind fun _ =>
  (o6[xq6.1.toNat]?).bind fun xq8 =>
  (o6[xq6.1.toNat]?).bind fun xq9 =>
  (atI xq9 xq6.2.1).bind fun _ =>
  (o6[xq6.1.toNat]?).bind fun xq10 =>
  (xq10[xq6.2.1.toNat]?).bind fun xq11 =>
  rec t4 (o6.set xq6.1.toNat (xq10.set xq6.2.1.toNat true)) t39 t40 (IntKind.i64.wrap (t41 + (1 : Int))))))
  (k t4 o6)
def vavh (L17 : Y2 → Y5 → Int → Int → Z6) (t4 : Y2) (o6 : Y5) : Z6 :=
  L17 t4 o6 (o6.length : Int) (0 : Int)
def vbey (rec : Z14 → Y2 → Y5 → Int → Int → Z6) (k : Z14 → Y2 → Y5 → Z6) (pairs1 : Z14) (t4 : Y2) (o6 : Y5) (t28 t29 : Int) : Z6 :=
  cond (decide (t29 < t28))
  ((atI o6 t29).bind fun _ =>
  (o6[t29.toNat]?).bind fun xq2 =>
  (o6[t29.toNat]?).bind fun xq3 =>
  (atI xq3 t29).bind fun _ =>
  (o6[t29.toNat]?).bind fun xq4 =>
  (xq4[t29.toNat]?).bind fun xq5 =>
  rec pairs1 t4 (o6.set t29.toNat (xq4.set t29.toNat true)) t28 (IntKind.i64.wrap (t29 + (1 : Int))))
  (k pairs1 t4 o6)
def vbfo (L10 : Y2 → Y5 → Z14 → Int → Int → Z6) (pairs1 : Z14) (t4 : Y2) (o6 : Y5) : Z6 :=
  L10 t4 o6 pairs1 (pairs1.length : Int) (0 : Int)
def vbiq (L5 : Z14 → Y2 → Y5 → Int → Int → Z6) (n_0 : Int) (pairs_1 : Z14) : Z6 :=
  cond (decide (n_0 < (0 : Int)))
  (some (((([] : Y3), ()), false, ()), (())))
  (cond (decide ((10 : Int) < n_0))
  (some (((([] : Y3), ()), false, ()), (())))
  (cond (decide ((60 : Int) < (pairs_1.length : Int)))
  (some (((([] : Y3), ()), false, ()), (())))
  ((zz22 big n_0).bind fun rq1 =>
  L5 pairs_1 (([] : Y3), ()) rq1.1 (rq1.1.length : Int) (0 : Int))))
def vagu (N : Nat) (k : Y2 → Y5 → Int → Int → Int → Int → Int → Z6) : Nat → Y2 → Y5 → Int → Int → Int → Int → Int → Int → Int → Int → Z6
  | 0, _, _, _, _, _, _, _, _, _, _ => none
  | m + 1, t4, o6, z10, x11, t71, t72, t76, t77, t81, t82 => vauo (vagu N k m) k t4 o6 z10 x11 t71 t72 t76 t77 t81 t82
def vatq (N : Nat) (rec : Y2 → Y5 → Int → Int → Int → Int → Int → Z6) (k : Y2 → Y5 → Int → Int → Z6) (t4 : Y2) (o6 : Y5) (z10 x11 t71 t72 t76 t77 t81 t82 : Int) : Z6 := vagu N (vayg rec) N t4 o6 z10 x11 t71 t72 t76 t77 t81 t82
def vaic (N : Nat) (k : Y2 → Y5 → Int → Int → Z6) : Nat → Y2 → Y5 → Int → Int → Int → Int → Int → Z6
  | 0, _, _, _, _, _, _, _ => none
  | m + 1, t4, o6, z10, t71, t72, t76, t77 => vaws (vatq N (vaic N k m) k) k t4 o6 z10 t71 t72 t76 t77
def vaty (N : Nat) (rec : Y2 → Y5 → Int → Int → Z6) (k : Y2 → Y5 → Z6) (t4 : Y2) (o6 : Y5) (z10 t71 t72 t76 t77 : Int) : Z6 := vaic N (vaxv rec) N t4 o6 z10 t71 t72 t76 t77
def vaqc (N : Nat) (k : Z14 → Y2 → Y5 → Z6) : Nat → Z14 → Y2 → Y5 → Int → Int → Z6
  | 0, _, _, _, _, _ => none
  | m + 1, pairs1, t4, o6, t28, t29 => vbey (vaqc N k m) k pairs1 t4 o6 t28 t29
def vahh (N : Nat) (k : Y2 → Y5 → Z6) : Nat → Y2 → Y5 → Z14 → Int → Int → Z6
  | 0, _, _, _, _, _ => none
  | m + 1, t4, o6, t39, t40, t41 => vazy (vahh N k m) k t4 o6 t39 t40 t41
def vahi (N : Nat) (k : Y2 → Y5 → Z6) : Nat → Y2 → Y5 → Int → Int → Z6
  | 0, _, _, _, _ => none
  | m + 1, t4, o6, t71, t72 => vawi (vaty N (vahi N k m) k) k t4 o6 t71 t72
def vaud (N : Nat) (t4 : Y2) (o6 : Y5) (t71 t72 : Int) : Z6 := vahi N (vavz) N t4 o6 t71 t72
def vawt (N : Nat) (t4 : Y2) (o6 : Y5) (t39 : Z14) (t40 t41 : Int) : Z6 := vahh N (vavh (vaud N)) N t4 o6 t39 t40 t41
def vbcl (N : Nat) (pairs1 : Z14) (t4 : Y2) (o6 : Y5) (t28 t29 : Int) : Z6 := vaqc N (vbfo (vawt N)) N pairs1 t4 o6 t28 t29
def zz66 (N : Nat) (n_0 : Int) (pairs_1 : Z14) : Z6 := vbiq (vbcl N) n_0 pairs_1
def S_zz66 : Sig := { a := (.pair I (.pair Q14 .unit)), md := [0, 0], mf := [], m := .unit, r := (.tup (.pair Q0 (.pair .bool .unit))), rf := (.p (.p P10 .i) .i), f := fun x => zz66 big x.1 x.2.1 }
def A_zz66 : Cfg := mkCfg tab [(56, S_zz22), (57, S_zz64), (58, S_zz25), (59, S_zz65)] [(10, [.drop, .as Q14 .i, .drop, .drop, .as Q4 P1, .drop, .as Q6 P10, .drop, .drop, .drop, .drop, .drop, .drop, .drop, .drop, .drop, .drop, .drop, .drop, .drop, .drop, .drop, .drop, .drop, .drop, .drop, .drop, .drop, .as I .i, .as I .i]), (19, [.drop, .as Q14 .i, .drop, .drop, .as Q4 P1, .drop, .as Q6 P10]), (20, [.drop, .drop, .drop, .drop, .as Q4 P1, .drop, .as Q6 P10, .drop, .drop, .drop, .drop, .drop, .drop, .drop, .drop, .drop, .drop, .drop, .drop, .drop, .drop, .drop, .drop, .drop, .drop, .drop, .drop, .drop, .drop, .drop, .drop, .drop, .drop, .drop, .drop, .drop, .drop, .drop, .drop, .as Q14 .i, .as I .i, .as I .i]), (33, [.drop, .drop, .drop, .drop, .as Q4 P1, .drop, .as Q6 P10]), (34, [.drop, .drop, .drop, .drop, .as Q4 P1, .drop, .as Q6 P10, .drop, .drop, .drop, .drop, .drop, .drop, .drop, .drop, .drop, .drop, .drop, .drop, .drop, .drop, .drop, .drop, .drop, .drop, .drop, .drop, .drop, .drop, .drop, .drop, .drop, .drop, .drop, .drop, .drop, .drop, .drop, .drop, .drop, .drop, .drop, .drop, .drop, .drop, .drop, .drop, .drop, .drop, .drop, .drop, .drop, .drop, .drop, .drop, .drop, .drop, .drop, .drop, .drop, .drop, .drop, .drop, .drop, .drop, .drop, .drop, .drop, .drop, .drop, .drop, .as I .i, .as I .i]), (40, [.drop, .drop, .drop, .drop, .as Q4 P1, .drop, .as Q6 P10, .drop, .drop, .drop, .as I .i, .drop, .drop, .drop, .drop, .drop, .drop, .drop, .drop, .drop, .drop, .drop, .drop, .drop, .drop, .drop, .drop, .drop, .drop, .drop, .drop, .drop, .drop, .drop, .drop, .drop, .drop, .drop, .drop, .drop, .drop, .drop, .drop, .drop, .drop, .drop, .drop, .drop, .drop, .drop, .drop, .drop, .drop, .drop, .drop, .drop, .drop, .drop, .drop, .drop, .drop, .drop, .drop, .drop, .drop, .drop, .drop, .drop, .drop, .drop, .drop, .as I .i, .as I .i, .drop, .drop, .drop, .as I .i, .as I .i]), (59, [.drop, .drop, .drop, .drop, .as Q4 P1, .drop, .as Q6 P10]), (46, [.drop, .drop, .drop, .drop, .as Q4 P1, .drop, .as Q6 P10, .drop, .drop, .drop, .as I .i, .as I .i, .drop, .drop, .drop, .drop, .drop, .drop, .drop, .drop, .drop, .drop, .drop, .drop, .drop, .drop, .drop, .drop, .drop, .drop, .drop, .drop, .drop, .drop, .drop, .drop, .drop, .drop, .drop, .drop, .drop, .drop, .drop, .drop, .drop, .drop, .drop, .drop, .drop, .drop, .drop, .drop, .drop, .drop, .drop, .drop, .drop, .drop, .drop, .drop, .drop, .drop, .drop, .drop, .drop, .drop, .drop, .drop, .drop, .drop, .drop, .as I .i, .as I .i, .drop, .drop, .drop, .as I .i, .as I .i, .drop, .drop, .drop, .as I .i, .as I .i]), (57, [.drop, .drop, .drop, .drop, .as Q4 P1, .drop, .as Q6 P10, .drop, .drop, .drop, .drop, .drop, .drop, .drop, .drop, .drop, .drop, .drop, .drop, .drop, .drop, .drop, .drop, .drop, .drop, .drop, .drop, .drop, .drop, .drop, .drop, .drop, .drop, .drop, .drop, .drop, .drop, .drop, .drop, .drop, .drop, .drop, .drop, .drop, .drop, .drop, .drop, .drop, .drop, .drop, .drop, .drop, .drop, .drop, .drop, .drop, .drop, .drop, .drop, .drop, .drop, .drop, .drop, .drop, .drop, .drop, .drop, .drop, .drop, .drop, .drop, .as I .i, .as I .i]), (55, [.drop, .drop, .drop, .drop, .as Q4 P1, .drop, .as Q6 P10, .drop, .drop, .drop, .as I .i, .drop, .drop, .drop, .drop, .drop, .drop, .drop, .drop, .drop, .drop, .drop, .drop, .drop, .drop, .drop, .drop, .drop, .drop, .drop, .drop, .drop, .drop, .drop, .drop, .drop, .drop, .drop, .drop, .drop, .drop, .drop, .drop, .drop, .drop, .drop, .drop, .drop, .drop, .drop, .drop, .drop, .drop, .drop, .drop, .drop, .drop, .drop, .drop, .drop, .drop, .drop, .drop, .drop, .drop, .drop, .drop, .drop, .drop, .drop, .drop, .as I .i, .as I .i, .drop, .drop, .drop, .as I .i, .as I .i])]
noncomputable def vkk (N n : Nat) (K : Ex → St → Z6) (pairs1 : Z14) (t4 : Y2) (o6 : Y5) (t28 t29 : Int) : Z6 := iter ((A_zz66).shape 10) (run (A_zz66) N (codeAt Try.f17 [1, 1, 1, 0, 1, 0, 0])) n ([.u, .val Q14 .i pairs1, .u, .u, W1 t4, .u, W5 o6, .u, .u, .u, .u, .u, .u, .u, .u, .u, .u, .u, .u, .u, .u, .u, .u, .u, .u, .u, .u, .u, W0 t28, W0 t29] ++ List.replicate 95 .u) K
noncomputable def ver (N n : Nat) (K : Ex → St → Z6) (t4 : Y2) (o6 : Y5) (t39 : Z14) (t40 t41 : Int) : Z6 := iter ((A_zz66).shape 20) (run (A_zz66) N (codeAt Try.f17 [1, 1, 1, 1, 0, 1, 0, 0])) n ([.u, .u, .u, .u, W1 t4, .u, W5 o6, .u, .u, .u, .u, .u, .u, .u, .u, .u, .u, .u, .u, .u, .u, .u, .u, .u, .u, .u, .u, .u, .u, .u, .u, .u, .u, .u, .u, .u, .u, .u, .u, .val Q14 .i t39, W0 t40, W0 t41] ++ List.replicate 83 .u) K
noncomputable def vcm (N n : Nat) (K : Ex → St → Z6) (t4 : Y2) (o6 : Y5) (t71 t72 : Int) : Z6 := iter ((A_zz66).shape 34) (run (A_zz66) N (codeAt Try.f17 [1, 1, 1, 1, 1, 0, 1, 0, 0])) n ([.u, .u, .u, .u, W1 t4, .u, W5 o6, .u, .u, .u, .u, .u, .u, .u, .u, .u, .u, .u, .u, .u, .u, .u, .u, .u, .u, .u, .u, .u, .u, .u, .u, .u, .u, .u, .u, .u, .u, .u, .u, .u, .u, .u, .u, .u, .u, .u, .u, .u, .u, .u, .u, .u, .u, .u, .u, .u, .u, .u, .u, .u, .u, .u, .u, .u, .u, .u, .u, .u, .u, .u, .u, W0 t71, W0 t72] ++ List.replicate 52 .u) K
noncomputable def vcy (N n : Nat) (K : Ex → St → Z6) (t4 : Y2) (o6 : Y5) (z10 t71 t72 t76 t77 : Int) : Z6 := iter ((A_zz66).shape 40) (run (A_zz66) N (codeAt Try.f17 [1, 1, 1, 1, 1, 0, 1, 0, 0, 1, 1, 0, 0, 1, 1, 0, 0])) n ([.u, .u, .u, .u, W1 t4, .u, W5 o6, .u, .u, .u, W0 z10, .u, .u, .u, .u, .u, .u, .u, .u, .u, .u, .u, .u, .u, .u, .u, .u, .u, .u, .u, .u, .u, .u, .u, .u, .u, .u, .u, .u, .u, .u, .u, .u, .u, .u, .u, .u, .u, .u, .u, .u, .u, .u, .u, .u, .u, .u, .u, .u, .u, .u, .u, .u, .u, .u, .u, .u, .u, .u, .u, .u, W0 t71, W0 t72, .u, .u, .u, W0 t76, W0 t77] ++ List.replicate 47 .u) K
noncomputable def veh (N n : Nat) (K : Ex → St → Z6) (t4 : Y2) (o6 : Y5) (z10 x11 t71 t72 t76 t77 t81 t82 : Int) : Z6 := iter ((A_zz66).shape 46) (run (A_zz66) N (codeAt Try.f17 [1, 1, 1, 1, 1, 0, 1, 0, 0, 1, 1, 0, 0, 1, 1, 0, 0, 1, 1, 0, 0, 1, 1, 0, 0])) n ([.u, .u, .u, .u, W1 t4, .u, W5 o6, .u, .u, .u, W0 z10, W0 x11, .u, .u, .u, .u, .u, .u, .u, .u, .u, .u, .u, .u, .u, .u, .u, .u, .u, .u, .u, .u, .u, .u, .u, .u, .u, .u, .u, .u, .u, .u, .u, .u, .u, .u, .u, .u, .u, .u, .u, .u, .u, .u, .u, .u, .u, .u, .u, .u, .u, .u, .u, .u, .u, .u, .u, .u, .u, .u, .u, W0 t71, W0 t72, .u, .u, .u, W0 t76, W0 t77, .u, .u, .u, W0 t81, W0 t82] ++ List.replicate 42 .u) K
noncomputable abbrev vck : Ex → St → Z6 := finish (A_zz66) S_zz66 Try.f17.results.toList
noncomputable abbrev vapv (kX : St → Z6) (pairs1 : Z14) (t4 : Y2) (o6 : Y5) : Z6 := kX ([.u, .val Q14 .i pairs1, .u, .u, W1 t4, .u, W5 o6] ++ List.replicate 118 .u)
noncomputable abbrev vzd (kX : St → Z6) (kO : Nat → St → Z6) : Ex → St → Z6 := exK vck 0 ((A_zz66).shape 19) kX kO
noncomputable abbrev vahl (kX : St → Z6) (t4 : Y2) (o6 : Y5) : Z6 := kX ([.u, .u, .u, .u, W1 t4, .u, W5 o6] ++ List.replicate 118 .u)
noncomputable abbrev vvb (kX : St → Z6) (kO : Nat → St → Z6) : Ex → St → Z6 := exK vck 2 ((A_zz66).shape 33) kX kO
noncomputable abbrev vvo (kX : St → Z6) (t4 : Y2) (o6 : Y5) : Z6 := kX ([.u, .u, .u, .u, W1 t4, .u, W5 o6] ++ List.replicate 118 .u)
noncomputable abbrev vey (kX : St → Z6) (kO : Nat → St → Z6) : Ex → St → Z6 := exK vck 4 ((A_zz66).shape 59) kX kO
noncomputable abbrev vuv (kX : St → Z6) (t4 : Y2) (o6 : Y5) (t71 t72 : Int) : Z6 := kX ([.u, .u, .u, .u, W1 t4, .u, W5 o6, .u, .u, .u, .u, .u, .u, .u, .u, .u, .u, .u, .u, .u, .u, .u, .u, .u, .u, .u, .u, .u, .u, .u, .u, .u, .u, .u, .u, .u, .u, .u, .u, .u, .u, .u, .u, .u, .u, .u, .u, .u, .u, .u, .u, .u, .u, .u, .u, .u, .u, .u, .u, .u, .u, .u, .u, .u, .u, .u, .u, .u, .u, .u, .u, W0 t71, W0 t72] ++ List.replicate 52 .u)
noncomputable abbrev vfa (kX : St → Z6) (kO : Nat → St → Z6) : Ex → St → Z6 := exK vck 6 ((A_zz66).shape 57) kX kO
noncomputable abbrev vahy (kX : St → Z6) (t4 : Y2) (o6 : Y5) (z10 t71 t72 t76 t77 : Int) : Z6 := kX ([.u, .u, .u, .u, W1 t4, .u, W5 o6, .u, .u, .u, W0 z10, .u, .u, .u, .u, .u, .u, .u, .u, .u, .u, .u, .u, .u, .u, .u, .u, .u, .u, .u, .u, .u, .u, .u, .u, .u, .u, .u, .u, .u, .u, .u, .u, .u, .u, .u, .u, .u, .u, .u, .u, .u, .u, .u, .u, .u, .u, .u, .u, .u, .u, .u, .u, .u, .u, .u, .u, .u, .u, .u, .u, W0 t71, W0 t72, .u, .u, .u, W0 t76, W0 t77] ++ List.replicate 47 .u)
noncomputable abbrev vus (kX : St → Z6) (kO : Nat → St → Z6) : Ex → St → Z6 := exK vck 8 ((A_zz66).shape 55) kX kO
theorem vakq (N kX kO) : ∀ n, vkk N n (vzd kX kO) = vaqc N (vapv kX) n
 | 0 => rfl
 | m + 1 => (show vkk N (m + 1) (vzd kX kO) = vbey (vkk N m (vzd kX kO)) (vapv kX) by kernel_rfl).trans (by rw [vakq N kX kO m]; funext _ _ _ _ _; rfl)
noncomputable abbrev vaaq (N : Nat) : Ex → St → Z6 := (blockK 0 (sqK (A_zz66) N 19 500009 (codeAt Try.f17 [1, 1, 1, 1]) vck))
theorem vafj (N kX kO) : ∀ n, ver N n (vvb kX kO) = vahh N (vahl kX) n
 | 0 => rfl
 | m + 1 => (show ver N (m + 1) (vvb kX kO) = vazy (ver N m (vvb kX kO)) (vahl kX) by kernel_rfl).trans (by rw [vafj N kX kO m]; funext _ _ _ _ _; rfl)
noncomputable abbrev vvq (N : Nat) : Ex → St → Z6 := (blockK 2 (sqK (A_zz66) N 33 500016 (codeAt Try.f17 [1, 1, 1, 1, 1]) vck))
theorem vags (N kX kO) : ∀ n, veh N n (vus kX kO) = vagu N (vahy kX) n
 | 0 => rfl
 | m + 1 => (show veh N (m + 1) (vus kX kO) = vauo (veh N m (vus kX kO)) (vahy kX) by kernel_rfl).trans (by rw [vags N kX kO m]; funext _ _ _ _ _ _ _ _ _ _; rfl)
noncomputable abbrev vty (N m : Nat) (kX : St → Z6) (kO : Nat → St → Z6) : Ex → St → Z6 := (blockK 8 (blockK 7 (sqK (A_zz66) N 55 500027 (codeAt Try.f17 [1, 1, 1, 1, 1, 0, 1, 0, 0, 1, 1, 0, 0, 1, 1, 0, 0, 1, 1, 1]) (itK (A_zz66) N 40 (codeAt Try.f17 [1, 1, 1, 1, 1, 0, 1, 0, 0, 1, 1, 0, 0, 1, 1, 0, 0]) m (vfa kX kO)))))
noncomputable abbrev vaxc (N m : Nat) (kX : St → Z6) (kO : Nat → St → Z6) (st' : St) : Z6 := run (A_zz66) N (codeAt Try.f17 [1, 1, 1, 1, 1, 0, 1, 0, 0, 1, 1, 0, 0, 1, 1, 0, 0, 1, 1, 1]) st' (itK (A_zz66) N 40 (codeAt Try.f17 [1, 1, 1, 1, 1, 0, 1, 0, 0, 1, 1, 0, 0, 1, 1, 0, 0]) m (vfa kX kO))
theorem vbhp (N m kX kO) {r} (h : vcy N m (vfa kX kO) = r) : veh N N (vty N m kX kO) = vatq N r (vuv kX) := by
 rw [show veh N N (vty N m kX kO) = veh N N (vus (vaxc N m kX kO) fun j => (vty N m kX kO) (.exit j)) from (by funext _ _ _ _ _ _ _ _ _ _; exact vac (fun _ => by kernel_rfl) fun _ => by kernel_rfl), vags, show vahy (vaxc N m kX kO) = vayg (vcy N m (vfa kX kO)) by kernel_rfl, h]; rfl
theorem vafx (N kX kO) : ∀ n, vcy N n (vfa kX kO) = vaic N (vuv kX) n
 | 0 => rfl
 | m + 1 => (show vcy N (m + 1) (vfa kX kO) = vaws (veh N N (vty N m kX kO)) (vuv kX) by kernel_rfl).trans (by rw [vbhp N m kX kO (vafx N kX kO m)]; funext _ _ _ _ _ _ _; rfl)
noncomputable abbrev vto (N m : Nat) (kX : St → Z6) (kO : Nat → St → Z6) : Ex → St → Z6 := (blockK 6 (blockK 5 (sqK (A_zz66) N 57 500028 (codeAt Try.f17 [1, 1, 1, 1, 1, 0, 1, 0, 0, 1, 1, 1]) (itK (A_zz66) N 34 (codeAt Try.f17 [1, 1, 1, 1, 1, 0, 1, 0, 0]) m (vey kX kO)))))
noncomputable abbrev vaxu (N m : Nat) (kX : St → Z6) (kO : Nat → St → Z6) (st' : St) : Z6 := run (A_zz66) N (codeAt Try.f17 [1, 1, 1, 1, 1, 0, 1, 0, 0, 1, 1, 1]) st' (itK (A_zz66) N 34 (codeAt Try.f17 [1, 1, 1, 1, 1, 0, 1, 0, 0]) m (vey kX kO))
theorem vbhl (N m kX kO) {r} (h : vcm N m (vey kX kO) = r) : vcy N N (vto N m kX kO) = vaty N r (vvo kX) := by
 rw [show vcy N N (vto N m kX kO) = vcy N N (vfa (vaxu N m kX kO) fun j => (vto N m kX kO) (.exit j)) from (by funext _ _ _ _ _ _ _; exact vac (fun _ => by kernel_rfl) fun _ => by kernel_rfl), vafx, show vuv (vaxu N m kX kO) = vaxv (vcm N m (vey kX kO)) by kernel_rfl, h]; rfl
theorem vafv (N kX kO) : ∀ n, vcm N n (vey kX kO) = vahi N (vvo kX) n
 | 0 => rfl
 | m + 1 => (show vcm N (m + 1) (vey kX kO) = vawi (vcy N N (vto N m kX kO)) (vvo kX) by kernel_rfl).trans (by rw [vbhl N m kX kO (vafv N kX kO m)]; funext _ _ _ _; rfl)
noncomputable abbrev vum (N : Nat) : Ex → St → Z6 := (blockK 4 (sqK (A_zz66) N 59 500029 (codeAt Try.f17 [1, 1, 1, 1, 1, 1]) vck))
noncomputable abbrev vaum (N : Nat) (st' : St) : Z6 := run (A_zz66) N (codeAt Try.f17 [1, 1, 1, 1, 1, 1]) st' vck
theorem vbkj (N) : vcm N N (vum N) = vaud N := by
 rw [show vcm N N (vum N) = vcm N N (vey (vaum N) fun j => (vum N) (.exit j)) from (by funext _ _ _ _; exact vac (fun _ => by kernel_rfl) fun _ => by kernel_rfl), vafv, show vvo (vaum N) = vavz by kernel_rfl]; rfl
noncomputable abbrev vaxi (N : Nat) (st' : St) : Z6 := run (A_zz66) N (codeAt Try.f17 [1, 1, 1, 1, 1]) st' vck
theorem vbkw (N) : ver N N (vvq N) = vawt N := by
 rw [show ver N N (vvq N) = ver N N (vvb (vaxi N) fun j => (vvq N) (.exit j)) from (by funext _ _ _ _ _; exact vac (fun _ => by kernel_rfl) fun _ => by kernel_rfl), vafj, show vahl (vaxi N) = vavh (vcm N N (vum N)) by kernel_rfl, vbkj N]; rfl
noncomputable abbrev vbdn (N : Nat) (st' : St) : Z6 := run (A_zz66) N (codeAt Try.f17 [1, 1, 1, 1]) st' vck
theorem vbna (N) : vkk N N (vaaq N) = vbcl N := by
 rw [show vkk N N (vaaq N) = vkk N N (vzd (vbdn N) fun j => (vaaq N) (.exit j)) from (by funext _ _ _ _ _; exact vac (fun _ => by kernel_rfl) fun _ => by kernel_rfl), vakq, show vapv (vbdn N) = vbfo (ver N N (vvq N)) by kernel_rfl, vbkw N]; rfl
theorem run0_zz66 (N : Nat) (x : (S_zz66).a.den) : runF (A_zz66) N Try.f17 S_zz66 x = (vbiq (vkk N N (vaaq N)) x.1 x.2.1) := by kernel_rfl
theorem run_zz66 (N : Nat) (x : (S_zz66).a.den) : runF (A_zz66) N Try.f17 S_zz66 x = zz66 N x.1 x.2.1 := by
  refine (run0_zz66 N x).trans ?_
  rw [vbna N]
  rfl
theorem fn_zz66 : FnOk Try.prog 17 := ⟨_, Try.func17, by kernel_rfl, by kernel_rfl⟩
theorem good_zz66 : Gx.Good Try.prog 17 S_zz66 := vaa Try.func17 (of_decide_eq_true (by kernel_rfl)) fun x r h => ⟨A_zz66, big, vad tabOk, vab (show SigsOk Try.prog [(56, S_zz22), (57, S_zz64), (58, S_zz25), (59, S_zz65)] from ⟨⟨fn_zz22, good_zz22⟩, ⟨fn_zz64, good_zz64⟩, ⟨fn_zz25, good_zz25⟩, ⟨fn_zz65, good_zz65⟩, trivial⟩), (run_zz66 big x).trans h⟩
def vawf (p_0 q_1 : Y2) : Option ((Y1 × (Y1 × (Bool × Unit))) × Unit) :=
  (zz32 p_0).bind fun rq1 =>
  (zz32 q_1).bind fun rq2 =>
  cond rq1.1.2.1
  (some ((rq1.1.1, rq2.1.1, rq2.1.2.1, ()), (())))
  (some ((rq1.1.1, rq2.1.1, false, ()), (())))
def zz67 (p_0 q_1 : Y2) : Option ((Y1 × (Y1 × (Bool × Unit))) × Unit) := vawf p_0 q_1
def S_zz67 : Sig := { a := (.pair Q0 Q11), md := [0, 0], mf := [], m := .unit, r := (.tup (.pair Q2 (.pair Q2 (.pair .bool .unit)))), rf := .i, f := fun x => zz67 x.1 x.2.1 }
def A_zz67 : Cfg := mkCfg tab [(52, S_zz32)] []
theorem run_zz67 (N : Nat) (x : (S_zz67).a.den) : runF (A_zz67) N Try.f60 S_zz67 x = zz67 x.1 x.2.1 := by kernel_rfl
theorem fn_zz67 : FnOk Try.prog 60 := ⟨_, Try.func60, by kernel_rfl, by kernel_rfl⟩
theorem good_zz67 : Gx.Good Try.prog 60 S_zz67 := vaa Try.func60 (of_decide_eq_true (by kernel_rfl)) fun x r h => ⟨A_zz67, big, vad tabOk, vab (show SigsOk Try.prog [(52, S_zz32)] from ⟨⟨fn_zz32, good_zz32⟩, trivial⟩), (run_zz67 big x).trans h⟩
def vbke (list_0 : Y4) : Z8 :=
  (appI [] list_0).bind fun xq1 =>
  some (xq1, (()))
def zz68 (list_0 : Y4) : Z8 := vbke list_0
def S_zz68 : Sig := { a := Q12, md := [0], mf := [], m := .unit, r := Q7, rf := P5, f := fun x => zz68 x.1 }
def A_zz68 : Cfg := mkCfg tab [] []
theorem run_zz68 (N : Nat) (x : (S_zz68).a.den) : runF (A_zz68) N Try.f92 S_zz68 x = zz68 x.1 := by kernel_rfl
theorem fn_zz68 : FnOk Try.prog 92 := ⟨_, Try.func92, by kernel_rfl, by kernel_rfl⟩
theorem good_zz68 : Gx.Good Try.prog 92 S_zz68 := vaa Try.func92 (of_decide_eq_true (by kernel_rfl)) fun x r h => ⟨A_zz68, big, vad tabOk, vab (show SigsOk Try.prog [] from trivial), (run_zz68 big x).trans h⟩
def vmu (rec : Y1 → Y1 → Y4 → Int → Int → Int → Int → Int → Z1) (k : Y1 → Y1 → Y4 → Int → Int → Z1) (l0 m1 : Y1) (f2 : Y4) (x7 t12 t13 t17 t18 : Int) : Z1 :=
  cond (decide (t18 < t17))
  ((m1).bind fun xq1 =>
  (atI xq1.2.1 x7).bind fun xq2 =>
  (atI xq2 t18).bind fun xq3 =>
  cond (decide (xq3 < (f2.length : Int)))
  ((l0).bind fun xq4 =>
  (atI f2 x7).bind fun xq5 =>
  (atI xq4.2.1 xq5).bind fun xq6 =>
  (atI f2 t18).bind fun xq7 =>
  (atI xq6 xq7).bind fun xq8 =>
  (atI f2 xq3).bind fun xq9 =>
  cond (decide (xq8 ≠ xq9))
  (some (false, (())))
  ((m1).bind fun xq10 =>
  (atI xq10.2.2.1 x7).bind fun xq11 =>
  (atI xq11 t18).bind fun xq12 =>
  cond (decide (xq12 < (f2.length : Int)))
  ((l0).bind fun xq13 =>
  (atI f2 x7).bind fun xq14 =>
  (atI xq13.2.2.1 xq14).bind fun xq15 =>
  (atI f2 t18).bind fun xq16 =>
  (atI xq15 xq16).bind fun xq17 =>
  (atI f2 xq12).bind fun xq18 =>
  cond (decide (xq17 ≠ xq18))
  (some (false, (())))
  (rec l0 m1 f2 x7 t12 t13 t17 (IntKind.i64.wrap (t18 + (1 : Int)))))
  (rec l0 m1 f2 x7 t12 t13 t17 (IntKind.i64.wrap (t18 + (1 : Int))))))
  ((m1).bind fun xq19 =>
  (atI xq19.2.2.1 x7).bind fun xq20 =>
  (atI xq20 t18).bind fun xq21 =>
  cond (decide (xq21 < (f2.length : Int)))
  ((l0).bind fun xq22 =>
  (atI f2 x7).bind fun xq23 =>
  (atI xq22.2.2.1 xq23).bind fun xq24 =>
  (atI f2 t18).bind fun xq25 =>
  (atI xq24 xq25).bind fun xq26 =>
  (atI f2 xq21).bind fun xq27 =>
  cond (decide (xq26 ≠ xq27))
  (some (false, (())))
  (rec l0 m1 f2 x7 t12 t13 t17 (IntKind.i64.wrap (t18 + (1 : Int)))))
  (rec l0 m1 f2 x7 t12 t13 t17 (IntKind.i64.wrap (t18 + (1 : Int))))))
  (k l0 m1 f2 t12 t13)
def vox (rec : Y1 → Y1 → Y4 → Int → Int → Z1) (l0 m1 : Y1) (f2 : Y4) (t12 t13 : Int) : Z1 :=
  rec l0 m1 f2 t12 (IntKind.i64.wrap (t13 + (1 : Int)))
def vob (L5 : Y1 → Y1 → Y4 → Int → Int → Int → Int → Int → Z1) (k : Z1) (l0 m1 : Y1) (f2 : Y4) (t12 t13 : Int) : Z1 :=
  cond (decide (t13 < t12))
  (L5 l0 m1 f2 t13 t12 t13 (f2.length : Int) (0 : Int))
  (k)
def vfc : Z1 :=
  some (true, (()))
def vauj (L2 : Y1 → Y1 → Y4 → Int → Int → Z1) (l_0 m_1 : Y1) (f_2 : Y4) : Z1 :=
  L2 l_0 m_1 f_2 (f_2.length : Int) (0 : Int)
def vaaa (N : Nat) (k : Y1 → Y1 → Y4 → Int → Int → Z1) : Nat → Y1 → Y1 → Y4 → Int → Int → Int → Int → Int → Z1
  | 0, _, _, _, _, _, _, _, _ => none
  | m + 1, l0, m1, f2, x7, t12, t13, t17, t18 => vmu (vaaa N k m) k l0 m1 f2 x7 t12 t13 t17 t18
def vsg (N : Nat) (rec : Y1 → Y1 → Y4 → Int → Int → Z1) (k : Z1) (l0 m1 : Y1) (f2 : Y4) (x7 t12 t13 t17 t18 : Int) : Z1 := vaaa N (vox rec) N l0 m1 f2 x7 t12 t13 t17 t18
def vabm (N : Nat) (k : Z1) : Nat → Y1 → Y1 → Y4 → Int → Int → Z1
  | 0, _, _, _, _, _ => none
  | m + 1, l0, m1, f2, t12, t13 => vob (vsg N (vabm N k m) k) k l0 m1 f2 t12 t13
def vaof (N : Nat) (l0 m1 : Y1) (f2 : Y4) (t12 t13 : Int) : Z1 := vabm N (vfc) N l0 m1 f2 t12 t13
def zz69 (N : Nat) (l_0 m_1 : Y1) (f_2 : Y4) : Z1 := vauj (vaof N) l_0 m_1 f_2
def S_zz69 : Sig := { a := (.pair Q2 (.pair Q2 Q12)), md := [0, 0, 0], mf := [], m := .unit, r := .bool, rf := .i, f := fun x => zz69 big x.1 x.2.1 x.2.2.1 }
def A_zz69 : Cfg := mkCfg tab [] [(4, [.as Q2 .i, .as Q2 .i, .as Q7 .i, .drop, .drop, .drop, .drop, .drop, .drop, .drop, .drop, .drop, .as I .i, .as I .i]), (10, [.as Q2 .i, .as Q2 .i, .as Q7 .i, .drop, .drop, .drop, .drop, .as I .i, .drop, .drop, .drop, .drop, .as I .i, .as I .i, .drop, .drop, .drop, .as I .i, .as I .i]), (31, []), (29, [.as Q2 .i, .as Q2 .i, .as Q7 .i, .drop, .drop, .drop, .drop, .drop, .drop, .drop, .drop, .drop, .as I .i, .as I .i])]
noncomputable def vfq (N n : Nat) (K : Ex → St → Z1) (l0 m1 : Y1) (f2 : Y4) (t12 t13 : Int) : Z1 := iter ((A_zz69).shape 4) (run (A_zz69) N (codeAt Try.f93 [1, 0, 1, 0, 0])) n ([W6 l0, W6 m1, W4 f2, .u, .u, .u, .u, .u, .u, .u, .u, .u, W0 t12, W0 t13] ++ List.replicate 83 .u) K
noncomputable def vjq (N n : Nat) (K : Ex → St → Z1) (l0 m1 : Y1) (f2 : Y4) (x7 t12 t13 t17 t18 : Int) : Z1 := iter ((A_zz69).shape 10) (run (A_zz69) N (codeAt Try.f93 [1, 0, 1, 0, 0, 1, 1, 0, 0, 1, 1, 0, 0])) n ([W6 l0, W6 m1, W4 f2, .u, .u, .u, .u, W0 x7, .u, .u, .u, .u, W0 t12, W0 t13, .u, .u, .u, W0 t17, W0 t18] ++ List.replicate 78 .u) K
noncomputable abbrev vakm : Ex → St → Z1 := finish (A_zz69) S_zz69 Try.f93.results.toList
noncomputable abbrev vaaf (kX : St → Z1) : Z1 := kX ([] ++ List.replicate 97 .u)
noncomputable abbrev vjm (kX : St → Z1) (kO : Nat → St → Z1) : Ex → St → Z1 := exK vakm 0 ((A_zz69).shape 31) kX kO
noncomputable abbrev vaok (kX : St → Z1) (l0 m1 : Y1) (f2 : Y4) (t12 t13 : Int) : Z1 := kX ([W6 l0, W6 m1, W4 f2, .u, .u, .u, .u, .u, .u, .u, .u, .u, W0 t12, W0 t13] ++ List.replicate 83 .u)
noncomputable abbrev vacr (kX : St → Z1) (kO : Nat → St → Z1) : Ex → St → Z1 := exK vakm 2 ((A_zz69).shape 29) kX kO
theorem valg (N kX kO) : ∀ n, vjq N n (vacr kX kO) = vaaa N (vaok kX) n
 | 0 => rfl
 | m + 1 => (show vjq N (m + 1) (vacr kX kO) = vmu (vjq N m (vacr kX kO)) (vaok kX) by kernel_rfl).trans (by rw [valg N kX kO m]; funext _ _ _ _ _ _ _ _; rfl)
noncomputable abbrev vaeh (N m : Nat) (kX : St → Z1) (kO : Nat → St → Z1) : Ex → St → Z1 := (blockK 2 (blockK 1 (sqK (A_zz69) N 29 500014 (codeAt Try.f93 [1, 0, 1, 0, 0, 1, 1, 1]) (itK (A_zz69) N 4 (codeAt Try.f93 [1, 0, 1, 0, 0]) m (vjm kX kO)))))
noncomputable abbrev vbeq (N m : Nat) (kX : St → Z1) (kO : Nat → St → Z1) (st' : St) : Z1 := run (A_zz69) N (codeAt Try.f93 [1, 0, 1, 0, 0, 1, 1, 1]) st' (itK (A_zz69) N 4 (codeAt Try.f93 [1, 0, 1, 0, 0]) m (vjm kX kO))
theorem vbph (N m kX kO) {r} (h : vfq N m (vjm kX kO) = r) : vjq N N (vaeh N m kX kO) = vsg N r (vaaf kX) := by
 rw [show vjq N N (vaeh N m kX kO) = vjq N N (vacr (vbeq N m kX kO) fun j => (vaeh N m kX kO) (.exit j)) from (by funext _ _ _ _ _ _ _ _; exact vac (fun _ => by kernel_rfl) fun _ => by kernel_rfl), valg, show vaok (vbeq N m kX kO) = vox (vfq N m (vjm kX kO)) by kernel_rfl, h]; rfl
theorem vajk (N kX kO) : ∀ n, vfq N n (vjm kX kO) = vabm N (vaaf kX) n
 | 0 => rfl
 | m + 1 => (show vfq N (m + 1) (vjm kX kO) = vob (vjq N N (vaeh N m kX kO)) (vaaf kX) by kernel_rfl).trans (by rw [vbph N m kX kO (vajk N kX kO m)]; funext _ _ _ _ _; rfl)
noncomputable abbrev vada (N : Nat) : Ex → St → Z1 := (blockK 0 (sqK (A_zz69) N 31 500015 (codeAt Try.f93 [1, 1]) vakm))
noncomputable abbrev vbfh (N : Nat) (st' : St) : Z1 := run (A_zz69) N (codeAt Try.f93 [1, 1]) st' vakm
theorem vbmx (N) : vfq N N (vada N) = vaof N := by
 rw [show vfq N N (vada N) = vfq N N (vjm (vbfh N) fun j => (vada N) (.exit j)) from (by funext _ _ _ _ _; exact vac (fun _ => by kernel_rfl) fun _ => by kernel_rfl), vajk, show vaaf (vbfh N) = vfc by kernel_rfl]; rfl
theorem run0_zz69 (N : Nat) (x : (S_zz69).a.den) : runF (A_zz69) N Try.f93 S_zz69 x = (vauj (vfq N N (vada N)) x.1 x.2.1 x.2.2.1) := by kernel_rfl
theorem run_zz69 (N : Nat) (x : (S_zz69).a.den) : runF (A_zz69) N Try.f93 S_zz69 x = zz69 N x.1 x.2.1 x.2.2.1 := by
  refine (run0_zz69 N x).trans ?_
  rw [vbmx N]
  rfl
theorem fn_zz69 : FnOk Try.prog 93 := ⟨_, Try.func93, by kernel_rfl, by kernel_rfl⟩
theorem good_zz69 : Gx.Good Try.prog 93 S_zz69 := vaa Try.func93 (of_decide_eq_true (by kernel_rfl)) fun x r h => ⟨A_zz69, big, vad tabOk, vab (show SigsOk Try.prog [] from trivial), (run_zz69 big x).trans h⟩
def T_zz70 (self : Z19 → Z12) : Sig := { a := (.pair Q2 (.pair Q2 Q12)), md := [0, 0, 1], mf := [P5], m := (.pair (.any 1) .unit), r := (.ns I), rf := .i, f := self }
def vns (self_zz70 : Z19 → Z12) (rec : Y1 → Y1 → Y4 → Int → Int → Z12) (k : Y4 → Z12) (l0 m1 : Y1) (f2 : Y4) (t23 t24 : Int) : Z12 :=
  cond (decide (t24 < t23))
  ((zz33 big f2 t24).bind fun rq4 =>
  cond (!rq4.1)
  (rec l0 m1 f2 t23 (IntKind.i64.wrap (t24 + (1 : Int))))
  ((zz68 f2).bind fun rq5 =>
  (appI rq5.1 [t24]).bind fun xq6 =>
  (zz69 big l0 m1 xq6).bind fun rq7 =>
  cond (!rq7.1)
  (rec l0 m1 f2 t23 (IntKind.i64.wrap (t24 + (1 : Int))))
  ((self_zz70 (l0, m1, xq6, ())).bind fun rq8 =>
  cond rq8.1.isSome
  (some (rq8.1, ((), ())))
  (rec l0 m1 f2 t23 (IntKind.i64.wrap (t24 + (1 : Int)))))))
  (k f2)
def vpa (self_zz70 : Z19 → Z12) (f2 : Y4) : Z12 :=
  some (none, ((), ()))
def valy (self_zz70 : Z19 → Z12) (L4 : Y1 → Y1 → Y4 → Int → Int → Z12) (l_0 m_1 : Y1) (f_2 : Y4) : Z12 :=
  (m_1).bind fun xq1 =>
  cond (decide ((f_2.length : Int) = (xq1.1.length : Int)))
  ((neL f_2).bind fun xq2 =>
  some ((some xq2), ((), ())))
  ((l_0).bind fun xq3 =>
  L4 l_0 m_1 f_2 (xq3.1.length : Int) (0 : Int))
def vacs (self_zz70 : Z19 → Z12) (N : Nat) (k : Y4 → Z12) : Nat → Y1 → Y1 → Y4 → Int → Int → Z12
  | 0, _, _, _, _, _ => none
  | m + 1, l0, m1, f2, t23, t24 => vns self_zz70 (vacs self_zz70 N k m) k l0 m1 f2 t23 t24
def vaqx (self_zz70 : Z19 → Z12) (N : Nat) (l0 m1 : Y1) (f2 : Y4) (t23 t24 : Int) : Z12 := vacs self_zz70 N (vpa self_zz70) N l0 m1 f2 t23 t24
def zz70 (self_zz70 : Z19 → Z12) (N : Nat) (l_0 m_1 : Y1) (f_2 : Y4) : Z12 := valy self_zz70 (vaqx self_zz70 N) l_0 m_1 f_2
def A_zz70 (self_zz70 : Z19 → Z12) : Cfg := mkCfg tab [(91, S_zz33), (92, S_zz68), (93, S_zz69), (61, T_zz70 self_zz70)] [(8, [.as Q2 .i, .as Q2 .i, .as Q7 P5, .drop, .drop, .drop, .drop, .drop, .drop, .drop, .drop, .drop, .drop, .drop, .drop, .drop, .drop, .drop, .drop, .drop, .drop, .drop, .drop, .as I .i, .as I .i]), (27, [.drop, .drop, .as Q7 P5])]
noncomputable def vle (self_zz70 : Z19 → Z12) (N n : Nat) (K : Ex → St → Z12) (l0 m1 : Y1) (f2 : Y4) (t23 t24 : Int) : Z12 := iter ((A_zz70 self_zz70).shape 8) (run (A_zz70 self_zz70) N (codeAt Try.f61 [1, 1, 0, 1, 0, 0])) n ([W6 l0, W6 m1, W3 f2, .u, .u, .u, .u, .u, .u, .u, .u, .u, .u, .u, .u, .u, .u, .u, .u, .u, .u, .u, .u, W0 t23, W0 t24] ++ List.replicate 24 .u) K
noncomputable abbrev vaxa (self_zz70 : Z19 → Z12) : Ex → St → Z12 := finish (A_zz70 self_zz70) (T_zz70 self_zz70) Try.f61.results.toList
noncomputable abbrev vaqp (kX : St → Z12) (f2 : Y4) : Z12 := kX ([.u, .u, W3 f2] ++ List.replicate 46 .u)
noncomputable abbrev vxy (self_zz70 : Z19 → Z12) (kX : St → Z12) (kO : Nat → St → Z12) : Ex → St → Z12 := exK (vaxa self_zz70) 0 ((A_zz70 self_zz70).shape 27) kX kO
theorem vakp (self_zz70 : Z19 → Z12) (N kX kO) : ∀ n, vle self_zz70 N n (vxy self_zz70 kX kO) = vacs self_zz70 N (vaqp kX) n
 | 0 => rfl
 | m + 1 => (show vle self_zz70 N (m + 1) (vxy self_zz70 kX kO) = vns self_zz70 (vle self_zz70 N m (vxy self_zz70 kX kO)) (vaqp kX) by kernel_rfl).trans (by rw [vakp self_zz70 N kX kO m]; funext _ _ _ _ _; rfl)
noncomputable abbrev vacj (self_zz70 : Z19 → Z12) (N : Nat) : Ex → St → Z12 := (blockK 0 (sqK (A_zz70 self_zz70) N 27 500013 (codeAt Try.f61 [1, 1, 1]) (vaxa self_zz70)))
noncomputable abbrev vbbv (self_zz70 : Z19 → Z12) (N : Nat) (st' : St) : Z12 := run (A_zz70 self_zz70) N (codeAt Try.f61 [1, 1, 1]) st' (vaxa self_zz70)
theorem vblt (self_zz70 : Z19 → Z12) (N) : vle self_zz70 N N (vacj self_zz70 N) = vaqx self_zz70 N := by
 rw [show vle self_zz70 N N (vacj self_zz70 N) = vle self_zz70 N N (vxy self_zz70 (vbbv self_zz70 N) fun j => (vacj self_zz70 N) (.exit j)) from (by funext _ _ _ _ _; exact vac (fun _ => by kernel_rfl) fun _ => by kernel_rfl), vakp, show vaqp (vbbv self_zz70 N) = vpa self_zz70 by kernel_rfl]; rfl
theorem run0_zz70 (self_zz70 : Z19 → Z12) (N : Nat) (x : ((T_zz70 self_zz70)).a.den) : runF (A_zz70 self_zz70) N Try.f61 (T_zz70 self_zz70) x = (valy self_zz70 (vle self_zz70 N N (vacj self_zz70 N)) x.1 x.2.1 x.2.2.1) := by kernel_rfl
theorem run_zz70 (self_zz70 : Z19 → Z12) (N : Nat) (x : ((T_zz70 self_zz70)).a.den) : runF (A_zz70 self_zz70) N Try.f61 (T_zz70 self_zz70) x = zz70 self_zz70 N x.1 x.2.1 x.2.2.1 := by
  refine (run0_zz70 self_zz70 N x).trans ?_
  rw [vblt self_zz70 N]
  rfl
theorem fn_zz70 : FnOk Try.prog 61 := ⟨_, Try.func61, by kernel_rfl, by kernel_rfl⟩
def R_zz70 : Nat → Z19 → Z12
  | 0, _ => none
  | d + 1, x => zz70 (R_zz70 d) big x.1 x.2.1 x.2.2.1
def S_zz70 : Sig := T_zz70 (R_zz70 big)
theorem vdt : ∀ d, Gx.Good Try.prog 61 (T_zz70 (R_zz70 d))
  | 0 => fun x r h => by cases h
  | d + 1 => vaa Try.func61 (of_decide_eq_true (by kernel_rfl)) fun x r h => ⟨A_zz70 (R_zz70 d), big, vad tabOk, vab (show SigsOk Try.prog [(91, S_zz33), (92, S_zz68), (93, S_zz69), (61, T_zz70 (R_zz70 d))] from ⟨⟨fn_zz33, good_zz33⟩, ⟨fn_zz68, good_zz68⟩, ⟨fn_zz69, good_zz69⟩, ⟨fn_zz70, vdt d⟩, trivial⟩), (run_zz70 (R_zz70 d) big x).trans h⟩
theorem good_zz70 : Gx.Good Try.prog 61 S_zz70 := vdt big
def vayi (p_0 q_1 : Y2) : Z0 :=
  (zz67 p_0 q_1).bind fun rq1 =>
  cond (!rq1.1.2.2.1)
  (some (([], false, ()), (())))
  ((R_zz70 big (rq1.1.1, rq1.1.2.1, [], ())).bind fun rq2 =>
  cond rq2.1.isNone
  (some (([], false, ()), (())))
  (some (((rq2.1.getD []), true, ()), (()))))
def zz72 (p_0 q_1 : Y2) : Z0 := vayi p_0 q_1
def S_zz72 : Sig := { a := (.pair Q0 Q11), md := [0, 0], mf := [], m := .unit, r := Q9, rf := .i, f := fun x => zz72 x.1 x.2.1 }
def A_zz72 : Cfg := mkCfg tab [(60, S_zz67), (61, S_zz70)] []
theorem run_zz72 (N : Nat) (x : (S_zz72).a.den) : runF (A_zz72) N Try.f18 S_zz72 x = zz72 x.1 x.2.1 := by kernel_rfl
theorem fn_zz72 : FnOk Try.prog 18 := ⟨_, Try.func18, by kernel_rfl, by kernel_rfl⟩
theorem good_zz72 : Gx.Good Try.prog 18 S_zz72 := vaa Try.func18 (of_decide_eq_true (by kernel_rfl)) fun x r h => ⟨A_zz72, big, vad tabOk, vab (show SigsOk Try.prog [(60, S_zz67), (61, S_zz70)] from ⟨⟨fn_zz67, good_zz67⟩, ⟨fn_zz70, good_zz70⟩, trivial⟩), (run_zz72 big x).trans h⟩
def vbix (l_0 : Y4) : Z8 :=
  (appI [] l_0).bind fun xq1 =>
  some (xq1, (()))
def zz73 (l_0 : Y4) : Z8 := vbix l_0
def S_zz73 : Sig := { a := Q12, md := [0], mf := [], m := .unit, r := Q7, rf := P5, f := fun x => zz73 x.1 }
def A_zz73 : Cfg := mkCfg tab [] []
theorem run_zz73 (N : Nat) (x : (S_zz73).a.den) : runF (A_zz73) N Try.f103 S_zz73 x = zz73 x.1 := by kernel_rfl
theorem fn_zz73 : FnOk Try.prog 103 := ⟨_, Try.func103, by kernel_rfl, by kernel_rfl⟩
theorem good_zz73 : Gx.Good Try.prog 103 S_zz73 := vaa Try.func103 (of_decide_eq_true (by kernel_rfl)) fun x r h => ⟨A_zz73, big, vad tabOk, vab (show SigsOk Try.prog [] from trivial), (run_zz73 big x).trans h⟩
def vjd (rec : Y2 → Y4 → Y2 → Int → Y4 → Int → Int → Z8) (k : Y2 → Y4 → Y2 → Int → Y4 → Int → Z8) (p2 : Y2) (out5 : Y4) (dual7 : Y2) (n8 : Int) (now9 : Y4) (i10 k11 : Int) : Z8 :=
  cond (decide (k11 < i10))
  ((atI now9 i10).bind fun _ =>
  (now9[i10.toNat]?).bind fun xq5 =>
  (atI now9 k11).bind fun _ =>
  (now9[k11.toNat]?).bind fun xq6 =>
  (zz44 big p2 [xq5, xq6]).bind fun rq7 =>
  (zz10 big out5 rq7.1).bind fun rq8 =>
  (atI now9 i10).bind fun _ =>
  (now9[i10.toNat]?).bind fun xq9 =>
  (atI now9 k11).bind fun _ =>
  (now9[k11.toNat]?).bind fun xq10 =>
  (zz44 big dual7 [xq9, xq10]).bind fun rq11 =>
  (zz10 big rq8.1 rq11.1).bind fun rq12 =>
  rec p2 rq12.1 dual7 n8 now9 i10 (IntKind.i64.wrap (k11 + (1 : Int))))
  (k p2 out5 dual7 n8 now9 i10)
def vkh (rec : Y2 → Y4 → Y2 → Int → Y4 → Int → Z8) (p2 : Y2) (out5 : Y4) (dual7 : Y2) (n8 : Int) (now9 : Y4) (i10 : Int) : Z8 :=
  rec p2 out5 dual7 n8 now9 (IntKind.i64.wrap (i10 + (1 : Int)))
def vlk (L15 : Y2 → Y4 → Y2 → Int → Y4 → Int → Int → Z8) (k : Y2 → Y4 → Y2 → Int → Z8) (p2 : Y2) (out5 : Y4) (dual7 : Y2) (n8 : Int) (now9 : Y4) (i10 : Int) : Z8 :=
  cond (decide (i10 < (now9.length : Int)))
  (L15 p2 out5 dual7 n8 now9 i10 (0 : Int))
  (k p2 out5 dual7 n8)
def vcq (rec : Y2 → Y4 → Y2 → Int → Z8) (p2 : Y2) (out5 : Y4) (dual7 : Y2) (n8 : Int) : Z8 :=
  rec p2 out5 dual7 (IntKind.i64.wrap (n8 + (1 : Int)))
def vnw (L12 : Y2 → Y4 → Y2 → Int → Y4 → Int → Z8) (k : Y4 → Z8) (p2 : Y2) (out5 : Y4) (dual7 : Y2) (n8 : Int) : Z8 :=
  cond (decide (n8 < (p2.1.length : Int)))
  ((zz73 out5).bind fun rq4 =>
  L12 p2 out5 dual7 n8 rq4.1 (0 : Int))
  (k out5)
def vhl (out5 : Y4) : Z8 :=
  some (out5, (()))
def vpd (rec : Y4 → Y2 → Y4 → Int → Z8) (k : Y2 → Y4 → Z8) (some1 : Y4) (p2 : Y2) (out5 : Y4) (i6 : Int) : Z8 :=
  cond (decide (i6 < (some1.length : Int)))
  ((atI some1 i6).bind fun xq1 =>
  (zz10 big out5 xq1).bind fun rq2 =>
  rec some1 p2 rq2.1 (IntKind.i64.wrap (i6 + (1 : Int))))
  (k p2 out5)
def vnj (L8 : Y2 → Y4 → Y2 → Int → Z8) (p2 : Y2) (out5 : Y4) : Z8 :=
  (zz43 big p2).bind fun rq3 =>
  L8 p2 out5 rq3.1 (0 : Int)
def vats (L3 : Y4 → Y2 → Y4 → Int → Z8) (p_0 : Y2) (some_1 : Y4) : Z8 :=
  L3 some_1 p_0 [] (0 : Int)
def vue (N : Nat) (k : Y2 → Y4 → Y2 → Int → Y4 → Int → Z8) : Nat → Y2 → Y4 → Y2 → Int → Y4 → Int → Int → Z8
  | 0, _, _, _, _, _, _, _ => none
  | m + 1, p2, out5, dual7, n8, now9, i10, k11 => vjd (vue N k m) k p2 out5 dual7 n8 now9 i10 k11
def vpu (N : Nat) (rec : Y2 → Y4 → Y2 → Int → Y4 → Int → Z8) (k : Y2 → Y4 → Y2 → Int → Z8) (p2 : Y2) (out5 : Y4) (dual7 : Y2) (n8 : Int) (now9 : Y4) (i10 k11 : Int) : Z8 := vue N (vkh rec) N p2 out5 dual7 n8 now9 i10 k11
def vun (N : Nat) (k : Y2 → Y4 → Y2 → Int → Z8) : Nat → Y2 → Y4 → Y2 → Int → Y4 → Int → Z8
  | 0, _, _, _, _, _, _ => none
  | m + 1, p2, out5, dual7, n8, now9, i10 => vlk (vpu N (vun N k m) k) k p2 out5 dual7 n8 now9 i10
def vpq (N : Nat) (rec : Y2 → Y4 → Y2 → Int → Z8) (k : Y4 → Z8) (p2 : Y2) (out5 : Y4) (dual7 : Y2) (n8 : Int) (now9 : Y4) (i10 : Int) : Z8 := vun N (vcq rec) N p2 out5 dual7 n8 now9 i10
def vza (N : Nat) (k : Y2 → Y4 → Z8) : Nat → Y4 → Y2 → Y4 → Int → Z8
  | 0, _, _, _, _ => none
  | m + 1, some1, p2, out5, i6 => vpd (vza N k m) k some1 p2 out5 i6
def vaea (N : Nat) (k : Y4 → Z8) : Nat → Y2 → Y4 → Y2 → Int → Z8
  | 0, _, _, _, _ => none
  | m + 1, p2, out5, dual7, n8 => vnw (vpq N (vaea N k m) k) k p2 out5 dual7 n8
def voh (N : Nat) (p2 : Y2) (out5 : Y4) (dual7 : Y2) (n8 : Int) : Z8 := vaea N (vhl) N p2 out5 dual7 n8
def vaoj (N : Nat) (some1 : Y4) (p2 : Y2) (out5 : Y4) (i6 : Int) : Z8 := vza N (vnj (voh N)) N some1 p2 out5 i6
def zz74 (N : Nat) (p_0 : Y2) (some_1 : Y4) : Z8 := vats (vaoj N) p_0 some_1
def S_zz74 : Sig := { a := (.pair Q0 Q12), md := [0, 0], mf := [], m := .unit, r := Q7, rf := .i, f := fun x => zz74 big x.1 x.2.1 }
def A_zz74 : Cfg := mkCfg tab [(102, S_zz10), (78, S_zz43), (103, S_zz73), (86, S_zz44)] [(6, [.drop, .as Q7 .i, .as Q4 P5, .drop, .drop, .as Q7 .i, .as I .i]), (13, [.drop, .drop, .as Q4 P5, .drop, .drop, .as Q7 .i]), (16, [.drop, .drop, .as Q4 P5, .drop, .drop, .as Q7 .i, .drop, .as Q4 P1, .as I .i]), (24, [.drop, .drop, .as Q4 P5, .drop, .drop, .as Q7 .i, .drop, .as Q4 P1, .as I .i, .as Q7 P5, .as I .i]), (37, [.drop, .drop, .drop, .drop, .drop, .as Q7 .i]), (30, [.drop, .drop, .as Q4 P5, .drop, .drop, .as Q7 .i, .drop, .as Q4 P1, .as I .i, .as Q7 P5, .as I .i, .as I .i]), (19, [.drop, .drop, .as Q4 P5, .drop, .drop, .as Q7 .i, .drop, .as Q4 P1, .as I .i]), (27, [.drop, .drop, .as Q4 P5, .drop, .drop, .as Q7 .i, .drop, .as Q4 P1, .as I .i, .as Q7 P5, .as I .i])]
noncomputable def vix (N n : Nat) (K : Ex → St → Z8) (some1 : Y4) (p2 : Y2) (out5 : Y4) (i6 : Int) : Z8 := iter ((A_zz74).shape 6) (run (A_zz74) N (codeAt Try.f65 [1, 1, 0, 1, 0, 0])) n ([.u, W4 some1, W2 p2, .u, .u, W4 out5, W0 i6] ++ List.replicate 66 .u) K
noncomputable def vfb (N n : Nat) (K : Ex → St → Z8) (p2 : Y2) (out5 : Y4) (dual7 : Y2) (n8 : Int) : Z8 := iter ((A_zz74).shape 16) (run (A_zz74) N (codeAt Try.f65 [1, 1, 1, 1, 0, 1, 0, 0])) n ([.u, .u, W2 p2, .u, .u, W4 out5, .u, W1 dual7, W0 n8] ++ List.replicate 64 .u) K
noncomputable def vdc (N n : Nat) (K : Ex → St → Z8) (p2 : Y2) (out5 : Y4) (dual7 : Y2) (n8 : Int) (now9 : Y4) (i10 : Int) : Z8 := iter ((A_zz74).shape 24) (run (A_zz74) N (codeAt Try.f65 [1, 1, 1, 1, 0, 1, 0, 0, 1, 0, 0, 1, 1, 0, 0])) n ([.u, .u, W2 p2, .u, .u, W4 out5, .u, W1 dual7, W0 n8, W3 now9, W0 i10] ++ List.replicate 62 .u) K
noncomputable def vel (N n : Nat) (K : Ex → St → Z8) (p2 : Y2) (out5 : Y4) (dual7 : Y2) (n8 : Int) (now9 : Y4) (i10 k11 : Int) : Z8 := iter ((A_zz74).shape 30) (run (A_zz74) N (codeAt Try.f65 [1, 1, 1, 1, 0, 1, 0, 0, 1, 0, 0, 1, 1, 0, 0, 1, 0, 0, 1, 0, 0])) n ([.u, .u, W2 p2, .u, .u, W4 out5, .u, W1 dual7, W0 n8, W3 now9, W0 i10, W0 k11] ++ List.replicate 61 .u) K
noncomputable abbrev vlq : Ex → St → Z8 := finish (A_zz74) S_zz74 Try.f65.results.toList
noncomputable abbrev vaox (kX : St → Z8) (p2 : Y2) (out5 : Y4) : Z8 := kX ([.u, .u, W2 p2, .u, .u, W4 out5] ++ List.replicate 67 .u)
noncomputable abbrev vadk (kX : St → Z8) (kO : Nat → St → Z8) : Ex → St → Z8 := exK vlq 0 ((A_zz74).shape 13) kX kO
noncomputable abbrev vaal (kX : St → Z8) (out5 : Y4) : Z8 := kX ([.u, .u, .u, .u, .u, W4 out5] ++ List.replicate 67 .u)
noncomputable abbrev vij (kX : St → Z8) (kO : Nat → St → Z8) : Ex → St → Z8 := exK vlq 2 ((A_zz74).shape 37) kX kO
noncomputable abbrev vvk (kX : St → Z8) (p2 : Y2) (out5 : Y4) (dual7 : Y2) (n8 : Int) : Z8 := kX ([.u, .u, W2 p2, .u, .u, W4 out5, .u, W1 dual7, W0 n8] ++ List.replicate 64 .u)
noncomputable abbrev vee (kX : St → Z8) (kO : Nat → St → Z8) : Ex → St → Z8 := exK vlq 4 ((A_zz74).shape 19) kX kO
noncomputable abbrev vahe (kX : St → Z8) (p2 : Y2) (out5 : Y4) (dual7 : Y2) (n8 : Int) (now9 : Y4) (i10 : Int) : Z8 := kX ([.u, .u, W2 p2, .u, .u, W4 out5, .u, W1 dual7, W0 n8, W3 now9, W0 i10] ++ List.replicate 62 .u)
noncomputable abbrev vtr (kX : St → Z8) (kO : Nat → St → Z8) : Ex → St → Z8 := exK vlq 6 ((A_zz74).shape 27) kX kO
theorem vaiv (N kX kO) : ∀ n, vix N n (vadk kX kO) = vza N (vaox kX) n
 | 0 => rfl
 | m + 1 => (show vix N (m + 1) (vadk kX kO) = vpd (vix N m (vadk kX kO)) (vaox kX) by kernel_rfl).trans (by rw [vaiv N kX kO m]; funext _ _ _ _; rfl)
noncomputable abbrev vxm (N : Nat) : Ex → St → Z8 := (blockK 0 (sqK (A_zz74) N 13 500006 (codeAt Try.f65 [1, 1, 1]) vlq))
theorem vafs (N kX kO) : ∀ n, vel N n (vtr kX kO) = vue N (vahe kX) n
 | 0 => rfl
 | m + 1 => (show vel N (m + 1) (vtr kX kO) = vjd (vel N m (vtr kX kO)) (vahe kX) by kernel_rfl).trans (by rw [vafs N kX kO m]; funext _ _ _ _ _ _ _; rfl)
noncomputable abbrev vsy (N m : Nat) (kX : St → Z8) (kO : Nat → St → Z8) : Ex → St → Z8 := (blockK 6 (blockK 5 (sqK (A_zz74) N 27 500013 (codeAt Try.f65 [1, 1, 1, 1, 0, 1, 0, 0, 1, 0, 0, 1, 1, 0, 0, 1, 1]) (itK (A_zz74) N 24 (codeAt Try.f65 [1, 1, 1, 1, 0, 1, 0, 0, 1, 0, 0, 1, 1, 0, 0]) m (vee kX kO)))))
noncomputable abbrev vazd (N m : Nat) (kX : St → Z8) (kO : Nat → St → Z8) (st' : St) : Z8 := run (A_zz74) N (codeAt Try.f65 [1, 1, 1, 1, 0, 1, 0, 0, 1, 0, 0, 1, 1, 0, 0, 1, 1]) st' (itK (A_zz74) N 24 (codeAt Try.f65 [1, 1, 1, 1, 0, 1, 0, 0, 1, 0, 0, 1, 1, 0, 0]) m (vee kX kO))
theorem vbjt (N m kX kO) {r} (h : vdc N m (vee kX kO) = r) : vel N N (vsy N m kX kO) = vpu N r (vvk kX) := by
 rw [show vel N N (vsy N m kX kO) = vel N N (vtr (vazd N m kX kO) fun j => (vsy N m kX kO) (.exit j)) from (by funext _ _ _ _ _ _ _; exact vac (fun _ => by kernel_rfl) fun _ => by kernel_rfl), vafs, show vahe (vazd N m kX kO) = vkh (vdc N m (vee kX kO)) by kernel_rfl, h]; rfl
theorem vafp (N kX kO) : ∀ n, vdc N n (vee kX kO) = vun N (vvk kX) n
 | 0 => rfl
 | m + 1 => (show vdc N (m + 1) (vee kX kO) = vlk (vel N N (vsy N m kX kO)) (vvk kX) by kernel_rfl).trans (by rw [vbjt N m kX kO (vafp N kX kO m)]; funext _ _ _ _ _ _; rfl)
noncomputable abbrev vtb (N m : Nat) (kX : St → Z8) (kO : Nat → St → Z8) : Ex → St → Z8 := (blockK 4 (blockK 3 (sqK (A_zz74) N 19 500009 (codeAt Try.f65 [1, 1, 1, 1, 0, 1, 0, 0, 1, 1]) (itK (A_zz74) N 16 (codeAt Try.f65 [1, 1, 1, 1, 0, 1, 0, 0]) m (vij kX kO)))))
noncomputable abbrev vavs (N m : Nat) (kX : St → Z8) (kO : Nat → St → Z8) (st' : St) : Z8 := run (A_zz74) N (codeAt Try.f65 [1, 1, 1, 1, 0, 1, 0, 0, 1, 1]) st' (itK (A_zz74) N 16 (codeAt Try.f65 [1, 1, 1, 1, 0, 1, 0, 0]) m (vij kX kO))
theorem vbin (N m kX kO) {r} (h : vfb N m (vij kX kO) = r) : vdc N N (vtb N m kX kO) = vpq N r (vaal kX) := by
 rw [show vdc N N (vtb N m kX kO) = vdc N N (vee (vavs N m kX kO) fun j => (vtb N m kX kO) (.exit j)) from (by funext _ _ _ _ _ _; exact vac (fun _ => by kernel_rfl) fun _ => by kernel_rfl), vafp, show vvk (vavs N m kX kO) = vcq (vfb N m (vij kX kO)) by kernel_rfl, h]; rfl
theorem vakv (N kX kO) : ∀ n, vfb N n (vij kX kO) = vaea N (vaal kX) n
 | 0 => rfl
 | m + 1 => (show vfb N (m + 1) (vij kX kO) = vnw (vdc N N (vtb N m kX kO)) (vaal kX) by kernel_rfl).trans (by rw [vbin N m kX kO (vakv N kX kO m)]; funext _ _ _ _; rfl)
noncomputable abbrev vaar (N : Nat) : Ex → St → Z8 := (blockK 2 (sqK (A_zz74) N 37 500018 (codeAt Try.f65 [1, 1, 1, 1, 1]) vlq))
noncomputable abbrev vbbi (N : Nat) (st' : St) : Z8 := run (A_zz74) N (codeAt Try.f65 [1, 1, 1, 1, 1]) st' vlq
theorem vbpd (N) : vfb N N (vaar N) = voh N := by
 rw [show vfb N N (vaar N) = vfb N N (vij (vbbi N) fun j => (vaar N) (.exit j)) from (by funext _ _ _ _; exact vac (fun _ => by kernel_rfl) fun _ => by kernel_rfl), vakv, show vaal (vbbi N) = vhl by kernel_rfl]; rfl
noncomputable abbrev vbff (N : Nat) (st' : St) : Z8 := run (A_zz74) N (codeAt Try.f65 [1, 1, 1]) st' vlq
theorem vblv (N) : vix N N (vxm N) = vaoj N := by
 rw [show vix N N (vxm N) = vix N N (vadk (vbff N) fun j => (vxm N) (.exit j)) from (by funext _ _ _ _; exact vac (fun _ => by kernel_rfl) fun _ => by kernel_rfl), vaiv, show vaox (vbff N) = vnj (vfb N N (vaar N)) by kernel_rfl, vbpd N]; rfl
theorem run0_zz74 (N : Nat) (x : (S_zz74).a.den) : runF (A_zz74) N Try.f65 S_zz74 x = (vats (vix N N (vxm N)) x.1 x.2.1) := by kernel_rfl
theorem run_zz74 (N : Nat) (x : (S_zz74).a.den) : runF (A_zz74) N Try.f65 S_zz74 x = zz74 N x.1 x.2.1 := by
  refine (run0_zz74 N x).trans ?_
  rw [vblv N]
  rfl
theorem fn_zz74 : FnOk Try.prog 65 := ⟨_, Try.func65, by kernel_rfl, by kernel_rfl⟩
theorem good_zz74 : Gx.Good Try.prog 65 S_zz74 := vaa Try.func65 (of_decide_eq_true (by kernel_rfl)) fun x r h => ⟨A_zz74, big, vad tabOk, vab (show SigsOk Try.prog [(102, S_zz10), (78, S_zz43), (103, S_zz73), (86, S_zz44)] from ⟨⟨fn_zz10, good_zz10⟩, ⟨fn_zz43, good_zz43⟩, ⟨fn_zz73, good_zz73⟩, ⟨fn_zz44, good_zz44⟩, trivial⟩), (run_zz74 big x).trans h⟩
end Go.Proofs.Yteanfidobhpchaa
