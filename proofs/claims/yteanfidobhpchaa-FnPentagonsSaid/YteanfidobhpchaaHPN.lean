import Derived.Test.YteanfidobhpchaaPLib
import Derived.Test.YteanfidobhpchaaGPN
set_option linter.unusedVariables false
namespace Go.Proofs.Yteanfidobhpchaa
open Go Go.Gx Go.Proofs
theorem vbub {n1 : Int} (cnt : Nat) (Inv : Nat → Z15 → Y4 → Prop) {Q : Z17 → Prop} (hn : cnt ≤ 500000000000)
 (hs : ∀ (rc : Z15 → Int → Y4 → Int → Z17) (i : Nat) (c0 : Z15) (out5 : Y4), i < cnt → Inv i c0 out5 → (∀ (c0' : Z15) (out5' : Y4), Inv (i + 1) c0' out5' → Q (rc c0' n1 out5' ((i + 1 : Nat) : Int))) → Q (vsh rc vro c0 n1 out5 (i : Int)))
 (he : ∀ (rc : Z15 → Int → Y4 → Int → Z17) (c0 : Z15) (out5 : Y4), Inv cnt c0 out5 → Q (vsh rc vro c0 n1 out5 (cnt : Int)))
 (i0 : Nat) (hi : i0 ≤ cnt) (c0 : Z15) (out5 : Y4) (h0 : Inv i0 c0 out5) : Q (vavo big c0 n1 out5 (i0 : Int)) :=
 idxR (fun m i => ∀ (c0 : Z15) (out5 : Y4), Inv i c0 out5 → Q (vaij big vro m c0 n1 out5 (i : Int))) (fun _ i hl ih c0 out5 h => hs _ i c0 out5 hl h fun c0' out5' h4 => ih c0' out5' h4) (fun _ c0 out5 h => he _ c0 out5 h) big i0 hi (by have := vae; omega) c0 out5 h0
theorem vbtu {n0 : Int} {list1 : Y4} (cnt : Nat) (Inv : Nat → Prop) {Q : Z1 → Prop} (hn : cnt ≤ 500000000000)
 (hs : ∀ (rc : Int → Y4 → Int → Z1) (i : Nat), i < cnt → Inv i → (Inv (i + 1) → Q (rc n0 list1 ((i + 1 : Nat) : Int))) → Q (vrp rc vsj n0 list1 (i : Int)))
 (he : ∀ (rc : Int → Y4 → Int → Z1), Inv cnt → Q (vrp rc vsj n0 list1 (cnt : Int)))
 (i0 : Nat) (hi : i0 ≤ cnt) (h0 : Inv i0) : Q (vauv big n0 list1 (i0 : Int)) :=
 idxR (fun m i => Inv i → Q (vamc big vsj m n0 list1 (i : Int))) (fun _ i hl ih h => hs _ i hl h fun h4 => ih h4) (fun _ h => he _ h) big i0 hi (by have := vae; omega) h0
theorem vbty {l0 : Y4} {n1 : Int} (cnt : Nat) (Inv : Nat → (List Bool) → Prop) {Q : Z1 → Prop} (hn : cnt ≤ 500000000000)
 (hs : ∀ (rc : Y4 → Int → (List Bool) → Int → Z1) (i : Nat) (seen5 : (List Bool)), i < cnt → Inv i seen5 → (∀ (seen5' : (List Bool)), Inv (i + 1) seen5' → Q (rc l0 n1 seen5' ((i + 1 : Nat) : Int))) → Q (vrd rc vrr l0 n1 seen5 (i : Int)))
 (he : ∀ (rc : Y4 → Int → (List Bool) → Int → Z1) (seen5 : (List Bool)), Inv cnt seen5 → Q (vrd rc vrr l0 n1 seen5 (cnt : Int)))
 (i0 : Nat) (hi : i0 ≤ cnt) (seen5 : (List Bool)) (h0 : Inv i0 seen5) : Q (vazv big l0 n1 seen5 (i0 : Int)) :=
 idxR (fun m i => ∀ (seen5 : (List Bool)), Inv i seen5 → Q (vaml big vrr m l0 n1 seen5 (i : Int))) (fun _ i hl ih seen5 h => hs _ i seen5 hl h fun seen5' h4 => ih seen5' h4) (fun _ seen5 h => he _ seen5 h) big i0 hi (by have := vae; omega) seen5 h0
theorem vbud {n0 : Int} {pairs1 : Z14} {t4 : Y2} (cnt : Nat) (Inv : Nat → Y5 → Prop) {Q : Z3 → Prop} (hn : cnt ≤ 500000000000)
 (hs : ∀ (rc : Int → Z14 → Y2 → Y5 → Int → Z3) (i : Nat) (leq5 : Y5), i < cnt → Inv i leq5 → (∀ (leq5' : Y5), Inv (i + 1) leq5' → Q (rc n0 pairs1 t4 leq5' ((i + 1 : Nat) : Int))) → Q (vsr rc (vrv (vry big)) n0 pairs1 t4 leq5 (i : Int)))
 (he : ∀ (rc : Int → Z14 → Y2 → Y5 → Int → Z3) (leq5 : Y5), Inv cnt leq5 → Q (vsr rc (vrv (vry big)) n0 pairs1 t4 leq5 (cnt : Int)))
 (i0 : Nat) (hi : i0 ≤ cnt) (leq5 : Y5) (h0 : Inv i0 leq5) : Q (vauq big n0 pairs1 t4 leq5 (i0 : Int)) :=
 idxR (fun m i => ∀ (leq5 : Y5), Inv i leq5 → Q (vamn big (vrv (vry big)) m n0 pairs1 t4 leq5 (i : Int))) (fun _ i hl ih leq5 h => hs _ i leq5 hl h fun leq5' h4 => ih leq5' h4) (fun _ leq5 h => he _ leq5 h) big i0 hi (by have := vae; omega) leq5 h0
theorem vbuk {n0 : Int} {pairs1 : Z14} {t4 : Y2} (cnt : Nat) (Inv : Nat → Y5 → Prop) {Q : Z3 → Prop} (hn : cnt ≤ 500000000000)
 (hs : ∀ (rc : Int → Z14 → Y2 → Y5 → Int → Z3) (i : Nat) (leq5 : Y5), i < cnt → Inv i leq5 → (∀ (leq5' : Y5), Inv (i + 1) leq5' → Q (rc n0 pairs1 t4 leq5' ((i + 1 : Nat) : Int))) → Q (vsw rc (vsq (vic big)) n0 pairs1 t4 leq5 (i : Int)))
 (he : ∀ (rc : Int → Z14 → Y2 → Y5 → Int → Z3) (leq5 : Y5), Inv cnt leq5 → Q (vsw rc (vsq (vic big)) n0 pairs1 t4 leq5 (cnt : Int)))
 (i0 : Nat) (hi : i0 ≤ cnt) (leq5 : Y5) (h0 : Inv i0 leq5) : Q (vry big n0 pairs1 t4 leq5 (i0 : Int)) :=
 idxR (fun m i => ∀ (leq5 : Y5), Inv i leq5 → Q (vaiq big (vsq (vic big)) m n0 pairs1 t4 leq5 (i : Int))) (fun _ i hl ih leq5 h => hs _ i leq5 hl h fun leq5' h4 => ih leq5' h4) (fun _ leq5 h => he _ leq5 h) big i0 hi (by have := vae; omega) leq5 h0
theorem vbsc {n0 : Int} {t4 : Y2} (cnt : Nat) (Inv : Nat → Y5 → Prop) {Q : Z3 → Prop} (hn : cnt ≤ 500000000000)
 (hs : ∀ (rc : Int → Y2 → Y5 → Int → Z3) (i : Nat) (leq5 : Y5), i < cnt → Inv i leq5 → (∀ (leq5' : Y5), Inv (i + 1) leq5' → Q (rc n0 t4 leq5' ((i + 1 : Nat) : Int))) → Q (vml (vre big rc (vgq (vdq big))) (vgq (vdq big)) n0 t4 leq5 (i : Int)))
 (he : ∀ (rc : Int → Y2 → Y5 → Int → Z3) (leq5 : Y5), Inv cnt leq5 → Q (vml (vre big rc (vgq (vdq big))) (vgq (vdq big)) n0 t4 leq5 (cnt : Int)))
 (i0 : Nat) (hi : i0 ≤ cnt) (leq5 : Y5) (h0 : Inv i0 leq5) : Q (vic big n0 t4 leq5 (i0 : Int)) :=
 idxR (fun m i => ∀ (leq5 : Y5), Inv i leq5 → Q (vacp big (vgq (vdq big)) m n0 t4 leq5 (i : Int))) (fun _ i hl ih leq5 h => hs _ i leq5 hl h fun leq5' h4 => ih leq5' h4) (fun _ leq5 h => he _ leq5 h) big i0 hi (by have := vae; omega) leq5 h0
theorem vbse {rec : Int → Y2 → Y5 → Int → Z3} {k : Int → Y2 → Y5 → Z3} {n0 : Int} {t4 : Y2} {z9 : Int} (cnt : Nat) (Inv : Nat → Y5 → Prop) {Q : Z3 → Prop} (hn : cnt ≤ 500000000000)
 (hs : ∀ (rc : Int → Y2 → Y5 → Int → Int → Z3) (i : Nat) (leq5 : Y5), i < cnt → Inv i leq5 → (∀ (leq5' : Y5), Inv (i + 1) leq5' → Q (rc n0 t4 leq5' z9 ((i + 1 : Nat) : Int))) → Q (vnl (vse big rc (vhm rec)) (vhm rec) n0 t4 leq5 z9 (i : Int)))
 (he : ∀ (rc : Int → Y2 → Y5 → Int → Int → Z3) (leq5 : Y5), Inv cnt leq5 → Q (vnl (vse big rc (vhm rec)) (vhm rec) n0 t4 leq5 z9 (cnt : Int)))
 (i0 : Nat) (hi : i0 ≤ cnt) (leq5 : Y5) (h0 : Inv i0 leq5) : Q (vre big rec k n0 t4 leq5 z9 (i0 : Int)) :=
 idxR (fun m i => ∀ (leq5 : Y5), Inv i leq5 → Q (vzr big (vhm rec) m n0 t4 leq5 z9 (i : Int))) (fun _ i hl ih leq5 h => hs _ i leq5 hl h fun leq5' h4 => ih leq5' h4) (fun _ leq5 h => he _ leq5 h) big i0 hi (by have := vae; omega) leq5 h0
theorem vbqt {n0 : Int} {t4 : Y2} {leq5 : Y5} (cnt : Nat) (Inv : Nat → Y2 → Prop) {Q : Z3 → Prop} (hn : cnt ≤ 500000000000)
 (hs : ∀ (rc : Int → Y2 → Y5 → Y2 → Int → Z3) (i : Nat) (p12 : Y2), i < cnt → Inv i p12 → (∀ (p12' : Y2), Inv (i + 1) p12' → Q (rc n0 t4 leq5 p12' ((i + 1 : Nat) : Int))) → Q (vmt (vrq big rc vgp) vgp n0 t4 leq5 p12 (i : Int)))
 (he : ∀ (rc : Int → Y2 → Y5 → Y2 → Int → Z3) (p12 : Y2), Inv cnt p12 → Q (vmt (vrq big rc vgp) vgp n0 t4 leq5 p12 (cnt : Int)))
 (i0 : Nat) (hi : i0 ≤ cnt) (p12 : Y2) (h0 : Inv i0 p12) : Q (vdq big n0 t4 leq5 p12 (i0 : Int)) :=
 idxR (fun m i => ∀ (p12 : Y2), Inv i p12 → Q (vxp big vgp m n0 t4 leq5 p12 (i : Int))) (fun _ i hl ih p12 h => hs _ i p12 hl h fun p12' h4 => ih p12' h4) (fun _ p12 h => he _ p12 h) big i0 hi (by have := vae; omega) p12 h0
theorem vbsa {rec : Int → Y2 → Y5 → Int → Int → Z3} {k : Int → Y2 → Y5 → Int → Z3} {n0 : Int} {t4 : Y2} {z9 : Int} {x10 : Int} (cnt : Nat) (Inv : Nat → Y5 → Prop) {Q : Z3 → Prop} (hn : cnt ≤ 500000000000)
 (hs : ∀ (rc : Int → Y2 → Y5 → Int → Int → Int → Z3) (i : Nat) (leq5 : Y5), i < cnt → Inv i leq5 → (∀ (leq5' : Y5), Inv (i + 1) leq5' → Q (rc n0 t4 leq5' z9 x10 ((i + 1 : Nat) : Int))) → Q (vmx rc (vnq rec) n0 t4 leq5 z9 x10 (i : Int)))
 (he : ∀ (rc : Int → Y2 → Y5 → Int → Int → Int → Z3) (leq5 : Y5), Inv cnt leq5 → Q (vmx rc (vnq rec) n0 t4 leq5 z9 x10 (cnt : Int)))
 (i0 : Nat) (hi : i0 ≤ cnt) (leq5 : Y5) (h0 : Inv i0 leq5) : Q (vse big rec k n0 t4 leq5 z9 x10 (i0 : Int)) :=
 idxR (fun m i => ∀ (leq5 : Y5), Inv i leq5 → Q (vade big (vnq rec) m n0 t4 leq5 z9 x10 (i : Int))) (fun _ i hl ih leq5 h => hs _ i leq5 hl h fun leq5' h4 => ih leq5' h4) (fun _ leq5 h => he _ leq5 h) big i0 hi (by have := vae; omega) leq5 h0
theorem vbsi {rec : Int → Y2 → Y5 → Y2 → Int → Z3} {k : Y2 → Y2 → Z3} {n0 : Int} {t4 : Y2} {leq5 : Y5} {p12 : Y2} {y13 : Int} (cnt : Nat) (Inv : Nat → Y4 → Prop) {Q : Z3 → Prop} (hn : cnt ≤ 500000000000)
 (hs : ∀ (rc : Int → Y2 → Y5 → Y2 → Int → Y4 → Int → Z3) (i : Nat) (below14 : Y4), i < cnt → Inv i below14 → (∀ (below14' : Y4), Inv (i + 1) below14' → Q (rc n0 t4 leq5 p12 y13 below14' ((i + 1 : Nat) : Int))) → Q (vmz rc (vnb rec) n0 t4 leq5 p12 y13 below14 (i : Int)))
 (he : ∀ (rc : Int → Y2 → Y5 → Y2 → Int → Y4 → Int → Z3) (below14 : Y4), Inv cnt below14 → Q (vmz rc (vnb rec) n0 t4 leq5 p12 y13 below14 (cnt : Int)))
 (i0 : Nat) (hi : i0 ≤ cnt) (below14 : Y4) (h0 : Inv i0 below14) : Q (vrq big rec k n0 t4 leq5 p12 y13 below14 (i0 : Int)) :=
 idxR (fun m i => ∀ (below14 : Y4), Inv i below14 → Q (vyt big (vnb rec) m n0 t4 leq5 p12 y13 below14 (i : Int))) (fun _ i hl ih below14 h => hs _ i below14 hl h fun below14' h4 => ih below14' h4) (fun _ below14 h => he _ below14 h) big i0 hi (by have := vae; omega) below14 h0
theorem vbrf {l0 : Y4} {n1 : Int} (cnt : Nat) (Inv : Nat → Prop) {res : Z8} (hn : cnt ≤ 500000000000)
 (hs : ∀ (rc : Y4 → Int → Int → Z8) (i : Nat), i < cnt → Inv i → (Inv (i + 1) → rc l0 n1 ((i + 1 : Nat) : Int) = res) → vci rc vbk l0 n1 (i : Int) = res)
 (he : ∀ (rc : Y4 → Int → Int → Z8), Inv cnt → vci rc vbk l0 n1 (cnt : Int) = res)
 (i0 : Nat) (hi : i0 ≤ cnt) (h0 : Inv i0) : vyo big l0 n1 (i0 : Int) = res :=
 idxR (fun m i => Inv i → vrs big vbk m l0 n1 (i : Int) = res) (fun _ i hl ih h => hs _ i hl h fun h4 => ih h4) (fun _ h => he _ h) big i0 hi (by have := vae; omega) h0
theorem vbqg {l0 : Y4} {n1 : Int} (cnt : Nat) (Inv : Nat → Prop) {Q : Z8 → Prop} (hn : cnt ≤ 500000000000)
 (hs : ∀ (rc : Y4 → Int → Int → Z8) (i : Nat), i < cnt → Inv i → (Inv (i + 1) → Q (rc l0 n1 ((i + 1 : Nat) : Int))) → Q (vci rc vbk l0 n1 (i : Int)))
 (he : ∀ (rc : Y4 → Int → Int → Z8), Inv cnt → Q (vci rc vbk l0 n1 (cnt : Int)))
 (i0 : Nat) (hi : i0 ≤ cnt) (h0 : Inv i0) : Q (vyo big l0 n1 (i0 : Int)) :=
 idxR (fun m i => Inv i → Q (vrs big vbk m l0 n1 (i : Int))) (fun _ i hl ih h => hs _ i hl h fun h4 => ih h4) (fun _ h => he _ h) big i0 hi (by have := vae; omega) h0
theorem vbqr {t2 : Y2} {n3 : Int} (cnt : Nat) (Inv : Nat → Z15 → Z14 → Prop) {Q : Z5 → Prop} (hn : cnt ≤ 500000000000)
 (hs : ∀ (rc : Z15 → Y2 → Int → Z14 → Int → Z5) (i : Nat) (c0 : Z15) (pairs4 : Z14), i < cnt → Inv i c0 pairs4 → (∀ (c0' : Z15) (pairs4' : Z14), Inv (i + 1) c0' pairs4' → Q (rc c0' t2 n3 pairs4' ((i + 1 : Nat) : Int))) → Q (voo (vsp big rc (vfx (vcv big) (vat big))) (vfx (vcv big) (vat big)) c0 t2 n3 pairs4 (i : Int)))
 (he : ∀ (rc : Z15 → Y2 → Int → Z14 → Int → Z5) (c0 : Z15) (pairs4 : Z14), Inv cnt c0 pairs4 → Q (voo (vsp big rc (vfx (vcv big) (vat big))) (vfx (vcv big) (vat big)) c0 t2 n3 pairs4 (cnt : Int)))
 (i0 : Nat) (hi : i0 ≤ cnt) (c0 : Z15) (pairs4 : Z14) (h0 : Inv i0 c0 pairs4) : Q (vanq big c0 t2 n3 pairs4 (i0 : Int)) :=
 idxR (fun m i => ∀ (c0 : Z15) (pairs4 : Z14), Inv i c0 pairs4 → Q (vafb big (vfx (vcv big) (vat big)) m c0 t2 n3 pairs4 (i : Int))) (fun _ i hl ih c0 pairs4 h => hs _ i c0 pairs4 hl h fun c0' pairs4' h4 => ih c0' pairs4' h4) (fun _ c0 pairs4 h => he _ c0 pairs4 h) big i0 hi (by have := vae; omega) c0 pairs4 h0
theorem vbtp {rec : Z15 → Y2 → Int → Z14 → Int → Z5} {k : Z15 → Y2 → Int → Z14 → Z5} {t2 : Y2} {n3 : Int} {x5 : Int} (cnt : Nat) (Inv : Nat → Z15 → Z14 → Prop) {Q : Z5 → Prop} (hn : cnt ≤ 500000000000)
 (hs : ∀ (rc : Z15 → Y2 → Int → Z14 → Int → Int → Z5) (i : Nat) (c0 : Z15) (pairs4 : Z14), i < cnt → Inv i c0 pairs4 → (∀ (c0' : Z15) (pairs4' : Z14), Inv (i + 1) c0' pairs4' → Q (rc c0' t2 n3 pairs4' x5 ((i + 1 : Nat) : Int))) → Q (vnf rc (voz rec) c0 t2 n3 pairs4 x5 (i : Int)))
 (he : ∀ (rc : Z15 → Y2 → Int → Z14 → Int → Int → Z5) (c0 : Z15) (pairs4 : Z14), Inv cnt c0 pairs4 → Q (vnf rc (voz rec) c0 t2 n3 pairs4 x5 (cnt : Int)))
 (i0 : Nat) (hi : i0 ≤ cnt) (c0 : Z15) (pairs4 : Z14) (h0 : Inv i0 c0 pairs4) : Q (vsp big rec k c0 t2 n3 pairs4 x5 (i0 : Int)) :=
 idxR (fun m i => ∀ (c0 : Z15) (pairs4 : Z14), Inv i c0 pairs4 → Q (vado big (voz rec) m c0 t2 n3 pairs4 x5 (i : Int))) (fun _ i hl ih c0 pairs4 h => hs _ i c0 pairs4 hl h fun c0' pairs4' h4 => ih c0' pairs4' h4) (fun _ c0 pairs4 h => he _ c0 pairs4 h) big i0 hi (by have := vae; omega) c0 pairs4 h0
theorem vbmq {c0 : Z15} {t2 : Y2} {n3 : Int} {names7 : Y4} (cnt : Nat) (Inv : Nat → Z14 → Prop) {Q : Z5 → Prop} (hn : cnt ≤ 500000000000)
 (hs : ∀ (rc : Z15 → Y2 → Int → Z14 → Y4 → Int → Z5) (i : Nat) (pairs4 : Z14), i < cnt → Inv i pairs4 → (∀ (pairs4' : Z14), Inv (i + 1) pairs4' → Q (rc c0 t2 n3 pairs4' names7 ((i + 1 : Nat) : Int))) → Q (vjo rc (ved (vat big)) c0 t2 n3 pairs4 names7 (i : Int)))
 (he : ∀ (rc : Z15 → Y2 → Int → Z14 → Y4 → Int → Z5) (pairs4 : Z14), Inv cnt pairs4 → Q (vjo rc (ved (vat big)) c0 t2 n3 pairs4 names7 (cnt : Int)))
 (i0 : Nat) (hi : i0 ≤ cnt) (pairs4 : Z14) (h0 : Inv i0 pairs4) : Q (vcv big c0 t2 n3 pairs4 names7 (i0 : Int)) :=
 idxR (fun m i => ∀ (pairs4 : Z14), Inv i pairs4 → Q (vvv big (ved (vat big)) m c0 t2 n3 pairs4 names7 (i : Int))) (fun _ i hl ih pairs4 h => hs _ i pairs4 hl h fun pairs4' h4 => ih pairs4' h4) (fun _ pairs4 h => he _ pairs4 h) big i0 hi (by have := vae; omega) pairs4 h0
theorem vboq {t2 : Y2} (mu : Z15 → Y2 → Nat) (Inv : Z15 → Y2 → Prop) {Q : Z5 → Prop}
 (hs : ∀ (rc : Z15 → Y2 → Y2 → Z5) (c0 : Z15) (p9 : Y2), Inv c0 p9 → (∀ (c0' : Z15) (p9' : Y2), Inv c0' p9' → mu c0' p9' < mu c0 p9 → Q (rc c0' t2 p9')) → Q (vvm rc vpl c0 t2 p9))
 (c0 : Z15) (p9 : Y2) (hm : mu c0 p9 ≤ 500000000000) (h0 : Inv c0 p9) : Q (vat big c0 t2 p9) :=
 muR (fun m => ∀ (c0 : Z15) (p9 : Y2), mu c0 p9 < m → Inv c0 p9 → Q (vtx big vpl m c0 t2 p9)) (fun c0 p9 h2 _ => absurd h2 (Nat.not_lt_zero _)) (fun _ ih c0 p9 h2 h3 => hs _ c0 p9 h3 fun c0' p9' h4 h5 => ih c0' p9' (by omega) h4) big c0 p9 (by have := vae; omega) h0
theorem vbqx {l0 : Y4} {n1 : Int} (cnt : Nat) (Inv : Nat → Prop) {res : Z1} (hn : cnt ≤ 500000000000)
 (hs : ∀ (rc : Y4 → Int → Int → Z1) (i : Nat), i < cnt → Inv i → (Inv (i + 1) → rc l0 n1 ((i + 1 : Nat) : Int) = res) → vmy rc vmi l0 n1 (i : Int) = res)
 (he : ∀ (rc : Y4 → Int → Int → Z1), Inv cnt → vmy rc vmi l0 n1 (cnt : Int) = res)
 (i0 : Nat) (hi : i0 ≤ cnt) (h0 : Inv i0) : vaqs big l0 n1 (i0 : Int) = res :=
 idxR (fun m i => Inv i → vacg big vmi m l0 n1 (i : Int) = res) (fun _ i hl ih h => hs _ i hl h fun h4 => ih h4) (fun _ h => he _ h) big i0 hi (by have := vae; omega) h0
theorem vbsw {c0 : Z15} {t2 : Y2} {p3 : Y2} {n4 : Int} {names5 : Y4} (cnt : Nat) (Inv : Nat → Z14 → Prop) {Q : Z5 → Prop} (hn : cnt ≤ 500000000000)
 (hs : ∀ (rc : Z15 → Y2 → Y2 → Int → Y4 → Z14 → Int → Z5) (i : Nat) (pairs6 : Z14), i < cnt → Inv i pairs6 → (∀ (pairs6' : Z14), Inv (i + 1) pairs6' → Q (rc c0 t2 p3 n4 names5 pairs6' ((i + 1 : Nat) : Int))) → Q (vop rc vpi c0 t2 p3 n4 names5 pairs6 (i : Int)))
 (he : ∀ (rc : Z15 → Y2 → Y2 → Int → Y4 → Z14 → Int → Z5) (pairs6 : Z14), Inv cnt pairs6 → Q (vop rc vpi c0 t2 p3 n4 names5 pairs6 (cnt : Int)))
 (i0 : Nat) (hi : i0 ≤ cnt) (pairs6 : Z14) (h0 : Inv i0 pairs6) : Q (vann big c0 t2 p3 n4 names5 pairs6 (i0 : Int)) :=
 idxR (fun m i => ∀ (pairs6 : Z14), Inv i pairs6 → Q (vabs big vpi m c0 t2 p3 n4 names5 pairs6 (i : Int))) (fun _ i hl ih pairs6 h => hs _ i pairs6 hl h fun pairs6' h4 => ih pairs6' h4) (fun _ pairs6 h => he _ pairs6 h) big i0 hi (by have := vae; omega) pairs6 h0
theorem vbsu {n0 : Int} {t8 : Int} (cnt : Nat) (Inv : Nat → Y5 → Prop) {res : Z13} (hn : cnt ≤ 500000000000)
 (hs : ∀ (rc : Int → Y5 → Int → Int → Z13) (i : Nat) (o3 : Y5), i < cnt → Inv i o3 → (∀ (o3' : Y5), Inv (i + 1) o3' → rc n0 o3' t8 ((i + 1 : Nat) : Int) = res) → vnm rc vof n0 o3 t8 (i : Int) = res)
 (he : ∀ (rc : Int → Y5 → Int → Int → Z13) (o3 : Y5), Inv cnt o3 → vnm rc vof n0 o3 t8 (cnt : Int) = res)
 (i0 : Nat) (hi : i0 ≤ cnt) (o3 : Y5) (h0 : Inv i0 o3) : vang big n0 o3 t8 (i0 : Int) = res :=
 idxR (fun m i => ∀ (o3 : Y5), Inv i o3 → vxz big vof m n0 o3 t8 (i : Int) = res) (fun _ i hl ih o3 h => hs _ i o3 hl h fun o3' h4 => ih o3' h4) (fun _ o3 h => he _ o3 h) big i0 hi (by have := vae; omega) o3 h0
theorem vbqi {o0 : Y5} {t7 : Int} (cnt : Nat) (Inv : Nat → Prop) {res : Z1} (hn : cnt ≤ 500000000000)
 (hs : ∀ (rc : Y5 → Int → Int → Z1) (i : Nat), i < cnt → Inv i → (Inv (i + 1) → rc o0 t7 ((i + 1 : Nat) : Int) = res) → vnz (vso big rc vhj) vhj o0 t7 (i : Int) = res)
 (he : ∀ (rc : Y5 → Int → Int → Z1), Inv cnt → vnz (vso big rc vhj) vhj o0 t7 (cnt : Int) = res)
 (i0 : Nat) (hi : i0 ≤ cnt) (h0 : Inv i0) : vaoo big o0 t7 (i0 : Int) = res :=
 idxR (fun m i => Inv i → vaat big vhj m o0 t7 (i : Int) = res) (fun _ i hl ih h => hs _ i hl h fun h4 => ih h4) (fun _ h => he _ h) big i0 hi (by have := vae; omega) h0
theorem vbrs {rec : Y5 → Int → Int → Z1} {k : Z1} {o0 : Y5} {x3 : Int} {t7 : Int} {t8 : Int} {t20 : Int} (cnt : Nat) (Inv : Nat → Prop) {res : Z1} (hn : cnt ≤ 500000000000)
 (hs : ∀ (rc : Y5 → Int → Int → Int → Int → Int → Z1) (i : Nat), i < cnt → Inv i → (Inv (i + 1) → rc o0 x3 t7 t8 t20 ((i + 1 : Nat) : Int) = res) → vnv (vlf big rc (vdp rec)) (vdp rec) o0 x3 t7 t8 t20 (i : Int) = res)
 (he : ∀ (rc : Y5 → Int → Int → Int → Int → Int → Z1), Inv cnt → vnv (vlf big rc (vdp rec)) (vdp rec) o0 x3 t7 t8 t20 (cnt : Int) = res)
 (i0 : Nat) (hi : i0 ≤ cnt) (h0 : Inv i0) : vso big rec k o0 x3 t7 t8 t20 (i0 : Int) = res :=
 idxR (fun m i => Inv i → vaeb big (vdp rec) m o0 x3 t7 t8 t20 (i : Int) = res) (fun _ i hl ih h => hs _ i hl h fun h4 => ih h4) (fun _ h => he _ h) big i0 hi (by have := vae; omega) h0
theorem vbnp {rec : Y5 → Int → Int → Int → Int → Int → Z1} {k : Y5 → Int → Int → Z1} {o0 : Y5} {x3 : Int} {y4 : Int} {t7 : Int} {t8 : Int} {t20 : Int} {t21 : Int} {t46 : Int} (cnt : Nat) (Inv : Nat → Prop) {res : Z1} (hn : cnt ≤ 500000000000)
 (hs : ∀ (rc : Y5 → Int → Int → Int → Int → Int → Int → Int → Int → Z1) (i : Nat), i < cnt → Inv i → (Inv (i + 1) → rc o0 x3 y4 t7 t8 t20 t21 t46 ((i + 1 : Nat) : Int) = res) → vjk rc (vib rec) o0 x3 y4 t7 t8 t20 t21 t46 (i : Int) = res)
 (he : ∀ (rc : Y5 → Int → Int → Int → Int → Int → Int → Int → Int → Z1), Inv cnt → vjk rc (vib rec) o0 x3 y4 t7 t8 t20 t21 t46 (cnt : Int) = res)
 (i0 : Nat) (hi : i0 ≤ cnt) (h0 : Inv i0) : vlf big rec k o0 x3 y4 t7 t8 t20 t21 t46 (i0 : Int) = res :=
 idxR (fun m i => Inv i → vvj big (vib rec) m o0 x3 y4 t7 t8 t20 t21 t46 (i : Int) = res) (fun _ i hl ih h => hs _ i hl h fun h4 => ih h4) (fun _ h => he _ h) big i0 hi (by have := vae; omega) h0
theorem vbtf {n4 : Int} {t18 : Y3} {t19 : Int} (cnt : Nat) (Inv : Nat → Y5 → Prop) {res : Z9} (hn : cnt ≤ 500000000000)
 (hs : ∀ (rc : Int → Y5 → Y3 → Int → Int → Z9) (i : Nat) (o5 : Y5), i < cnt → Inv i o5 → (∀ (o5' : Y5), Inv (i + 1) o5' → rc n4 o5' t18 t19 ((i + 1 : Nat) : Int) = res) → vpc (vqh big rc vfg) vfg n4 o5 t18 t19 (i : Int) = res)
 (he : ∀ (rc : Int → Y5 → Y3 → Int → Int → Z9) (o5 : Y5), Inv cnt o5 → vpc (vqh big rc vfg) vfg n4 o5 t18 t19 (cnt : Int) = res)
 (i0 : Nat) (hi : i0 ≤ cnt) (o5 : Y5) (h0 : Inv i0 o5) : vaqr big n4 o5 t18 t19 (i0 : Int) = res :=
 idxR (fun m i => ∀ (o5 : Y5), Inv i o5 → vadf big vfg m n4 o5 t18 t19 (i : Int) = res) (fun _ i hl ih o5 h => hs _ i o5 hl h fun o5' h4 => ih o5' h4) (fun _ o5 h => he _ o5 h) big i0 hi (by have := vae; omega) o5 h0
theorem vbpf {rec : Int → Y5 → Y3 → Int → Int → Z9} {k : Y5 → Z9} {n4 : Int} {x6 : Int} {t18 : Y3} {t19 : Int} {t20 : Int} {t29 : Y4} {t30 : Int} {t31 : Bool} {t32 : Bool} {t34 : Y4} {t35 : Int} (cnt : Nat) (Inv : Nat → Y5 → Prop) {res : Z9} (hn : cnt ≤ 500000000000)
 (hs : ∀ (rc : Int → Y5 → Int → Y3 → Int → Int → Y4 → Int → Bool → Bool → Y4 → Int → Int → Z9) (i : Nat) (o5 : Y5), i < cnt → Inv i o5 → (∀ (o5' : Y5), Inv (i + 1) o5' → rc n4 o5' x6 t18 t19 t20 t29 t30 t31 t32 t34 t35 ((i + 1 : Nat) : Int) = res) → vky rc (vip rec) n4 o5 x6 t18 t19 t20 t29 t30 t31 t32 t34 t35 (i : Int) = res)
 (he : ∀ (rc : Int → Y5 → Int → Y3 → Int → Int → Y4 → Int → Bool → Bool → Y4 → Int → Int → Z9) (o5 : Y5), Inv cnt o5 → vky rc (vip rec) n4 o5 x6 t18 t19 t20 t29 t30 t31 t32 t34 t35 (cnt : Int) = res)
 (i0 : Nat) (hi : i0 ≤ cnt) (o5 : Y5) (h0 : Inv i0 o5) : vqh big rec k n4 o5 x6 t18 t19 t20 t29 t30 t31 t32 t34 t35 (i0 : Int) = res :=
 idxR (fun m i => ∀ (o5 : Y5), Inv i o5 → vup big (vip rec) m n4 o5 x6 t18 t19 t20 t29 t30 t31 t32 t34 t35 (i : Int) = res) (fun _ i hl ih o5 h => hs _ i o5 hl h fun o5' h4 => ih o5' h4) (fun _ o5 h => he _ o5 h) big i0 hi (by have := vae; omega) o5 h0
theorem vbqm {o0 : Y5} {list1 : Y4} {t10 : Y4} {t11 : Int} (cnt : Nat) (Inv : Nat → Prop) {res : Z7} (hn : cnt ≤ 500000000000)
 (hs : ∀ (rc : Y5 → Y4 → Y4 → Int → Int → Z7) (i : Nat), i < cnt → Inv i → (Inv (i + 1) → rc o0 list1 t10 t11 ((i + 1 : Nat) : Int) = res) → vmw (vsu big rc vgo) vgo o0 list1 t10 t11 (i : Int) = res)
 (he : ∀ (rc : Y5 → Y4 → Y4 → Int → Int → Z7), Inv cnt → vmw (vsu big rc vgo) vgo o0 list1 t10 t11 (cnt : Int) = res)
 (i0 : Nat) (hi : i0 ≤ cnt) (h0 : Inv i0) : vapd big o0 list1 t10 t11 (i0 : Int) = res :=
 idxR (fun m i => Inv i → vye big vgo m o0 list1 t10 t11 (i : Int) = res) (fun _ i hl ih h => hs _ i hl h fun h4 => ih h4) (fun _ h => he _ h) big i0 hi (by have := vae; omega) h0
theorem vbsr {rec : Y5 → Y4 → Y4 → Int → Int → Z7} {k : Z7} {o0 : Y5} {list1 : Y4} {x6 : Int} {t10 : Y4} {t11 : Int} {t12 : Int} {t16 : Y4} {t17 : Int} (cnt : Nat) (Inv : Nat → Bool → Prop) {res : Z7} (hn : cnt ≤ 500000000000)
 (hs : ∀ (rc : Y5 → Y4 → Int → Bool → Y4 → Int → Int → Y4 → Int → Int → Z7) (i : Nat) (top7 : Bool), i < cnt → Inv i top7 → (∀ (top7' : Bool), Inv (i + 1) top7' → rc o0 list1 x6 top7' t10 t11 t12 t16 t17 ((i + 1 : Nat) : Int) = res) → vmv rc (vnp rec) o0 list1 x6 top7 t10 t11 t12 t16 t17 (i : Int) = res)
 (he : ∀ (rc : Y5 → Y4 → Int → Bool → Y4 → Int → Int → Y4 → Int → Int → Z7) (top7 : Bool), Inv cnt top7 → vmv rc (vnp rec) o0 list1 x6 top7 t10 t11 t12 t16 t17 (cnt : Int) = res)
 (i0 : Nat) (hi : i0 ≤ cnt) (top7 : Bool) (h0 : Inv i0 top7) : vsu big rec k o0 list1 x6 top7 t10 t11 t12 t16 t17 (i0 : Int) = res :=
 idxR (fun m i => ∀ (top7 : Bool), Inv i top7 → vabd big (vnp rec) m o0 list1 x6 top7 t10 t11 t12 t16 t17 (i : Int) = res) (fun _ i hl ih top7 h => hs _ i top7 hl h fun top7' h4 => ih top7' h4) (fun _ top7 h => he _ top7 h) big i0 hi (by have := vae; omega) top7 h0
theorem vbtb {so1 : (Y5 × Z2)} {t9 : Int} (cnt : Nat) (Inv : Nat → Y4 → Prop) {res : Z8} (hn : cnt ≤ 500000000000)
 (hs : ∀ (rc : (Y5 × Z2) → Y4 → Int → Int → Z8) (i : Nat) (list5 : Y4), i < cnt → Inv i list5 → (∀ (list5' : Y4), Inv (i + 1) list5' → rc so1 list5' t9 ((i + 1 : Nat) : Int) = res) → voq rc vni so1 list5 t9 (i : Int) = res)
 (he : ∀ (rc : (Y5 × Z2) → Y4 → Int → Int → Z8) (list5 : Y4), Inv cnt list5 → voq rc vni so1 list5 t9 (cnt : Int) = res)
 (i0 : Nat) (hi : i0 ≤ cnt) (list5 : Y4) (h0 : Inv i0 list5) : vaqa big so1 list5 t9 (i0 : Int) = res :=
 idxR (fun m i => ∀ (list5 : Y4), Inv i list5 → vaek big vni m so1 list5 t9 (i : Int) = res) (fun _ i hl ih list5 h => hs _ i list5 hl h fun list5' h4 => ih list5' h4) (fun _ list5 h => he _ list5 h) big i0 hi (by have := vae; omega) list5 h0
theorem vbsh {o1 : Y5} {t11 : Int} (cnt : Nat) (Inv : Nat → Y3 → Prop) {res : Z10} (hn : cnt ≤ 500000000000)
 (hs : ∀ (rc : Y5 → Y3 → Int → Int → Z10) (i : Nat) (table4 : Y3), i < cnt → Inv i table4 → (∀ (table4' : Y3), Inv (i + 1) table4' → rc o1 table4' t11 ((i + 1 : Nat) : Int) = res) → vmp (vrj big rc vfu) vfu o1 table4 t11 (i : Int) = res)
 (he : ∀ (rc : Y5 → Y3 → Int → Int → Z10) (table4 : Y3), Inv cnt table4 → vmp (vrj big rc vfu) vfu o1 table4 t11 (cnt : Int) = res)
 (i0 : Nat) (hi : i0 ≤ cnt) (table4 : Y3) (h0 : Inv i0 table4) : vapj big o1 table4 t11 (i0 : Int) = res :=
 idxR (fun m i => ∀ (table4 : Y3), Inv i table4 → vaaw big vfu m o1 table4 t11 (i : Int) = res) (fun _ i hl ih table4 h => hs _ i table4 hl h fun table4' h4 => ih table4' h4) (fun _ table4 h => he _ table4 h) big i0 hi (by have := vae; omega) table4 h0
theorem vbqh {rec : Y5 → Y3 → Int → Int → Z10} {k : Y3 → Z10} {o1 : Y5} {table4 : Y3} {x5 : Int} {t11 : Int} {t12 : Int} {t17 : Int} (cnt : Nat) (Inv : Nat → Y4 → Prop) {res : Z10} (hn : cnt ≤ 500000000000)
 (hs : ∀ (rc : Y5 → Y3 → Int → Y4 → Int → Int → Int → Int → Z10) (i : Nat) (row6 : Y4), i < cnt → Inv i row6 → (∀ (row6' : Y4), Inv (i + 1) row6' → rc o1 table4 x5 row6' t11 t12 t17 ((i + 1 : Nat) : Int) = res) → vnx rc (vmg rec) o1 table4 x5 row6 t11 t12 t17 (i : Int) = res)
 (he : ∀ (rc : Y5 → Y3 → Int → Y4 → Int → Int → Int → Int → Z10) (row6 : Y4), Inv cnt row6 → vnx rc (vmg rec) o1 table4 x5 row6 t11 t12 t17 (cnt : Int) = res)
 (i0 : Nat) (hi : i0 ≤ cnt) (row6 : Y4) (h0 : Inv i0 row6) : vrj big rec k o1 table4 x5 row6 t11 t12 t17 (i0 : Int) = res :=
 idxR (fun m i => ∀ (row6 : Y4), Inv i row6 → vaej big (vmg rec) m o1 table4 x5 row6 t11 t12 t17 (i : Int) = res) (fun _ i hl ih row6 h => hs _ i row6 hl h fun row6' h4 => ih row6' h4) (fun _ row6 h => he _ row6 h) big i0 hi (by have := vae; omega) row6 h0
theorem vbta {o0 : Y5} {t10 : Int} (cnt : Nat) (Inv : Nat → Y5 → Prop) {res : Z13} (hn : cnt ≤ 500000000000)
 (hs : ∀ (rc : Y5 → Y5 → Int → Int → Z13) (i : Nat) (d3 : Y5), i < cnt → Inv i d3 → (∀ (d3' : Y5), Inv (i + 1) d3' → rc o0 d3' t10 ((i + 1 : Nat) : Int) = res) → voc (vsa big rc vfh) vfh o0 d3 t10 (i : Int) = res)
 (he : ∀ (rc : Y5 → Y5 → Int → Int → Z13) (d3 : Y5), Inv cnt d3 → voc (vsa big rc vfh) vfh o0 d3 t10 (cnt : Int) = res)
 (i0 : Nat) (hi : i0 ≤ cnt) (d3 : Y5) (h0 : Inv i0 d3) : vapa big o0 d3 t10 (i0 : Int) = res :=
 idxR (fun m i => ∀ (d3 : Y5), Inv i d3 → vadq big vfh m o0 d3 t10 (i : Int) = res) (fun _ i hl ih d3 h => hs _ i d3 hl h fun d3' h4 => ih d3' h4) (fun _ d3 h => he _ d3 h) big i0 hi (by have := vae; omega) d3 h0
theorem vbrk {rec : Y5 → Y5 → Int → Int → Z13} {k : Y5 → Z13} {o0 : Y5} {x4 : Int} {t10 : Int} {t11 : Int} {t15 : Int} (cnt : Nat) (Inv : Nat → Y5 → Prop) {res : Z13} (hn : cnt ≤ 500000000000)
 (hs : ∀ (rc : Y5 → Y5 → Int → Int → Int → Int → Int → Z13) (i : Nat) (d3 : Y5), i < cnt → Inv i d3 → (∀ (d3' : Y5), Inv (i + 1) d3' → rc o0 d3' x4 t10 t11 t15 ((i + 1 : Nat) : Int) = res) → vnr rc (vor rec) o0 d3 x4 t10 t11 t15 (i : Int) = res)
 (he : ∀ (rc : Y5 → Y5 → Int → Int → Int → Int → Int → Z13) (d3 : Y5), Inv cnt d3 → vnr rc (vor rec) o0 d3 x4 t10 t11 t15 (cnt : Int) = res)
 (i0 : Nat) (hi : i0 ≤ cnt) (d3 : Y5) (h0 : Inv i0 d3) : vsa big rec k o0 d3 x4 t10 t11 t15 (i0 : Int) = res :=
 idxR (fun m i => ∀ (d3 : Y5), Inv i d3 → vabr big (vor rec) m o0 d3 x4 t10 t11 t15 (i : Int) = res) (fun _ i hl ih d3 h => hs _ i d3 hl h fun d3' h4 => ih d3' h4) (fun _ d3 h => he _ d3 h) big i0 hi (by have := vae; omega) d3 h0
theorem vbsm {x1 : Int} {t7 : Y4} {t8 : Int} (cnt : Nat) (Inv : Nat → Prop) {res : Z1} (hn : cnt ≤ 500000000000)
 (hs : ∀ (rc : Int → Y4 → Int → Int → Z1) (i : Nat), i < cnt → Inv i → (Inv (i + 1) → rc x1 t7 t8 ((i + 1 : Nat) : Int) = res) → vmm rc vmn x1 t7 t8 (i : Int) = res)
 (he : ∀ (rc : Int → Y4 → Int → Int → Z1), Inv cnt → vmm rc vmn x1 t7 t8 (cnt : Int) = res)
 (i0 : Nat) (hi : i0 ≤ cnt) (h0 : Inv i0) : vapw big x1 t7 t8 (i0 : Int) = res :=
 idxR (fun m i => Inv i → vaer big vmn m x1 t7 t8 (i : Int) = res) (fun _ i hl ih h => hs _ i hl h fun h4 => ih h4) (fun _ h => he _ h) big i0 hi (by have := vae; omega) h0
theorem vbqw {list0 : Y4} {t5 : Y4} {t6 : Int} (cnt : Nat) (Inv : Nat → Prop) {res : Z1} (hn : cnt ≤ 500000000000)
 (hs : ∀ (rc : Y4 → Y4 → Int → Int → Z1) (i : Nat), i < cnt → Inv i → (Inv (i + 1) → rc list0 t5 t6 ((i + 1 : Nat) : Int) = res) → vno rc vnk list0 t5 t6 (i : Int) = res)
 (he : ∀ (rc : Y4 → Y4 → Int → Int → Z1), Inv cnt → vno rc vnk list0 t5 t6 (cnt : Int) = res)
 (i0 : Nat) (hi : i0 ≤ cnt) (h0 : Inv i0) : vanh big list0 t5 t6 (i0 : Int) = res :=
 idxR (fun m i => Inv i → vyh big vnk m list0 t5 t6 (i : Int) = res) (fun _ i hl ih h => hs _ i hl h fun h4 => ih h4) (fun _ h => he _ h) big i0 hi (by have := vae; omega) h0
theorem vbsn {s0 : Y4} {t1 : Y4} (cnt : Nat) (Inv : Nat → Prop) {res : Z7} (hn : cnt ≤ 500000000000)
 (hs : ∀ (rc : Y4 → Y4 → Int → Z7) (i : Nat), i < cnt → Inv i → (Inv (i + 1) → rc s0 t1 ((i + 1 : Nat) : Int) = res) → voa rc vny s0 t1 (i : Int) = res)
 (he : ∀ (rc : Y4 → Y4 → Int → Z7), Inv cnt → voa rc vny s0 t1 (cnt : Int) = res)
 (i0 : Nat) (hi : i0 ≤ cnt) (h0 : Inv i0) : vapk big s0 t1 (i0 : Int) = res :=
 idxR (fun m i => Inv i → vzu big vny m s0 t1 (i : Int) = res) (fun _ i hl ih h => hs _ i hl h fun h4 => ih h4) (fun _ h => he _ h) big i0 hi (by have := vae; omega) h0
theorem vbcn {good1 : Unit} {l6 : Y1} {t26 : Int} (cnt : Nat) (Inv : Nat → Y4 → Prop) {res : Z0} (hn : cnt ≤ 500000000000)
 (hs : ∀ (rc : Unit → Y1 → Y4 → Int → Int → Z0) (i : Nat) (best8 : Y4), i < cnt → Inv i best8 → (∀ (best8' : Y4), Inv (i + 1) best8' → rc good1 l6 best8' t26 ((i + 1 : Nat) : Int) = res) → vfo (vsn big rc vdh) vdh good1 l6 best8 t26 (i : Int) = res)
 (he : ∀ (rc : Unit → Y1 → Y4 → Int → Int → Z0) (best8 : Y4), Inv cnt best8 → vfo (vsn big rc vdh) vdh good1 l6 best8 t26 (cnt : Int) = res)
 (i0 : Nat) (hi : i0 ≤ cnt) (best8 : Y4) (h0 : Inv i0 best8) : vrg big good1 l6 best8 t26 (i0 : Int) = res :=
 idxR (fun m i => ∀ (best8 : Y4), Inv i best8 → vabh big vdh m good1 l6 best8 t26 (i : Int) = res) (fun _ i hl ih best8 h => hs _ i best8 hl h fun best8' h4 => ih best8' h4) (fun _ best8 h => he _ best8 h) big i0 hi (by have := vae; omega) best8 h0
theorem vbfd {rec : Unit → Y1 → Y4 → Int → Int → Z0} {k : Y4 → Z0} {good1 : Unit} {l6 : Y1} {a9 : Int} {t26 : Int} {t27 : Int} {t34 : Int} (cnt : Nat) (Inv : Nat → Y4 → Prop) {res : Z0} (hn : cnt ≤ 500000000000)
 (hs : ∀ (rc : Unit → Y1 → Y4 → Int → Int → Int → Int → Int → Z0) (i : Nat) (best8 : Y4), i < cnt → Inv i best8 → (∀ (best8' : Y4), Inv (i + 1) best8' → rc good1 l6 best8' a9 t26 t27 t34 ((i + 1 : Nat) : Int) = res) → vgg (vpw big rc (vdn rec)) (vdn rec) good1 l6 best8 a9 t26 t27 t34 (i : Int) = res)
 (he : ∀ (rc : Unit → Y1 → Y4 → Int → Int → Int → Int → Int → Z0) (best8 : Y4), Inv cnt best8 → vgg (vpw big rc (vdn rec)) (vdn rec) good1 l6 best8 a9 t26 t27 t34 (cnt : Int) = res)
 (i0 : Nat) (hi : i0 ≤ cnt) (best8 : Y4) (h0 : Inv i0 best8) : vsn big rec k good1 l6 best8 a9 t26 t27 t34 (i0 : Int) = res :=
 idxR (fun m i => ∀ (best8 : Y4), Inv i best8 → vxj big (vdn rec) m good1 l6 best8 a9 t26 t27 t34 (i : Int) = res) (fun _ i hl ih best8 h => hs _ i best8 hl h fun best8' h4 => ih best8' h4) (fun _ best8 h => he _ best8 h) big i0 hi (by have := vae; omega) best8 h0
theorem vayo {rec : Unit → Y1 → Y4 → Int → Int → Int → Int → Int → Z0} {k : Unit → Y1 → Y4 → Int → Int → Z0} {good1 : Unit} {l6 : Y1} {a9 : Int} {b10 : Int} {t26 : Int} {t27 : Int} {t34 : Int} {t35 : Int} {t42 : Int} (cnt : Nat) (Inv : Nat → Y4 → Prop) {res : Z0} (hn : cnt ≤ 500000000000)
 (hs : ∀ (rc : Unit → Y1 → Y4 → Int → Int → Int → Int → Int → Int → Int → Int → Z0) (i : Nat) (best8 : Y4), i < cnt → Inv i best8 → (∀ (best8' : Y4), Inv (i + 1) best8' → rc good1 l6 best8' a9 b10 t26 t27 t34 t35 t42 ((i + 1 : Nat) : Int) = res) → vcx rc (ves rec) good1 l6 best8 a9 b10 t26 t27 t34 t35 t42 (i : Int) = res)
 (he : ∀ (rc : Unit → Y1 → Y4 → Int → Int → Int → Int → Int → Int → Int → Int → Z0) (best8 : Y4), Inv cnt best8 → vcx rc (ves rec) good1 l6 best8 a9 b10 t26 t27 t34 t35 t42 (cnt : Int) = res)
 (i0 : Nat) (hi : i0 ≤ cnt) (best8 : Y4) (h0 : Inv i0 best8) : vpw big rec k good1 l6 best8 a9 b10 t26 t27 t34 t35 t42 (i0 : Int) = res :=
 idxR (fun m i => ∀ (best8 : Y4), Inv i best8 → vva big (ves rec) m good1 l6 best8 a9 b10 t26 t27 t34 t35 t42 (i : Int) = res) (fun _ i hl ih best8 h => hs _ i best8 hl h fun best8' h4 => ih best8' h4) (fun _ best8 h => he _ best8 h) big i0 hi (by have := vae; omega) best8 h0
theorem vbqz {x0 : Y4} {y1 : Y4} (cnt : Nat) (Inv : Nat → Prop) {res : Z1} (hn : cnt ≤ 500000000000)
 (hs : ∀ (rc : Y4 → Y4 → Int → Z1) (i : Nat), i < cnt → Inv i → (Inv (i + 1) → rc x0 y1 ((i + 1 : Nat) : Int) = res) → voi rc vnt x0 y1 (i : Int) = res)
 (he : ∀ (rc : Y4 → Y4 → Int → Z1), Inv cnt → voi rc vnt x0 y1 (cnt : Int) = res)
 (i0 : Nat) (hi : i0 ≤ cnt) (h0 : Inv i0) : vanu big x0 y1 (i0 : Int) = res :=
 idxR (fun m i => Inv i → vxt big vnt m x0 y1 (i : Int) = res) (fun _ i hl ih h => hs _ i hl h fun h4 => ih h4) (fun _ h => he _ h) big i0 hi (by have := vae; omega) h0
theorem vbsl {p1 : Y2} {n3 : Int} (cnt : Nat) (Inv : Nat → Prop) {res : Z1} (hn : cnt ≤ 500000000000)
 (hs : ∀ (rc : Y2 → Int → Int → Z1) (i : Nat), i < cnt → Inv i → (Inv (i + 1) → rc p1 n3 ((i + 1 : Nat) : Int) = res) → vna rc (vol (vkx big)) p1 n3 (i : Int) = res)
 (he : ∀ (rc : Y2 → Int → Int → Z1), Inv cnt → vna rc (vol (vkx big)) p1 n3 (cnt : Int) = res)
 (i0 : Nat) (hi : i0 ≤ cnt) (h0 : Inv i0) : vaqy big p1 n3 (i0 : Int) = res :=
 idxR (fun m i => Inv i → vadp big (vol (vkx big)) m p1 n3 (i : Int) = res) (fun _ i hl ih h => hs _ i hl h fun h4 => ih h4) (fun _ h => he _ h) big i0 hi (by have := vae; omega) h0
theorem vbps {p1 : Y2} {n3 : Int} (cnt : Nat) (Inv : Nat → Prop) {res : Z1} (hn : cnt ≤ 500000000000)
 (hs : ∀ (rc : Y2 → Int → Int → Z1) (i : Nat), i < cnt → Inv i → (Inv (i + 1) → rc p1 n3 ((i + 1 : Nat) : Int) = res) → vji (vps big rc vdd) vdd p1 n3 (i : Int) = res)
 (he : ∀ (rc : Y2 → Int → Int → Z1), Inv cnt → vji (vps big rc vdd) vdd p1 n3 (cnt : Int) = res)
 (i0 : Nat) (hi : i0 ≤ cnt) (h0 : Inv i0) : vkx big p1 n3 (i0 : Int) = res :=
 idxR (fun m i => Inv i → vuu big vdd m p1 n3 (i : Int) = res) (fun _ i hl ih h => hs _ i hl h fun h4 => ih h4) (fun _ h => he _ h) big i0 hi (by have := vae; omega) h0
theorem vbnt {rec : Y2 → Int → Int → Z1} {k : Z1} {p1 : Y2} {n3 : Int} {x5 : Int} (cnt : Nat) (Inv : Nat → Prop) {res : Z1} (hn : cnt ≤ 500000000000)
 (hs : ∀ (rc : Y2 → Int → Int → Int → Z1) (i : Nat), i < cnt → Inv i → (Inv (i + 1) → rc p1 n3 x5 ((i + 1 : Nat) : Int) = res) → vkt rc (viy rec) p1 n3 x5 (i : Int) = res)
 (he : ∀ (rc : Y2 → Int → Int → Int → Z1), Inv cnt → vkt rc (viy rec) p1 n3 x5 (cnt : Int) = res)
 (i0 : Nat) (hi : i0 ≤ cnt) (h0 : Inv i0) : vps big rec k p1 n3 x5 (i0 : Int) = res :=
 idxR (fun m i => Inv i → vuz big (viy rec) m p1 n3 x5 (i : Int) = res) (fun _ i hl ih h => hs _ i hl h fun h4 => ih h4) (fun _ h => he _ h) big i0 hi (by have := vae; omega) h0
theorem vbrg {p1 : Y2} {t2 : Y2} (cnt : Nat) (Inv : Nat → Y2 → Prop) {res : Z3} (hn : cnt ≤ 500000000000)
 (hs : ∀ (rc : Y2 → Y2 → Y2 → Int → Z3) (i : Nat) (out3 : Y2), i < cnt → Inv i out3 → (∀ (out3' : Y2), Inv (i + 1) out3' → rc p1 t2 out3' ((i + 1 : Nat) : Int) = res) → vpe (vsf big rc vgx) vgx p1 t2 out3 (i : Int) = res)
 (he : ∀ (rc : Y2 → Y2 → Y2 → Int → Z3) (out3 : Y2), Inv cnt out3 → vpe (vsf big rc vgx) vgx p1 t2 out3 (cnt : Int) = res)
 (i0 : Nat) (hi : i0 ≤ cnt) (out3 : Y2) (h0 : Inv i0 out3) : vaqg big p1 t2 out3 (i0 : Int) = res :=
 idxR (fun m i => ∀ (out3 : Y2), Inv i out3 → vzh big vgx m p1 t2 out3 (i : Int) = res) (fun _ i hl ih out3 h => hs _ i out3 hl h fun out3' h4 => ih out3' h4) (fun _ out3 h => he _ out3 h) big i0 hi (by have := vae; omega) out3 h0
theorem vbti {rec : Y2 → Y2 → Y2 → Int → Z3} {k : Y2 → Y2 → Z3} {p1 : Y2} {t2 : Y2} {out3 : Y2} {x4 : Int} (cnt : Nat) (Inv : Nat → Y4 → Prop) {res : Z3} (hn : cnt ≤ 500000000000)
 (hs : ∀ (rc : Y2 → Y2 → Y2 → Int → Y4 → Int → Z3) (i : Nat) (below5 : Y4), i < cnt → Inv i below5 → (∀ (below5' : Y4), Inv (i + 1) below5' → rc p1 t2 out3 x4 below5' ((i + 1 : Nat) : Int) = res) → vov rc (vot rec) p1 t2 out3 x4 below5 (i : Int) = res)
 (he : ∀ (rc : Y2 → Y2 → Y2 → Int → Y4 → Int → Z3) (below5 : Y4), Inv cnt below5 → vov rc (vot rec) p1 t2 out3 x4 below5 (cnt : Int) = res)
 (i0 : Nat) (hi : i0 ≤ cnt) (below5 : Y4) (h0 : Inv i0 below5) : vsf big rec k p1 t2 out3 x4 below5 (i0 : Int) = res :=
 idxR (fun m i => ∀ (below5 : Y4), Inv i below5 → vaep big (vot rec) m p1 t2 out3 x4 below5 (i : Int) = res) (fun _ i hl ih below5 h => hs _ i below5 hl h fun below5' h4 => ih below5' h4) (fun _ below5 h => he _ below5 h) big i0 hi (by have := vae; omega) below5 h0
theorem vbtn {some1 : Y4} {p2 : Y2} (cnt : Nat) (Inv : Nat → Y4 → Prop) {res : Z7} (hn : cnt ≤ 500000000000)
 (hs : ∀ (rc : Y4 → Y2 → Y4 → Int → Z7) (i : Nat) (low5 : Y4), i < cnt → Inv i low5 → (∀ (low5' : Y4), Inv (i + 1) low5' → rc some1 p2 low5' ((i + 1 : Nat) : Int) = res) → vow (vru big rc (vfi (vco big))) (vfi (vco big)) some1 p2 low5 (i : Int) = res)
 (he : ∀ (rc : Y4 → Y2 → Y4 → Int → Z7) (low5 : Y4), Inv cnt low5 → vow (vru big rc (vfi (vco big))) (vfi (vco big)) some1 p2 low5 (cnt : Int) = res)
 (i0 : Nat) (hi : i0 ≤ cnt) (low5 : Y4) (h0 : Inv i0 low5) : vapf big some1 p2 low5 (i0 : Int) = res :=
 idxR (fun m i => ∀ (low5 : Y4), Inv i low5 → vafd big (vfi (vco big)) m some1 p2 low5 (i : Int) = res) (fun _ i hl ih low5 h => hs _ i low5 hl h fun low5' h4 => ih low5' h4) (fun _ low5 h => he _ low5 h) big i0 hi (by have := vae; omega) low5 h0
theorem vbqf {rec : Y4 → Y2 → Y4 → Int → Z7} {k : Y2 → Y4 → Z7} {some1 : Y4} {p2 : Y2} {low5 : Y4} {z6 : Int} (cnt : Nat) (Inv : Nat → Bool → Prop) {res : Z7} (hn : cnt ≤ 500000000000)
 (hs : ∀ (rc : Y4 → Y2 → Y4 → Int → Bool → Int → Z7) (i : Nat) (all7 : Bool), i < cnt → Inv i all7 → (∀ (all7' : Bool), Inv (i + 1) all7' → rc some1 p2 low5 z6 all7' ((i + 1 : Nat) : Int) = res) → vne rc (vng rec) some1 p2 low5 z6 all7 (i : Int) = res)
 (he : ∀ (rc : Y4 → Y2 → Y4 → Int → Bool → Int → Z7) (all7 : Bool), Inv cnt all7 → vne rc (vng rec) some1 p2 low5 z6 all7 (cnt : Int) = res)
 (i0 : Nat) (hi : i0 ≤ cnt) (all7 : Bool) (h0 : Inv i0 all7) : vru big rec k some1 p2 low5 z6 all7 (i0 : Int) = res :=
 idxR (fun m i => ∀ (all7 : Bool), Inv i all7 → vzw big (vng rec) m some1 p2 low5 z6 all7 (i : Int) = res) (fun _ i hl ih all7 h => hs _ i all7 hl h fun all7' h4 => ih all7' h4) (fun _ all7 h => he _ all7 h) big i0 hi (by have := vae; omega) all7 h0
theorem vbpa {p2 : Y2} {low5 : Y4} (cnt : Nat) (Inv : Nat → Prop) {res : Z7} (hn : cnt ≤ 500000000000)
 (hs : ∀ (rc : Y2 → Y4 → Int → Z7) (i : Nat), i < cnt → Inv i → (Inv (i + 1) → rc p2 low5 ((i + 1 : Nat) : Int) = res) → vjt rc vju p2 low5 (i : Int) = res)
 (he : ∀ (rc : Y2 → Y4 → Int → Z7), Inv cnt → vjt rc vju p2 low5 (cnt : Int) = res)
 (i0 : Nat) (hi : i0 ≤ cnt) (h0 : Inv i0) : vco big p2 low5 (i0 : Int) = res :=
 idxR (fun m i => Inv i → vut big vju m p2 low5 (i : Int) = res) (fun _ i hl ih h => hs _ i hl h fun h4 => ih h4) (fun _ h => he _ h) big i0 hi (by have := vae; omega) h0
theorem vbtd {p1 : Y2} {dual3 : Y2} (cnt : Nat) (Inv : Nat → Prop) {res : Z1} (hn : cnt ≤ 500000000000)
 (hs : ∀ (rc : Y2 → Y2 → Int → Z1) (i : Nat), i < cnt → Inv i → (Inv (i + 1) → rc p1 dual3 ((i + 1 : Nat) : Int) = res) → vpg (vrh big rc vfw) vfw p1 dual3 (i : Int) = res)
 (he : ∀ (rc : Y2 → Y2 → Int → Z1), Inv cnt → vpg (vrh big rc vfw) vfw p1 dual3 (cnt : Int) = res)
 (i0 : Nat) (hi : i0 ≤ cnt) (h0 : Inv i0) : vaqf big p1 dual3 (i0 : Int) = res :=
 idxR (fun m i => Inv i → vaeo big vfw m p1 dual3 (i : Int) = res) (fun _ i hl ih h => hs _ i hl h fun h4 => ih h4) (fun _ h => he _ h) big i0 hi (by have := vae; omega) h0
theorem vbqd {rec : Y2 → Y2 → Int → Z1} {k : Z1} {p1 : Y2} {dual3 : Y2} {x4 : Int} (cnt : Nat) (Inv : Nat → Prop) {res : Z1} (hn : cnt ≤ 500000000000)
 (hs : ∀ (rc : Y2 → Y2 → Int → Int → Z1) (i : Nat), i < cnt → Inv i → (Inv (i + 1) → rc p1 dual3 x4 ((i + 1 : Nat) : Int) = res) → vnu rc (voe rec) p1 dual3 x4 (i : Int) = res)
 (he : ∀ (rc : Y2 → Y2 → Int → Int → Z1), Inv cnt → vnu rc (voe rec) p1 dual3 x4 (cnt : Int) = res)
 (i0 : Nat) (hi : i0 ≤ cnt) (h0 : Inv i0) : vrh big rec k p1 dual3 x4 (i0 : Int) = res :=
 idxR (fun m i => Inv i → vzx big (voe rec) m p1 dual3 x4 (i : Int) = res) (fun _ i hl ih h => hs _ i hl h fun h4 => ih h4) (fun _ h => he _ h) big i0 hi (by have := vae; omega) h0
theorem vbsf {list0 : Y4} (cnt : Nat) (Inv : Nat → Prop) {res : Z1} (hn : cnt ≤ 500000000000)
 (hs : ∀ (rc : Y4 → Int → Z1) (i : Nat), i < cnt → Inv i → (Inv (i + 1) → rc list0 ((i + 1 : Nat) : Int) = res) → vmh rc vnh list0 (i : Int) = res)
 (he : ∀ (rc : Y4 → Int → Z1), Inv cnt → vmh rc vnh list0 (cnt : Int) = res)
 (i0 : Nat) (hi : i0 ≤ cnt) (h0 : Inv i0) : vapl big list0 (i0 : Int) = res :=
 idxR (fun m i => Inv i → vacn big vnh m list0 (i : Int) = res) (fun _ i hl ih h => hs _ i hl h fun h4 => ih h4) (fun _ h => he _ h) big i0 hi (by have := vae; omega) h0
theorem vbqu {a0 : Y4} {b1 : Y4} (cnt : Nat) (Inv : Nat → Prop) {res : Z1} (hn : cnt ≤ 500000000000)
 (hs : ∀ (rc : Y4 → Y4 → Int → Z1) (i : Nat), i < cnt → Inv i → (Inv (i + 1) → rc a0 b1 ((i + 1 : Nat) : Int) = res) → vom rc vou a0 b1 (i : Int) = res)
 (he : ∀ (rc : Y4 → Y4 → Int → Z1), Inv cnt → vom rc vou a0 b1 (cnt : Int) = res)
 (i0 : Nat) (hi : i0 ≤ cnt) (h0 : Inv i0) : vaoh big a0 b1 (i0 : Int) = res :=
 idxR (fun m i => Inv i → vafc big vou m a0 b1 (i : Int) = res) (fun _ i hl ih h => hs _ i hl h fun h4 => ih h4) (fun _ h => he _ h) big i0 hi (by have := vae; omega) h0
theorem vbdo {p1 : Y2} {n4 : Int} (cnt : Nat) (Inv : Nat → Y4 → Prop) {res : Z0} (hn : cnt ≤ 500000000000)
 (hs : ∀ (rc : Y2 → Int → Y4 → Int → Z0) (i : Nat) (best5 : Y4), i < cnt → Inv i best5 → (∀ (best5' : Y4), Inv (i + 1) best5' → rc p1 n4 best5' ((i + 1 : Nat) : Int) = res) → vfs (vsx big rc vdm) vdm p1 n4 best5 (i : Int) = res)
 (he : ∀ (rc : Y2 → Int → Y4 → Int → Z0) (best5 : Y4), Inv cnt best5 → vfs (vsx big rc vdm) vdm p1 n4 best5 (cnt : Int) = res)
 (i0 : Nat) (hi : i0 ≤ cnt) (best5 : Y4) (h0 : Inv i0 best5) : vank big p1 n4 best5 (i0 : Int) = res :=
 idxR (fun m i => ∀ (best5 : Y4), Inv i best5 → vyn big vdm m p1 n4 best5 (i : Int) = res) (fun _ i hl ih best5 h => hs _ i best5 hl h fun best5' h4 => ih best5' h4) (fun _ best5 h => he _ best5 h) big i0 hi (by have := vae; omega) best5 h0
theorem vbdf {rec : Y2 → Int → Y4 → Int → Z0} {k : Y4 → Z0} {p1 : Y2} {n4 : Int} {a6 : Int} (cnt : Nat) (Inv : Nat → Y4 → Prop) {res : Z0} (hn : cnt ≤ 500000000000)
 (hs : ∀ (rc : Y2 → Int → Y4 → Int → Int → Z0) (i : Nat) (best5 : Y4), i < cnt → Inv i best5 → (∀ (best5' : Y4), Inv (i + 1) best5' → rc p1 n4 best5' a6 ((i + 1 : Nat) : Int) = res) → vfv (vpt big rc (vdj rec)) (vdj rec) p1 n4 best5 a6 (i : Int) = res)
 (he : ∀ (rc : Y2 → Int → Y4 → Int → Int → Z0) (best5 : Y4), Inv cnt best5 → vfv (vpt big rc (vdj rec)) (vdj rec) p1 n4 best5 a6 (cnt : Int) = res)
 (i0 : Nat) (hi : i0 ≤ cnt) (best5 : Y4) (h0 : Inv i0 best5) : vsx big rec k p1 n4 best5 a6 (i0 : Int) = res :=
 idxR (fun m i => ∀ (best5 : Y4), Inv i best5 → vxh big (vdj rec) m p1 n4 best5 a6 (i : Int) = res) (fun _ i hl ih best5 h => hs _ i best5 hl h fun best5' h4 => ih best5' h4) (fun _ best5 h => he _ best5 h) big i0 hi (by have := vae; omega) best5 h0
theorem vaut {rec : Y2 → Int → Y4 → Int → Int → Z0} {k : Y2 → Int → Y4 → Int → Z0} {p1 : Y2} {n4 : Int} {a6 : Int} {b7 : Int} (cnt : Nat) (Inv : Nat → Y4 → Prop) {res : Z0} (hn : cnt ≤ 500000000000)
 (hs : ∀ (rc : Y2 → Int → Y4 → Int → Int → Int → Z0) (i : Nat) (best5 : Y4), i < cnt → Inv i best5 → (∀ (best5' : Y4), Inv (i + 1) best5' → rc p1 n4 best5' a6 b7 ((i + 1 : Nat) : Int) = res) → vcj rc (vet rec) p1 n4 best5 a6 b7 (i : Int) = res)
 (he : ∀ (rc : Y2 → Int → Y4 → Int → Int → Int → Z0) (best5 : Y4), Inv cnt best5 → vcj rc (vet rec) p1 n4 best5 a6 b7 (cnt : Int) = res)
 (i0 : Nat) (hi : i0 ≤ cnt) (best5 : Y4) (h0 : Inv i0 best5) : vpt big rec k p1 n4 best5 a6 b7 (i0 : Int) = res :=
 idxR (fun m i => ∀ (best5 : Y4), Inv i best5 → vtm big (vet rec) m p1 n4 best5 a6 b7 (i : Int) = res) (fun _ i hl ih best5 h => hs _ i best5 hl h fun best5' h4 => ih best5' h4) (fun _ best5 h => he _ best5 h) big i0 hi (by have := vae; omega) best5 h0
theorem vbqp {a0 : Y4} {b1 : Y4} (cnt : Nat) (Inv : Nat → Prop) {res : Z1} (hn : cnt ≤ 500000000000)
 (hs : ∀ (rc : Y4 → Y4 → Int → Z1) (i : Nat), i < cnt → Inv i → (Inv (i + 1) → rc a0 b1 ((i + 1 : Nat) : Int) = res) → vmo rc von a0 b1 (i : Int) = res)
 (he : ∀ (rc : Y4 → Y4 → Int → Z1), Inv cnt → vmo rc von a0 b1 (cnt : Int) = res)
 (i0 : Nat) (hi : i0 ≤ cnt) (h0 : Inv i0) : vanz big a0 b1 (i0 : Int) = res :=
 idxR (fun m i => Inv i → vaby big von m a0 b1 (i : Int) = res) (fun _ i hl ih h => hs _ i hl h fun h4 => ih h4) (fun _ h => he _ h) big i0 hi (by have := vae; omega) h0
theorem vbby {good1 : Unit} {l6 : Y1} {t26 : Int} (cnt : Nat) (Inv : Nat → Y4 → Prop) {res : Z0} (hn : cnt ≤ 500000000000)
 (hs : ∀ (rc : Unit → Y1 → Y4 → Int → Int → Z0) (i : Nat) (best8 : Y4), i < cnt → Inv i best8 → (∀ (best8' : Y4), Inv (i + 1) best8' → rc good1 l6 best8' t26 ((i + 1 : Nat) : Int) = res) → vfp (vss big rc vdk) vdk good1 l6 best8 t26 (i : Int) = res)
 (he : ∀ (rc : Unit → Y1 → Y4 → Int → Int → Z0) (best8 : Y4), Inv cnt best8 → vfp (vss big rc vdk) vdk good1 l6 best8 t26 (cnt : Int) = res)
 (i0 : Nat) (hi : i0 ≤ cnt) (best8 : Y4) (h0 : Inv i0 best8) : vsm big good1 l6 best8 t26 (i0 : Int) = res :=
 idxR (fun m i => ∀ (best8 : Y4), Inv i best8 → vabc big vdk m good1 l6 best8 t26 (i : Int) = res) (fun _ i hl ih best8 h => hs _ i best8 hl h fun best8' h4 => ih best8' h4) (fun _ best8 h => he _ best8 h) big i0 hi (by have := vae; omega) best8 h0
theorem vbfv {rec : Unit → Y1 → Y4 → Int → Int → Z0} {k : Y4 → Z0} {good1 : Unit} {l6 : Y1} {a9 : Int} {t26 : Int} {t27 : Int} {t34 : Int} (cnt : Nat) (Inv : Nat → Y4 → Prop) {res : Z0} (hn : cnt ≤ 500000000000)
 (hs : ∀ (rc : Unit → Y1 → Y4 → Int → Int → Int → Int → Int → Z0) (i : Nat) (best8 : Y4), i < cnt → Inv i best8 → (∀ (best8' : Y4), Inv (i + 1) best8' → rc good1 l6 best8' a9 t26 t27 t34 ((i + 1 : Nat) : Int) = res) → vgy (vqf big rc (vds rec)) (vds rec) good1 l6 best8 a9 t26 t27 t34 (i : Int) = res)
 (he : ∀ (rc : Unit → Y1 → Y4 → Int → Int → Int → Int → Int → Z0) (best8 : Y4), Inv cnt best8 → vgy (vqf big rc (vds rec)) (vds rec) good1 l6 best8 a9 t26 t27 t34 (cnt : Int) = res)
 (i0 : Nat) (hi : i0 ≤ cnt) (best8 : Y4) (h0 : Inv i0 best8) : vss big rec k good1 l6 best8 a9 t26 t27 t34 (i0 : Int) = res :=
 idxR (fun m i => ∀ (best8 : Y4), Inv i best8 → vxs big (vds rec) m good1 l6 best8 a9 t26 t27 t34 (i : Int) = res) (fun _ i hl ih best8 h => hs _ i best8 hl h fun best8' h4 => ih best8' h4) (fun _ best8 h => he _ best8 h) big i0 hi (by have := vae; omega) best8 h0
theorem vaxs {rec : Unit → Y1 → Y4 → Int → Int → Int → Int → Int → Z0} {k : Unit → Y1 → Y4 → Int → Int → Z0} {good1 : Unit} {l6 : Y1} {a9 : Int} {b10 : Int} {t26 : Int} {t27 : Int} {t34 : Int} {t35 : Int} {t42 : Int} (cnt : Nat) (Inv : Nat → Y4 → Prop) {res : Z0} (hn : cnt ≤ 500000000000)
 (hs : ∀ (rc : Unit → Y1 → Y4 → Int → Int → Int → Int → Int → Int → Int → Int → Z0) (i : Nat) (best8 : Y4), i < cnt → Inv i best8 → (∀ (best8' : Y4), Inv (i + 1) best8' → rc good1 l6 best8' a9 b10 t26 t27 t34 t35 t42 ((i + 1 : Nat) : Int) = res) → vdg rc (ven rec) good1 l6 best8 a9 b10 t26 t27 t34 t35 t42 (i : Int) = res)
 (he : ∀ (rc : Unit → Y1 → Y4 → Int → Int → Int → Int → Int → Int → Int → Int → Z0) (best8 : Y4), Inv cnt best8 → vdg rc (ven rec) good1 l6 best8 a9 b10 t26 t27 t34 t35 t42 (cnt : Int) = res)
 (i0 : Nat) (hi : i0 ≤ cnt) (best8 : Y4) (h0 : Inv i0 best8) : vqf big rec k good1 l6 best8 a9 b10 t26 t27 t34 t35 t42 (i0 : Int) = res :=
 idxR (fun m i => ∀ (best8 : Y4), Inv i best8 → vtk big (ven rec) m good1 l6 best8 a9 b10 t26 t27 t34 t35 t42 (i : Int) = res) (fun _ i hl ih best8 h => hs _ i best8 hl h fun best8' h4 => ih best8' h4) (fun _ best8 h => he _ best8 h) big i0 hi (by have := vae; omega) best8 h0
theorem vbep {p1 : Y2} {n4 : Int} (cnt : Nat) (Inv : Nat → Y4 → Prop) {res : Z0} (hn : cnt ≤ 500000000000)
 (hs : ∀ (rc : Y2 → Int → Y4 → Int → Z0) (i : Nat) (best5 : Y4), i < cnt → Inv i best5 → (∀ (best5' : Y4), Inv (i + 1) best5' → rc p1 n4 best5' ((i + 1 : Nat) : Int) = res) → vhd (vrz big rc vdl) vdl p1 n4 best5 (i : Int) = res)
 (he : ∀ (rc : Y2 → Int → Y4 → Int → Z0) (best5 : Y4), Inv cnt best5 → vhd (vrz big rc vdl) vdl p1 n4 best5 (cnt : Int) = res)
 (i0 : Nat) (hi : i0 ≤ cnt) (best5 : Y4) (h0 : Inv i0 best5) : vapg big p1 n4 best5 (i0 : Int) = res :=
 idxR (fun m i => ∀ (best5 : Y4), Inv i best5 → vaec big vdl m p1 n4 best5 (i : Int) = res) (fun _ i hl ih best5 h => hs _ i best5 hl h fun best5' h4 => ih best5' h4) (fun _ best5 h => he _ best5 h) big i0 hi (by have := vae; omega) best5 h0
theorem vbcu {rec : Y2 → Int → Y4 → Int → Z0} {k : Y4 → Z0} {p1 : Y2} {n4 : Int} {x6 : Int} (cnt : Nat) (Inv : Nat → Y4 → Prop) {res : Z0} (hn : cnt ≤ 500000000000)
 (hs : ∀ (rc : Y2 → Int → Y4 → Int → Int → Z0) (i : Nat) (best5 : Y4), i < cnt → Inv i best5 → (∀ (best5' : Y4), Inv (i + 1) best5' → rc p1 n4 best5' x6 ((i + 1 : Nat) : Int) = res) → vgh (vqe big rc (vdr rec)) (vdr rec) p1 n4 best5 x6 (i : Int) = res)
 (he : ∀ (rc : Y2 → Int → Y4 → Int → Int → Z0) (best5 : Y4), Inv cnt best5 → vgh (vqe big rc (vdr rec)) (vdr rec) p1 n4 best5 x6 (cnt : Int) = res)
 (i0 : Nat) (hi : i0 ≤ cnt) (best5 : Y4) (h0 : Inv i0 best5) : vrz big rec k p1 n4 best5 x6 (i0 : Int) = res :=
 idxR (fun m i => ∀ (best5 : Y4), Inv i best5 → vaex big (vdr rec) m p1 n4 best5 x6 (i : Int) = res) (fun _ i hl ih best5 h => hs _ i best5 hl h fun best5' h4 => ih best5' h4) (fun _ best5 h => he _ best5 h) big i0 hi (by have := vae; omega) best5 h0
theorem vawu {rec : Y2 → Int → Y4 → Int → Int → Z0} {k : Y2 → Int → Y4 → Int → Z0} {p1 : Y2} {n4 : Int} {x6 : Int} {y7 : Int} (cnt : Nat) (Inv : Nat → Y4 → Prop) {res : Z0} (hn : cnt ≤ 500000000000)
 (hs : ∀ (rc : Y2 → Int → Y4 → Int → Int → Int → Z0) (i : Nat) (best5 : Y4), i < cnt → Inv i best5 → (∀ (best5' : Y4), Inv (i + 1) best5' → rc p1 n4 best5' x6 y7 ((i + 1 : Nat) : Int) = res) → vcn rc (veu rec) p1 n4 best5 x6 y7 (i : Int) = res)
 (he : ∀ (rc : Y2 → Int → Y4 → Int → Int → Int → Z0) (best5 : Y4), Inv cnt best5 → vcn rc (veu rec) p1 n4 best5 x6 y7 (cnt : Int) = res)
 (i0 : Nat) (hi : i0 ≤ cnt) (best5 : Y4) (h0 : Inv i0 best5) : vqe big rec k p1 n4 best5 x6 y7 (i0 : Int) = res :=
 idxR (fun m i => ∀ (best5 : Y4), Inv i best5 → vtl big (veu rec) m p1 n4 best5 x6 y7 (i : Int) = res) (fun _ i hl ih best5 h => hs _ i best5 hl h fun best5' h4 => ih best5' h4) (fun _ best5 h => he _ best5 h) big i0 hi (by have := vae; omega) best5 h0
theorem vbsk {l0 : Y1} {t10 : Int} (cnt : Nat) (Inv : Nat → Prop) {Q : Z4 → Prop} (hn : cnt ≤ 500000000000)
 (hs : ∀ (rc : Y1 → Int → Int → Z4) (i : Nat), i < cnt → Inv i → (Inv (i + 1) → Q (rc l0 t10 ((i + 1 : Nat) : Int))) → Q (vpb (vst big rc vhk) vhk l0 t10 (i : Int)))
 (he : ∀ (rc : Y1 → Int → Int → Z4), Inv cnt → Q (vpb (vst big rc vhk) vhk l0 t10 (cnt : Int)))
 (i0 : Nat) (hi : i0 ≤ cnt) (h0 : Inv i0) : Q (vaqb big l0 t10 (i0 : Int)) :=
 idxR (fun m i => Inv i → Q (vaev big vhk m l0 t10 (i : Int))) (fun _ i hl ih h => hs _ i hl h fun h4 => ih h4) (fun _ h => he _ h) big i0 hi (by have := vae; omega) h0
theorem vbsz {rec : Y1 → Int → Int → Z4} {k : Z4} {l0 : Y1} {x3 : Int} {t10 : Int} {t11 : Int} {t18 : Int} (cnt : Nat) (Inv : Nat → Prop) {Q : Z4 → Prop} (hn : cnt ≤ 500000000000)
 (hs : ∀ (rc : Y1 → Int → Int → Int → Int → Int → Z4) (i : Nat), i < cnt → Inv i → (Inv (i + 1) → Q (rc l0 x3 t10 t11 t18 ((i + 1 : Nat) : Int))) → Q (vmq (vrm big rc (vgi rec)) (vgi rec) l0 x3 t10 t11 t18 (i : Int)))
 (he : ∀ (rc : Y1 → Int → Int → Int → Int → Int → Z4), Inv cnt → Q (vmq (vrm big rc (vgi rec)) (vgi rec) l0 x3 t10 t11 t18 (cnt : Int)))
 (i0 : Nat) (hi : i0 ≤ cnt) (h0 : Inv i0) : Q (vst big rec k l0 x3 t10 t11 t18 (i0 : Int)) :=
 idxR (fun m i => Inv i → Q (vzi big (vgi rec) m l0 x3 t10 t11 t18 (i : Int))) (fun _ i hl ih h => hs _ i hl h fun h4 => ih h4) (fun _ h => he _ h) big i0 hi (by have := vae; omega) h0
theorem vbqv {rec : Y1 → Int → Int → Int → Int → Int → Z4} {k : Y1 → Int → Int → Z4} {l0 : Y1} {x3 : Int} {y4 : Int} {t10 : Int} {t11 : Int} {t18 : Int} {t19 : Int} {t26 : Int} (cnt : Nat) (Inv : Nat → Prop) {Q : Z4 → Prop} (hn : cnt ≤ 500000000000)
 (hs : ∀ (rc : Y1 → Int → Int → Int → Int → Int → Int → Int → Int → Z4) (i : Nat), i < cnt → Inv i → (Inv (i + 1) → Q (rc l0 x3 y4 t10 t11 t18 t19 t26 ((i + 1 : Nat) : Int))) → Q (vnn rc (vms rec) l0 x3 y4 t10 t11 t18 t19 t26 (i : Int)))
 (he : ∀ (rc : Y1 → Int → Int → Int → Int → Int → Int → Int → Int → Z4), Inv cnt → Q (vnn rc (vms rec) l0 x3 y4 t10 t11 t18 t19 t26 (cnt : Int)))
 (i0 : Nat) (hi : i0 ≤ cnt) (h0 : Inv i0) : Q (vrm big rec k l0 x3 y4 t10 t11 t18 t19 t26 (i0 : Int)) :=
 idxR (fun m i => Inv i → Q (vadh big (vms rec) m l0 x3 y4 t10 t11 t18 t19 t26 (i : Int))) (fun _ i hl ih h => hs _ i hl h fun h4 => ih h4) (fun _ h => he _ h) big i0 hi (by have := vae; omega) h0
theorem vbru {p1 : Y2} {n4 : Int} (cnt : Nat) (Inv : Nat → Prop) {Q : Z0 → Prop} (hn : cnt ≤ 500000000000)
 (hs : ∀ (rc : Y2 → Int → Int → Z0) (i : Nat), i < cnt → Inv i → (Inv (i + 1) → Q (rc p1 n4 ((i + 1 : Nat) : Int))) → Q (vmr (vsc big rc vgs) vgs p1 n4 (i : Int)))
 (he : ∀ (rc : Y2 → Int → Int → Z0), Inv cnt → Q (vmr (vsc big rc vgs) vgs p1 n4 (cnt : Int)))
 (i0 : Nat) (hi : i0 ≤ cnt) (h0 : Inv i0) : Q (vaos big p1 n4 (i0 : Int)) :=
 idxR (fun m i => Inv i → Q (vyq big vgs m p1 n4 (i : Int))) (fun _ i hl ih h => hs _ i hl h fun h4 => ih h4) (fun _ h => he _ h) big i0 hi (by have := vae; omega) h0
theorem vbsb {rec : Y2 → Int → Int → Z0} {k : Z0} {p1 : Y2} {n4 : Int} {x5 : Int} (cnt : Nat) (Inv : Nat → Prop) {Q : Z0 → Prop} (hn : cnt ≤ 500000000000)
 (hs : ∀ (rc : Y2 → Int → Int → Int → Z0) (i : Nat), i < cnt → Inv i → (Inv (i + 1) → Q (rc p1 n4 x5 ((i + 1 : Nat) : Int))) → Q (vpf (vsk big rc (vgt rec)) (vgt rec) p1 n4 x5 (i : Int)))
 (he : ∀ (rc : Y2 → Int → Int → Int → Z0), Inv cnt → Q (vpf (vsk big rc (vgt rec)) (vgt rec) p1 n4 x5 (cnt : Int)))
 (i0 : Nat) (hi : i0 ≤ cnt) (h0 : Inv i0) : Q (vsc big rec k p1 n4 x5 (i0 : Int)) :=
 idxR (fun m i => Inv i → Q (vabt big (vgt rec) m p1 n4 x5 (i : Int))) (fun _ i hl ih h => hs _ i hl h fun h4 => ih h4) (fun _ h => he _ h) big i0 hi (by have := vae; omega) h0
theorem vbqq {rec : Y2 → Int → Int → Int → Z0} {k : Y2 → Int → Int → Z0} {p1 : Y2} {n4 : Int} {x5 : Int} {y6 : Int} (cnt : Nat) (Inv : Nat → Prop) {Q : Z0 → Prop} (hn : cnt ≤ 500000000000)
 (hs : ∀ (rc : Y2 → Int → Int → Int → Int → Z0) (i : Nat), i < cnt → Inv i → (Inv (i + 1) → Q (rc p1 n4 x5 y6 ((i + 1 : Nat) : Int))) → Q (vok rc (vmj rec) p1 n4 x5 y6 (i : Int)))
 (he : ∀ (rc : Y2 → Int → Int → Int → Int → Z0), Inv cnt → Q (vok rc (vmj rec) p1 n4 x5 y6 (cnt : Int)))
 (i0 : Nat) (hi : i0 ≤ cnt) (h0 : Inv i0) : Q (vsk big rec k p1 n4 x5 y6 (i0 : Int)) :=
 idxR (fun m i => Inv i → Q (vyd big (vmj rec) m p1 n4 x5 y6 (i : Int))) (fun _ i hl ih h => hs _ i hl h fun h4 => ih h4) (fun _ h => he _ h) big i0 hi (by have := vae; omega) h0
theorem vbsv {l0 : Y1} {t10 : Int} (cnt : Nat) (Inv : Nat → Prop) {Q : Z4 → Prop} (hn : cnt ≤ 500000000000)
 (hs : ∀ (rc : Y1 → Int → Int → Z4) (i : Nat), i < cnt → Inv i → (Inv (i + 1) → Q (rc l0 t10 ((i + 1 : Nat) : Int))) → Q (vmk (vrt big rc vhe) vhe l0 t10 (i : Int)))
 (he : ∀ (rc : Y1 → Int → Int → Z4), Inv cnt → Q (vmk (vrt big rc vhe) vhe l0 t10 (cnt : Int)))
 (i0 : Nat) (hi : i0 ≤ cnt) (h0 : Inv i0) : Q (vapq big l0 t10 (i0 : Int)) :=
 idxR (fun m i => Inv i → Q (vxl big vhe m l0 t10 (i : Int))) (fun _ i hl ih h => hs _ i hl h fun h4 => ih h4) (fun _ h => he _ h) big i0 hi (by have := vae; omega) h0
theorem vbra {rec : Y1 → Int → Int → Z4} {k : Z4} {l0 : Y1} {x3 : Int} {t10 : Int} {t11 : Int} {t18 : Int} (cnt : Nat) (Inv : Nat → Prop) {Q : Z4 → Prop} (hn : cnt ≤ 500000000000)
 (hs : ∀ (rc : Y1 → Int → Int → Int → Int → Int → Z4) (i : Nat), i < cnt → Inv i → (Inv (i + 1) → Q (rc l0 x3 t10 t11 t18 ((i + 1 : Nat) : Int))) → Q (vod (vrl big rc (vfl rec)) (vfl rec) l0 x3 t10 t11 t18 (i : Int)))
 (he : ∀ (rc : Y1 → Int → Int → Int → Int → Int → Z4), Inv cnt → Q (vod (vrl big rc (vfl rec)) (vfl rec) l0 x3 t10 t11 t18 (cnt : Int)))
 (i0 : Nat) (hi : i0 ≤ cnt) (h0 : Inv i0) : Q (vrt big rec k l0 x3 t10 t11 t18 (i0 : Int)) :=
 idxR (fun m i => Inv i → Q (vyj big (vfl rec) m l0 x3 t10 t11 t18 (i : Int))) (fun _ i hl ih h => hs _ i hl h fun h4 => ih h4) (fun _ h => he _ h) big i0 hi (by have := vae; omega) h0
theorem vbrx {rec : Y1 → Int → Int → Int → Int → Int → Z4} {k : Y1 → Int → Int → Z4} {l0 : Y1} {x3 : Int} {y4 : Int} {t10 : Int} {t11 : Int} {t18 : Int} {t19 : Int} {t26 : Int} (cnt : Nat) (Inv : Nat → Prop) {Q : Z4 → Prop} (hn : cnt ≤ 500000000000)
 (hs : ∀ (rc : Y1 → Int → Int → Int → Int → Int → Int → Int → Int → Z4) (i : Nat), i < cnt → Inv i → (Inv (i + 1) → Q (rc l0 x3 y4 t10 t11 t18 t19 t26 ((i + 1 : Nat) : Int))) → Q (vnc rc (vog rec) l0 x3 y4 t10 t11 t18 t19 t26 (i : Int)))
 (he : ∀ (rc : Y1 → Int → Int → Int → Int → Int → Int → Int → Int → Z4), Inv cnt → Q (vnc rc (vog rec) l0 x3 y4 t10 t11 t18 t19 t26 (cnt : Int)))
 (i0 : Nat) (hi : i0 ≤ cnt) (h0 : Inv i0) : Q (vrl big rec k l0 x3 y4 t10 t11 t18 t19 t26 (i0 : Int)) :=
 idxR (fun m i => Inv i → Q (vzz big (vog rec) m l0 x3 y4 t10 t11 t18 t19 t26 (i : Int))) (fun _ i hl ih h => hs _ i hl h fun h4 => ih h4) (fun _ h => he _ h) big i0 hi (by have := vae; omega) h0
theorem vbrt {l0 : Y1} {m1 : Y1} {f2 : Y4} {t12 : Int} (cnt : Nat) (Inv : Nat → Prop) {res : Z1} (hn : cnt ≤ 500000000000)
 (hs : ∀ (rc : Y1 → Y1 → Y4 → Int → Int → Z1) (i : Nat), i < cnt → Inv i → (Inv (i + 1) → rc l0 m1 f2 t12 ((i + 1 : Nat) : Int) = res) → vob (vsg big rc vfc) vfc l0 m1 f2 t12 (i : Int) = res)
 (he : ∀ (rc : Y1 → Y1 → Y4 → Int → Int → Z1), Inv cnt → vob (vsg big rc vfc) vfc l0 m1 f2 t12 (cnt : Int) = res)
 (i0 : Nat) (hi : i0 ≤ cnt) (h0 : Inv i0) : vaof big l0 m1 f2 t12 (i0 : Int) = res :=
 idxR (fun m i => Inv i → vabm big vfc m l0 m1 f2 t12 (i : Int) = res) (fun _ i hl ih h => hs _ i hl h fun h4 => ih h4) (fun _ h => he _ h) big i0 hi (by have := vae; omega) h0
theorem vbsg {rec : Y1 → Y1 → Y4 → Int → Int → Z1} {k : Z1} {l0 : Y1} {m1 : Y1} {f2 : Y4} {x7 : Int} {t12 : Int} {t13 : Int} {t17 : Int} (cnt : Nat) (Inv : Nat → Prop) {res : Z1} (hn : cnt ≤ 500000000000)
 (hs : ∀ (rc : Y1 → Y1 → Y4 → Int → Int → Int → Int → Int → Z1) (i : Nat), i < cnt → Inv i → (Inv (i + 1) → rc l0 m1 f2 x7 t12 t13 t17 ((i + 1 : Nat) : Int) = res) → vmu rc (vox rec) l0 m1 f2 x7 t12 t13 t17 (i : Int) = res)
 (he : ∀ (rc : Y1 → Y1 → Y4 → Int → Int → Int → Int → Int → Z1), Inv cnt → vmu rc (vox rec) l0 m1 f2 x7 t12 t13 t17 (cnt : Int) = res)
 (i0 : Nat) (hi : i0 ≤ cnt) (h0 : Inv i0) : vsg big rec k l0 m1 f2 x7 t12 t13 t17 (i0 : Int) = res :=
 idxR (fun m i => Inv i → vaaa big (vox rec) m l0 m1 f2 x7 t12 t13 t17 (i : Int) = res) (fun _ i hl ih h => hs _ i hl h fun h4 => ih h4) (fun _ h => he _ h) big i0 hi (by have := vae; omega) h0
theorem vbsq (self_zz70 : Z19 → Z12) {l0 : Y1} {m1 : Y1} {f2 : Y4} {t23 : Int} (cnt : Nat) (Inv : Nat → Prop) {res : Z12} (hn : cnt ≤ 500000000000)
 (hs : ∀ (rc : Y1 → Y1 → Y4 → Int → Int → Z12) (i : Nat), i < cnt → Inv i → (Inv (i + 1) → rc l0 m1 f2 t23 ((i + 1 : Nat) : Int) = res) → vns self_zz70 rc (vpa self_zz70) l0 m1 f2 t23 (i : Int) = res)
 (he : ∀ (rc : Y1 → Y1 → Y4 → Int → Int → Z12), Inv cnt → vns self_zz70 rc (vpa self_zz70) l0 m1 f2 t23 (cnt : Int) = res)
 (i0 : Nat) (hi : i0 ≤ cnt) (h0 : Inv i0) : vaqx self_zz70 big l0 m1 f2 t23 (i0 : Int) = res :=
 idxR (fun m i => Inv i → vacs self_zz70 big (vpa self_zz70) m l0 m1 f2 t23 (i : Int) = res) (fun _ i hl ih h => hs _ i hl h fun h4 => ih h4) (fun _ h => he _ h) big i0 hi (by have := vae; omega) h0
theorem vbqn {some1 : Y4} {p2 : Y2} (cnt : Nat) (Inv : Nat → Y4 → Prop) {Q : Z8 → Prop} (hn : cnt ≤ 500000000000)
 (hs : ∀ (rc : Y4 → Y2 → Y4 → Int → Z8) (i : Nat) (out5 : Y4), i < cnt → Inv i out5 → (∀ (out5' : Y4), Inv (i + 1) out5' → Q (rc some1 p2 out5' ((i + 1 : Nat) : Int))) → Q (vpd rc (vnj (voh big)) some1 p2 out5 (i : Int)))
 (he : ∀ (rc : Y4 → Y2 → Y4 → Int → Z8) (out5 : Y4), Inv cnt out5 → Q (vpd rc (vnj (voh big)) some1 p2 out5 (cnt : Int)))
 (i0 : Nat) (hi : i0 ≤ cnt) (out5 : Y4) (h0 : Inv i0 out5) : Q (vaoj big some1 p2 out5 (i0 : Int)) :=
 idxR (fun m i => ∀ (out5 : Y4), Inv i out5 → Q (vza big (vnj (voh big)) m some1 p2 out5 (i : Int))) (fun _ i hl ih out5 h => hs _ i out5 hl h fun out5' h4 => ih out5' h4) (fun _ out5 h => he _ out5 h) big i0 hi (by have := vae; omega) out5 h0
theorem vbtk {p2 : Y2} {dual7 : Y2} (cnt : Nat) (Inv : Nat → Y4 → Prop) {Q : Z8 → Prop} (hn : cnt ≤ 500000000000)
 (hs : ∀ (rc : Y2 → Y4 → Y2 → Int → Z8) (i : Nat) (out5 : Y4), i < cnt → Inv i out5 → (∀ (out5' : Y4), Inv (i + 1) out5' → Q (rc p2 out5' dual7 ((i + 1 : Nat) : Int))) → Q (vnw (vpq big rc vhl) vhl p2 out5 dual7 (i : Int)))
 (he : ∀ (rc : Y2 → Y4 → Y2 → Int → Z8) (out5 : Y4), Inv cnt out5 → Q (vnw (vpq big rc vhl) vhl p2 out5 dual7 (cnt : Int)))
 (i0 : Nat) (hi : i0 ≤ cnt) (out5 : Y4) (h0 : Inv i0 out5) : Q (voh big p2 out5 dual7 (i0 : Int)) :=
 idxR (fun m i => ∀ (out5 : Y4), Inv i out5 → Q (vaea big vhl m p2 out5 dual7 (i : Int))) (fun _ i hl ih out5 h => hs _ i out5 hl h fun out5' h4 => ih out5' h4) (fun _ out5 h => he _ out5 h) big i0 hi (by have := vae; omega) out5 h0
theorem vbmj {rec : Y2 → Y4 → Y2 → Int → Z8} {k : Y4 → Z8} {p2 : Y2} {dual7 : Y2} {n8 : Int} {now9 : Y4} (cnt : Nat) (Inv : Nat → Y4 → Prop) {Q : Z8 → Prop} (hn : cnt ≤ 500000000000)
 (hs : ∀ (rc : Y2 → Y4 → Y2 → Int → Y4 → Int → Z8) (i : Nat) (out5 : Y4), i < cnt → Inv i out5 → (∀ (out5' : Y4), Inv (i + 1) out5' → Q (rc p2 out5' dual7 n8 now9 ((i + 1 : Nat) : Int))) → Q (vlk (vpu big rc (vcq rec)) (vcq rec) p2 out5 dual7 n8 now9 (i : Int)))
 (he : ∀ (rc : Y2 → Y4 → Y2 → Int → Y4 → Int → Z8) (out5 : Y4), Inv cnt out5 → Q (vlk (vpu big rc (vcq rec)) (vcq rec) p2 out5 dual7 n8 now9 (cnt : Int)))
 (i0 : Nat) (hi : i0 ≤ cnt) (out5 : Y4) (h0 : Inv i0 out5) : Q (vpq big rec k p2 out5 dual7 n8 now9 (i0 : Int)) :=
 idxR (fun m i => ∀ (out5 : Y4), Inv i out5 → Q (vun big (vcq rec) m p2 out5 dual7 n8 now9 (i : Int))) (fun _ i hl ih out5 h => hs _ i out5 hl h fun out5' h4 => ih out5' h4) (fun _ out5 h => he _ out5 h) big i0 hi (by have := vae; omega) out5 h0
theorem vbmk {rec : Y2 → Y4 → Y2 → Int → Y4 → Int → Z8} {k : Y2 → Y4 → Y2 → Int → Z8} {p2 : Y2} {dual7 : Y2} {n8 : Int} {now9 : Y4} {i10 : Int} (cnt : Nat) (Inv : Nat → Y4 → Prop) {Q : Z8 → Prop} (hn : cnt ≤ 500000000000)
 (hs : ∀ (rc : Y2 → Y4 → Y2 → Int → Y4 → Int → Int → Z8) (i : Nat) (out5 : Y4), i < cnt → Inv i out5 → (∀ (out5' : Y4), Inv (i + 1) out5' → Q (rc p2 out5' dual7 n8 now9 i10 ((i + 1 : Nat) : Int))) → Q (vjd rc (vkh rec) p2 out5 dual7 n8 now9 i10 (i : Int)))
 (he : ∀ (rc : Y2 → Y4 → Y2 → Int → Y4 → Int → Int → Z8) (out5 : Y4), Inv cnt out5 → Q (vjd rc (vkh rec) p2 out5 dual7 n8 now9 i10 (cnt : Int)))
 (i0 : Nat) (hi : i0 ≤ cnt) (out5 : Y4) (h0 : Inv i0 out5) : Q (vpu big rec k p2 out5 dual7 n8 now9 i10 (i0 : Int)) :=
 idxR (fun m i => ∀ (out5 : Y4), Inv i out5 → Q (vue big (vkh rec) m p2 out5 dual7 n8 now9 i10 (i : Int))) (fun _ i hl ih out5 h => hs _ i out5 hl h fun out5' h4 => ih out5' h4) (fun _ out5 h => he _ out5 h) big i0 hi (by have := vae; omega) out5 h0
theorem vboc {t2 : Y2} {t3 : Y2} {p5 : Y2} {sub6 : Y4} (cnt : Nat) (Inv : Nat → Y2 → Prop) {Q : Z11 → Prop} (hn : cnt ≤ 500000000000)
 (hs : ∀ (rc : Y2 → Y2 → Y2 → Y4 → Y2 → Int → Z11) (i : Nat) (q7 : Y2), i < cnt → Inv i q7 → (∀ (q7' : Y2), Inv (i + 1) q7' → Q (rc t2 t3 p5 sub6 q7' ((i + 1 : Nat) : Int))) → Q (vit (vpo big rc vcu) vcu t2 t3 p5 sub6 q7 (i : Int)))
 (he : ∀ (rc : Y2 → Y2 → Y2 → Y4 → Y2 → Int → Z11) (q7 : Y2), Inv cnt q7 → Q (vit (vpo big rc vcu) vcu t2 t3 p5 sub6 q7 (cnt : Int)))
 (i0 : Nat) (hi : i0 ≤ cnt) (q7 : Y2) (h0 : Inv i0 q7) : Q (vaht big t2 t3 p5 sub6 q7 (i0 : Int)) :=
 idxR (fun m i => ∀ (q7 : Y2), Inv i q7 → Q (vul big vcu m t2 t3 p5 sub6 q7 (i : Int))) (fun _ i hl ih q7 h => hs _ i q7 hl h fun q7' h4 => ih q7' h4) (fun _ q7 h => he _ q7 h) big i0 hi (by have := vae; omega) q7 h0
theorem vbli {rec : Y2 → Y2 → Y2 → Y4 → Y2 → Int → Z11} {k : Y2 → Y2 → Y2 → Y2 → Z11} {t2 : Y2} {t3 : Y2} {p5 : Y2} {sub6 : Y4} {q7 : Y2} {i8 : Int} (cnt : Nat) (Inv : Nat → Y4 → Prop) {Q : Z11 → Prop} (hn : cnt ≤ 500000000000)
 (hs : ∀ (rc : Y2 → Y2 → Y2 → Y4 → Y2 → Int → Y4 → Int → Z11) (i : Nat) (below9 : Y4), i < cnt → Inv i below9 → (∀ (below9' : Y4), Inv (i + 1) below9' → Q (rc t2 t3 p5 sub6 q7 i8 below9' ((i + 1 : Nat) : Int))) → Q (vjn rc (viv rec) t2 t3 p5 sub6 q7 i8 below9 (i : Int)))
 (he : ∀ (rc : Y2 → Y2 → Y2 → Y4 → Y2 → Int → Y4 → Int → Z11) (below9 : Y4), Inv cnt below9 → Q (vjn rc (viv rec) t2 t3 p5 sub6 q7 i8 below9 (cnt : Int)))
 (i0 : Nat) (hi : i0 ≤ cnt) (below9 : Y4) (h0 : Inv i0 below9) : Q (vpo big rec k t2 t3 p5 sub6 q7 i8 below9 (i0 : Int)) :=
 idxR (fun m i => ∀ (below9 : Y4), Inv i below9 → Q (vvn big (viv rec) m t2 t3 p5 sub6 q7 i8 below9 (i : Int))) (fun _ i hl ih below9 h => hs _ i below9 hl h fun below9' h4 => ih below9' h4) (fun _ below9 h => he _ below9 h) big i0 hi (by have := vae; omega) below9 h0
theorem vbtq {list2 : Y4} {p3 : Y2} {q4 : Y2} {last7 : Int} (cnt : Nat) (Inv : Nat → Prop) {res : Z1} (hn : cnt ≤ 500000000000)
 (hs : ∀ (rc : Y4 → Y2 → Y2 → Int → Int → Z1) (i : Nat), i < cnt → Inv i → (Inv (i + 1) → rc list2 p3 q4 last7 ((i + 1 : Nat) : Int) = res) → vnd (vrf big rc vhi) vhi list2 p3 q4 last7 (i : Int) = res)
 (he : ∀ (rc : Y4 → Y2 → Y2 → Int → Int → Z1), Inv cnt → vnd (vrf big rc vhi) vhi list2 p3 q4 last7 (cnt : Int) = res)
 (i0 : Nat) (hi : i0 ≤ cnt) (h0 : Inv i0) : vaoi big list2 p3 q4 last7 (i0 : Int) = res :=
 idxR (fun m i => Inv i → vzk big vhi m list2 p3 q4 last7 (i : Int) = res) (fun _ i hl ih h => hs _ i hl h fun h4 => ih h4) (fun _ h => he _ h) big i0 hi (by have := vae; omega) h0
theorem vbql {rec : Y4 → Y2 → Y2 → Int → Int → Z1} {k : Z1} {list2 : Y4} {p3 : Y2} {q4 : Y2} {last7 : Int} {y8 : Int} (cnt : Nat) (Inv : Nat → Prop) {res : Z1} (hn : cnt ≤ 500000000000)
 (hs : ∀ (rc : Y4 → Y2 → Y2 → Int → Int → Int → Z1) (i : Nat), i < cnt → Inv i → (Inv (i + 1) → rc list2 p3 q4 last7 y8 ((i + 1 : Nat) : Int) = res) → vph rc (vos rec) list2 p3 q4 last7 y8 (i : Int) = res)
 (he : ∀ (rc : Y4 → Y2 → Y2 → Int → Int → Int → Z1), Inv cnt → vph rc (vos rec) list2 p3 q4 last7 y8 (cnt : Int) = res)
 (i0 : Nat) (hi : i0 ≤ cnt) (h0 : Inv i0) : vrf big rec k list2 p3 q4 last7 y8 (i0 : Int) = res :=
 idxR (fun m i => Inv i → vzs big (vos rec) m list2 p3 q4 last7 y8 (i : Int) = res) (fun _ i hl ih h => hs _ i hl h fun h4 => ih h4) (fun _ h => he _ h) big i0 hi (by have := vae; omega) h0
theorem vbqj (self_zz77 : Z18 → Z0) {begun2 : Y4} {p3 : Y2} {q4 : Y2} (cnt : Nat) (Inv : Nat → Prop) {res : Z0} (hn : cnt ≤ 500000000000)
 (hs : ∀ (rc : Y4 → Y2 → Y2 → Int → Z0) (i : Nat), i < cnt → Inv i → (Inv (i + 1) → rc begun2 p3 q4 ((i + 1 : Nat) : Int) = res) → voy self_zz77 rc (vme self_zz77) begun2 p3 q4 (i : Int) = res)
 (he : ∀ (rc : Y4 → Y2 → Y2 → Int → Z0), Inv cnt → voy self_zz77 rc (vme self_zz77) begun2 p3 q4 (cnt : Int) = res)
 (i0 : Nat) (hi : i0 ≤ cnt) (h0 : Inv i0) : vapo self_zz77 big begun2 p3 q4 (i0 : Int) = res :=
 idxR (fun m i => Inv i → vxr self_zz77 big (vme self_zz77) m begun2 p3 q4 (i : Int) = res) (fun _ i hl ih h => hs _ i hl h fun h4 => ih h4) (fun _ h => he _ h) big i0 hi (by have := vae; omega) h0
end Go.Proofs.Yteanfidobhpchaa
