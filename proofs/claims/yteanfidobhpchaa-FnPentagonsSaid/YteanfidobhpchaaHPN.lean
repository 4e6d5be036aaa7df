import Derived.Test.YteanfidobhpchaaPLib
import Derived.Test.YteanfidobhpchaaGPN
set_option linter.unusedVariables false
namespace Go.Proofs.Yteanfidobhpchaa
open Go Go.Gx Go.Proofs
theorem vbui {n1:Int} (cnt:Nat) (Inv:Nat→Z15→Y4→Prop) {Q:Z17→Prop} (hn:cnt≤500000000000)
 (hs:∀ (rc:Z15→Int→Y4→Int→Z17) (i:Nat) (c0:Z15) (out5:Y4),i<cnt→Inv i c0 out5→(∀ (c0':Z15) (out5':Y4),Inv (i+1) c0' out5'→Q (rc c0' n1 out5' ((i+1:Nat):Int)))→Q (vvo rc vwb c0 n1 out5 (i:Int)))
 (he:∀ (rc:Z15→Int→Y4→Int→Z17) (c0:Z15) (out5:Y4),Inv cnt c0 out5→Q (vvo rc vwb c0 n1 out5 (cnt:Int)))
 (i0:Nat) (hi:i0≤cnt) (c0:Z15) (out5:Y4) (h0:Inv i0 c0 out5):Q (vbbi big c0 n1 out5 (i0:Int)) :=
 idxR (fun m i=>∀ (c0:Z15) (out5:Y4),Inv i c0 out5→Q (vaps big vwb m c0 n1 out5 (i:Int))) (fun _ i hl ih c0 out5 h=>hs _ i c0 out5 hl h fun c0' out5' h4=>ih c0' out5' h4) (fun _ c0 out5 h=>he _ c0 out5 h) big i0 hi (by have:=vac;omega) c0 out5 h0
theorem vbuj {n0:Int} {list1:Y4} (cnt:Nat) (Inv:Nat→Prop) {Q:Z1→Prop} (hn:cnt≤500000000000)
 (hs:∀ (rc:Int→Y4→Int→Z1) (i:Nat),i<cnt→Inv i→(Inv (i+1)→Q (rc n0 list1 ((i+1:Nat):Int)))→Q (vvs rc vuj n0 list1 (i:Int)))
 (he:∀ (rc:Int→Y4→Int→Z1),Inv cnt→Q (vvs rc vuj n0 list1 (cnt:Int)))
 (i0:Nat) (hi:i0≤cnt) (h0:Inv i0):Q (vbbg big n0 list1 (i0:Int)) :=
 idxR (fun m i=>Inv i→Q (vapn big vuj m n0 list1 (i:Int))) (fun _ i hl ih h=>hs _ i hl h fun h4=>ih h4) (fun _ h=>he _ h) big i0 hi (by have:=vac;omega) h0
theorem vbut {l0:Y4} {n1:Int} (cnt:Nat) (Inv:Nat→(List Bool)→Prop) {Q:Z1→Prop} (hn:cnt≤500000000000)
 (hs:∀ (rc:Y4→Int→(List Bool)→Int→Z1) (i:Nat) (seen5:(List Bool)),i<cnt→Inv i seen5→(∀ (seen5':(List Bool)),Inv (i+1) seen5'→Q (rc l0 n1 seen5' ((i+1:Nat):Int)))→Q (vwu rc vvn l0 n1 seen5 (i:Int)))
 (he:∀ (rc:Y4→Int→(List Bool)→Int→Z1) (seen5:(List Bool)),Inv cnt seen5→Q (vwu rc vvn l0 n1 seen5 (cnt:Int)))
 (i0:Nat) (hi:i0≤cnt) (seen5:(List Bool)) (h0:Inv i0 seen5):Q (vbct big l0 n1 seen5 (i0:Int)) :=
 idxR (fun m i=>∀ (seen5:(List Bool)),Inv i seen5→Q (vapc big vvn m l0 n1 seen5 (i:Int))) (fun _ i hl ih seen5 h=>hs _ i seen5 hl h fun seen5' h4=>ih seen5' h4) (fun _ seen5 h=>he _ seen5 h) big i0 hi (by have:=vac;omega) seen5 h0
theorem vbuv {n0:Int} {pairs1:Z14} {t4:Y2} (cnt:Nat) (Inv:Nat→Y5→Prop) {Q:Z3→Prop} (hn:cnt≤500000000000)
 (hs:∀ (rc:Int→Z14→Y2→Y5→Int→Z3) (i:Nat) (leq5:Y5),i<cnt→Inv i leq5→(∀ (leq5':Y5),Inv (i+1) leq5'→Q (rc n0 pairs1 t4 leq5' ((i+1:Nat):Int)))→Q (vwt rc (vxe (vxa big)) n0 pairs1 t4 leq5 (i:Int)))
 (he:∀ (rc:Int→Z14→Y2→Y5→Int→Z3) (leq5:Y5),Inv cnt leq5→Q (vwt rc (vxe (vxa big)) n0 pairs1 t4 leq5 (cnt:Int)))
 (i0:Nat) (hi:i0≤cnt) (leq5:Y5) (h0:Inv i0 leq5):Q (vbdb big n0 pairs1 t4 leq5 (i0:Int)) :=
 idxR (fun m i=>∀ (leq5:Y5),Inv i leq5→Q (vaph big (vxe (vxa big)) m n0 pairs1 t4 leq5 (i:Int))) (fun _ i hl ih leq5 h=>hs _ i leq5 hl h fun leq5' h4=>ih leq5' h4) (fun _ leq5 h=>he _ leq5 h) big i0 hi (by have:=vac;omega) leq5 h0
theorem vbur {n0:Int} {pairs1:Z14} {t4:Y2} (cnt:Nat) (Inv:Nat→Y5→Prop) {Q:Z3→Prop} (hn:cnt≤500000000000)
 (hs:∀ (rc:Int→Z14→Y2→Y5→Int→Z3) (i:Nat) (leq5:Y5),i<cnt→Inv i leq5→(∀ (leq5':Y5),Inv (i+1) leq5'→Q (rc n0 pairs1 t4 leq5' ((i+1:Nat):Int)))→Q (vwk rc (vun (vkg big)) n0 pairs1 t4 leq5 (i:Int)))
 (he:∀ (rc:Int→Z14→Y2→Y5→Int→Z3) (leq5:Y5),Inv cnt leq5→Q (vwk rc (vun (vkg big)) n0 pairs1 t4 leq5 (cnt:Int)))
 (i0:Nat) (hi:i0≤cnt) (leq5:Y5) (h0:Inv i0 leq5):Q (vxa big n0 pairs1 t4 leq5 (i0:Int)) :=
 idxR (fun m i=>∀ (leq5:Y5),Inv i leq5→Q (vapk big (vun (vkg big)) m n0 pairs1 t4 leq5 (i:Int))) (fun _ i hl ih leq5 h=>hs _ i leq5 hl h fun leq5' h4=>ih leq5' h4) (fun _ leq5 h=>he _ leq5 h) big i0 hi (by have:=vac;omega) leq5 h0
theorem vbtb {n0:Int} {t4:Y2} (cnt:Nat) (Inv:Nat→Y5→Prop) {Q:Z3→Prop} (hn:cnt≤500000000000)
 (hs:∀ (rc:Int→Y2→Y5→Int→Z3) (i:Nat) (leq5:Y5),i<cnt→Inv i leq5→(∀ (leq5':Y5),Inv (i+1) leq5'→Q (rc n0 t4 leq5' ((i+1:Nat):Int)))→Q (vof (vsp big rc (via (vee big))) (via (vee big)) n0 t4 leq5 (i:Int)))
 (he:∀ (rc:Int→Y2→Y5→Int→Z3) (leq5:Y5),Inv cnt leq5→Q (vof (vsp big rc (via (vee big))) (via (vee big)) n0 t4 leq5 (cnt:Int)))
 (i0:Nat) (hi:i0≤cnt) (leq5:Y5) (h0:Inv i0 leq5):Q (vkg big n0 t4 leq5 (i0:Int)) :=
 idxR (fun m i=>∀ (leq5:Y5),Inv i leq5→Q (vyx big (via (vee big)) m n0 t4 leq5 (i:Int))) (fun _ i hl ih leq5 h=>hs _ i leq5 hl h fun leq5' h4=>ih leq5' h4) (fun _ leq5 h=>he _ leq5 h) big i0 hi (by have:=vac;omega) leq5 h0
theorem vbrv {rec:Int→Y2→Y5→Int→Z3} {k:Int→Y2→Y5→Z3} {n0:Int} {t4:Y2} {z9:Int} (cnt:Nat) (Inv:Nat→Y5→Prop) {Q:Z3→Prop} (hn:cnt≤500000000000)
 (hs:∀ (rc:Int→Y2→Y5→Int→Int→Z3) (i:Nat) (leq5:Y5),i<cnt→Inv i leq5→(∀ (leq5':Y5),Inv (i+1) leq5'→Q (rc n0 t4 leq5' z9 ((i+1:Nat):Int)))→Q (vqr (vti big rc (vhx rec)) (vhx rec) n0 t4 leq5 z9 (i:Int)))
 (he:∀ (rc:Int→Y2→Y5→Int→Int→Z3) (leq5:Y5),Inv cnt leq5→Q (vqr (vti big rc (vhx rec)) (vhx rec) n0 t4 leq5 z9 (cnt:Int)))
 (i0:Nat) (hi:i0≤cnt) (leq5:Y5) (h0:Inv i0 leq5):Q (vsp big rec k n0 t4 leq5 z9 (i0:Int)) :=
 idxR (fun m i=>∀ (leq5:Y5),Inv i leq5→Q (vaaf big (vhx rec) m n0 t4 leq5 z9 (i:Int))) (fun _ i hl ih leq5 h=>hs _ i leq5 hl h fun leq5' h4=>ih leq5' h4) (fun _ leq5 h=>he _ leq5 h) big i0 hi (by have:=vac;omega) leq5 h0
theorem vbtu {n0:Int} {t4:Y2} {leq5:Y5} (cnt:Nat) (Inv:Nat→Y2→Prop) {Q:Z3→Prop} (hn:cnt≤500000000000)
 (hs:∀ (rc:Int→Y2→Y5→Y2→Int→Z3) (i:Nat) (p12:Y2),i<cnt→Inv i p12→(∀ (p12':Y2),Inv (i+1) p12'→Q (rc n0 t4 leq5 p12' ((i+1:Nat):Int)))→Q (vqd (vua big rc vhu) vhu n0 t4 leq5 p12 (i:Int)))
 (he:∀ (rc:Int→Y2→Y5→Y2→Int→Z3) (p12:Y2),Inv cnt p12→Q (vqd (vua big rc vhu) vhu n0 t4 leq5 p12 (cnt:Int)))
 (i0:Nat) (hi:i0≤cnt) (p12:Y2) (h0:Inv i0 p12):Q (vee big n0 t4 leq5 p12 (i0:Int)) :=
 idxR (fun m i=>∀ (p12:Y2),Inv i p12→Q (vadc big vhu m n0 t4 leq5 p12 (i:Int))) (fun _ i hl ih p12 h=>hs _ i p12 hl h fun p12' h4=>ih p12' h4) (fun _ p12 h=>he _ p12 h) big i0 hi (by have:=vac;omega) p12 h0
theorem vbtm {rec:Int→Y2→Y5→Int→Int→Z3} {k:Int→Y2→Y5→Int→Z3} {n0:Int} {t4:Y2} {z9:Int} {x10:Int} (cnt:Nat) (Inv:Nat→Y5→Prop) {Q:Z3→Prop} (hn:cnt≤500000000000)
 (hs:∀ (rc:Int→Y2→Y5→Int→Int→Int→Z3) (i:Nat) (leq5:Y5),i<cnt→Inv i leq5→(∀ (leq5':Y5),Inv (i+1) leq5'→Q (rc n0 t4 leq5' z9 x10 ((i+1:Nat):Int)))→Q (vpz rc (vps rec) n0 t4 leq5 z9 x10 (i:Int)))
 (he:∀ (rc:Int→Y2→Y5→Int→Int→Int→Z3) (leq5:Y5),Inv cnt leq5→Q (vpz rc (vps rec) n0 t4 leq5 z9 x10 (cnt:Int)))
 (i0:Nat) (hi:i0≤cnt) (leq5:Y5) (h0:Inv i0 leq5):Q (vti big rec k n0 t4 leq5 z9 x10 (i0:Int)) :=
 idxR (fun m i=>∀ (leq5:Y5),Inv i leq5→Q (vzt big (vps rec) m n0 t4 leq5 z9 x10 (i:Int))) (fun _ i hl ih leq5 h=>hs _ i leq5 hl h fun leq5' h4=>ih leq5' h4) (fun _ leq5 h=>he _ leq5 h) big i0 hi (by have:=vac;omega) leq5 h0
theorem vbsq {rec:Int→Y2→Y5→Y2→Int→Z3} {k:Y2→Y2→Z3} {n0:Int} {t4:Y2} {leq5:Y5} {p12:Y2} {y13:Int} (cnt:Nat) (Inv:Nat→Y4→Prop) {Q:Z3→Prop} (hn:cnt≤500000000000)
 (hs:∀ (rc:Int→Y2→Y5→Y2→Int→Y4→Int→Z3) (i:Nat) (below14:Y4),i<cnt→Inv i below14→(∀ (below14':Y4),Inv (i+1) below14'→Q (rc n0 t4 leq5 p12 y13 below14' ((i+1:Nat):Int)))→Q (vny rc (vqw rec) n0 t4 leq5 p12 y13 below14 (i:Int)))
 (he:∀ (rc:Int→Y2→Y5→Y2→Int→Y4→Int→Z3) (below14:Y4),Inv cnt below14→Q (vny rc (vqw rec) n0 t4 leq5 p12 y13 below14 (cnt:Int)))
 (i0:Nat) (hi:i0≤cnt) (below14:Y4) (h0:Inv i0 below14):Q (vua big rec k n0 t4 leq5 p12 y13 below14 (i0:Int)) :=
 idxR (fun m i=>∀ (below14:Y4),Inv i below14→Q (vahr big (vqw rec) m n0 t4 leq5 p12 y13 below14 (i:Int))) (fun _ i hl ih below14 h=>hs _ i below14 hl h fun below14' h4=>ih below14' h4) (fun _ below14 h=>he _ below14 h) big i0 hi (by have:=vac;omega) below14 h0
theorem vbry {l0:Y4} {n1:Int} (cnt:Nat) (Inv:Nat→Prop) {res:Z8} (hn:cnt≤500000000000)
 (hs:∀ (rc:Y4→Int→Int→Z8) (i:Nat),i<cnt→Inv i→(Inv (i+1)→rc l0 n1 ((i+1:Nat):Int)=res)→vcq rc vca l0 n1 (i:Int)=res)
 (he:∀ (rc:Y4→Int→Int→Z8),Inv cnt→vcq rc vca l0 n1 (cnt:Int)=res)
 (i0:Nat) (hi:i0≤cnt) (h0:Inv i0):vafd big l0 n1 (i0:Int)=res :=
 idxR (fun m i=>Inv i→vtb big vca m l0 n1 (i:Int)=res) (fun _ i hl ih h=>hs _ i hl h fun h4=>ih h4) (fun _ h=>he _ h) big i0 hi (by have:=vac;omega) h0
theorem vbug {l0:Y4} {n1:Int} (cnt:Nat) (Inv:Nat→Prop) {Q:Z8→Prop} (hn:cnt≤500000000000)
 (hs:∀ (rc:Y4→Int→Int→Z8) (i:Nat),i<cnt→Inv i→(Inv (i+1)→Q (rc l0 n1 ((i+1:Nat):Int)))→Q (vcq rc vca l0 n1 (i:Int)))
 (he:∀ (rc:Y4→Int→Int→Z8),Inv cnt→Q (vcq rc vca l0 n1 (cnt:Int)))
 (i0:Nat) (hi:i0≤cnt) (h0:Inv i0):Q (vafd big l0 n1 (i0:Int)) :=
 idxR (fun m i=>Inv i→Q (vtb big vca m l0 n1 (i:Int))) (fun _ i hl ih h=>hs _ i hl h fun h4=>ih h4) (fun _ h=>he _ h) big i0 hi (by have:=vac;omega) h0
theorem vbtf {t2:Y2} {n3:Int} (cnt:Nat) (Inv:Nat→Z15→Z14→Prop) {Q:Z5→Prop} (hn:cnt≤500000000000)
 (hs:∀ (rc:Z15→Y2→Int→Z14→Int→Z5) (i:Nat) (c0:Z15) (pairs4:Z14),i<cnt→Inv i c0 pairs4→(∀ (c0':Z15) (pairs4':Z14),Inv (i+1) c0' pairs4'→Q (rc c0' t2 n3 pairs4' ((i+1:Nat):Int)))→Q (voy (vsi big rc (vgr (vdh big) (vaz big))) (vgr (vdh big) (vaz big)) c0 t2 n3 pairs4 (i:Int)))
 (he:∀ (rc:Z15→Y2→Int→Z14→Int→Z5) (c0:Z15) (pairs4:Z14),Inv cnt c0 pairs4→Q (voy (vsi big rc (vgr (vdh big) (vaz big))) (vgr (vdh big) (vaz big)) c0 t2 n3 pairs4 (cnt:Int)))
 (i0:Nat) (hi:i0≤cnt) (c0:Z15) (pairs4:Z14) (h0:Inv i0 c0 pairs4):Q (vaud big c0 t2 n3 pairs4 (i0:Int)) :=
 idxR (fun m i=>∀ (c0:Z15) (pairs4:Z14),Inv i c0 pairs4→Q (vaav big (vgr (vdh big) (vaz big)) m c0 t2 n3 pairs4 (i:Int))) (fun _ i hl ih c0 pairs4 h=>hs _ i c0 pairs4 hl h fun c0' pairs4' h4=>ih c0' pairs4' h4) (fun _ c0 pairs4 h=>he _ c0 pairs4 h) big i0 hi (by have:=vac;omega) c0 pairs4 h0
theorem vbsw {rec:Z15→Y2→Int→Z14→Int→Z5} {k:Z15→Y2→Int→Z14→Z5} {t2:Y2} {n3:Int} {x5:Int} (cnt:Nat) (Inv:Nat→Z15→Z14→Prop) {Q:Z5→Prop} (hn:cnt≤500000000000)
 (hs:∀ (rc:Z15→Y2→Int→Z14→Int→Int→Z5) (i:Nat) (c0:Z15) (pairs4:Z14),i<cnt→Inv i c0 pairs4→(∀ (c0':Z15) (pairs4':Z14),Inv (i+1) c0' pairs4'→Q (rc c0' t2 n3 pairs4' x5 ((i+1:Nat):Int)))→Q (vql rc (vni rec) c0 t2 n3 pairs4 x5 (i:Int)))
 (he:∀ (rc:Z15→Y2→Int→Z14→Int→Int→Z5) (c0:Z15) (pairs4:Z14),Inv cnt c0 pairs4→Q (vql rc (vni rec) c0 t2 n3 pairs4 x5 (cnt:Int)))
 (i0:Nat) (hi:i0≤cnt) (c0:Z15) (pairs4:Z14) (h0:Inv i0 c0 pairs4):Q (vsi big rec k c0 t2 n3 pairs4 x5 (i0:Int)) :=
 idxR (fun m i=>∀ (c0:Z15) (pairs4:Z14),Inv i c0 pairs4→Q (vagi big (vni rec) m c0 t2 n3 pairs4 x5 (i:Int))) (fun _ i hl ih c0 pairs4 h=>hs _ i c0 pairs4 hl h fun c0' pairs4' h4=>ih c0' pairs4' h4) (fun _ c0 pairs4 h=>he _ c0 pairs4 h) big i0 hi (by have:=vac;omega) c0 pairs4 h0
theorem vbnw {c0:Z15} {t2:Y2} {n3:Int} {names7:Y4} (cnt:Nat) (Inv:Nat→Z14→Prop) {Q:Z5→Prop} (hn:cnt≤500000000000)
 (hs:∀ (rc:Z15→Y2→Int→Z14→Y4→Int→Z5) (i:Nat) (pairs4:Z14),i<cnt→Inv i pairs4→(∀ (pairs4':Z14),Inv (i+1) pairs4'→Q (rc c0 t2 n3 pairs4' names7 ((i+1:Nat):Int)))→Q (vis rc (vfg (vaz big)) c0 t2 n3 pairs4 names7 (i:Int)))
 (he:∀ (rc:Z15→Y2→Int→Z14→Y4→Int→Z5) (pairs4:Z14),Inv cnt pairs4→Q (vis rc (vfg (vaz big)) c0 t2 n3 pairs4 names7 (cnt:Int)))
 (i0:Nat) (hi:i0≤cnt) (pairs4:Z14) (h0:Inv i0 pairs4):Q (vdh big c0 t2 n3 pairs4 names7 (i0:Int)) :=
 idxR (fun m i=>∀ (pairs4:Z14),Inv i pairs4→Q (vut big (vfg (vaz big)) m c0 t2 n3 pairs4 names7 (i:Int))) (fun _ i hl ih pairs4 h=>hs _ i pairs4 hl h fun pairs4' h4=>ih pairs4' h4) (fun _ pairs4 h=>he _ pairs4 h) big i0 hi (by have:=vac;omega) pairs4 h0
theorem vbnu {t2:Y2} (mu:Z15→Y2→Nat) (Inv:Z15→Y2→Prop) {Q:Z5→Prop}
 (hs:∀ (rc:Z15→Y2→Y2→Z5) (c0:Z15) (p9:Y2),Inv c0 p9→(∀ (c0':Z15) (p9':Y2),Inv c0' p9'→mu c0' p9'<mu c0 p9→Q (rc c0' t2 p9'))→Q (vwd rc vqv c0 t2 p9))
 (c0:Z15) (p9:Y2) (hm:mu c0 p9≤500000000000) (h0:Inv c0 p9):Q (vaz big c0 t2 p9) :=
 muR (fun m=>∀ (c0:Z15) (p9:Y2),mu c0 p9<m→Inv c0 p9→Q (vvv big vqv m c0 t2 p9)) (fun c0 p9 h2 _=>absurd h2 (Nat.not_lt_zero _)) (fun _ ih c0 p9 h2 h3=>hs _ c0 p9 h3 fun c0' p9' h4 h5=>ih c0' p9' (by omega) h4) big c0 p9 (by have:=vac;omega) h0
theorem vbrr {l0:Y4} {n1:Int} (cnt:Nat) (Inv:Nat→Prop) {res:Z1} (hn:cnt≤500000000000)
 (hs:∀ (rc:Y4→Int→Int→Z1) (i:Nat),i<cnt→Inv i→(Inv (i+1)→rc l0 n1 ((i+1:Nat):Int)=res)→vnw rc vqt l0 n1 (i:Int)=res)
 (he:∀ (rc:Y4→Int→Int→Z1),Inv cnt→vnw rc vqt l0 n1 (cnt:Int)=res)
 (i0:Nat) (hi:i0≤cnt) (h0:Inv i0):vauf big l0 n1 (i0:Int)=res :=
 idxR (fun m i=>Inv i→vaah big vqt m l0 n1 (i:Int)=res) (fun _ i hl ih h=>hs _ i hl h fun h4=>ih h4) (fun _ h=>he _ h) big i0 hi (by have:=vac;omega) h0
theorem vbsv {c0:Z15} {t2:Y2} {p3:Y2} {n4:Int} {names5:Y4} (cnt:Nat) (Inv:Nat→Z14→Prop) {Q:Z5→Prop} (hn:cnt≤500000000000)
 (hs:∀ (rc:Z15→Y2→Y2→Int→Y4→Z14→Int→Z5) (i:Nat) (pairs6:Z14),i<cnt→Inv i pairs6→(∀ (pairs6':Z14),Inv (i+1) pairs6'→Q (rc c0 t2 p3 n4 names5 pairs6' ((i+1:Nat):Int)))→Q (vnm rc voc c0 t2 p3 n4 names5 pairs6 (i:Int)))
 (he:∀ (rc:Z15→Y2→Y2→Int→Y4→Z14→Int→Z5) (pairs6:Z14),Inv cnt pairs6→Q (vnm rc voc c0 t2 p3 n4 names5 pairs6 (cnt:Int)))
 (i0:Nat) (hi:i0≤cnt) (pairs6:Z14) (h0:Inv i0 pairs6):Q (vavt big c0 t2 p3 n4 names5 pairs6 (i0:Int)) :=
 idxR (fun m i=>∀ (pairs6:Z14),Inv i pairs6→Q (vadr big voc m c0 t2 p3 n4 names5 pairs6 (i:Int))) (fun _ i hl ih pairs6 h=>hs _ i pairs6 hl h fun pairs6' h4=>ih pairs6' h4) (fun _ pairs6 h=>he _ pairs6 h) big i0 hi (by have:=vac;omega) pairs6 h0
theorem vbsb {n0:Int} {t8:Int} (cnt:Nat) (Inv:Nat→Y5→Prop) {res:Z13} (hn:cnt≤500000000000)
 (hs:∀ (rc:Int→Y5→Int→Int→Z13) (i:Nat) (o3:Y5),i<cnt→Inv i o3→(∀ (o3':Y5),Inv (i+1) o3'→rc n0 o3' t8 ((i+1:Nat):Int)=res)→vqo rc vop n0 o3 t8 (i:Int)=res)
 (he:∀ (rc:Int→Y5→Int→Int→Z13) (o3:Y5),Inv cnt o3→vqo rc vop n0 o3 t8 (cnt:Int)=res)
 (i0:Nat) (hi:i0≤cnt) (o3:Y5) (h0:Inv i0 o3):vavw big n0 o3 t8 (i0:Int)=res :=
 idxR (fun m i=>∀ (o3:Y5),Inv i o3→vaas big vop m n0 o3 t8 (i:Int)=res) (fun _ i hl ih o3 h=>hs _ i o3 hl h fun o3' h4=>ih o3' h4) (fun _ o3 h=>he _ o3 h) big i0 hi (by have:=vac;omega) o3 h0
theorem vbtx {o0:Y5} {t7:Int} (cnt:Nat) (Inv:Nat→Prop) {res:Z1} (hn:cnt≤500000000000)
 (hs:∀ (rc:Y5→Int→Int→Z1) (i:Nat),i<cnt→Inv i→(Inv (i+1)→rc o0 t7 ((i+1:Nat):Int)=res)→vqi (vst big rc vfu) vfu o0 t7 (i:Int)=res)
 (he:∀ (rc:Y5→Int→Int→Z1),Inv cnt→vqi (vst big rc vfu) vfu o0 t7 (cnt:Int)=res)
 (i0:Nat) (hi:i0≤cnt) (h0:Inv i0):vaqu big o0 t7 (i0:Int)=res :=
 idxR (fun m i=>Inv i→vadv big vfu m o0 t7 (i:Int)=res) (fun _ i hl ih h=>hs _ i hl h fun h4=>ih h4) (fun _ h=>he _ h) big i0 hi (by have:=vac;omega) h0
theorem vbue {rec:Y5→Int→Int→Z1} {k:Z1} {o0:Y5} {x3:Int} {t7:Int} {t8:Int} {t20:Int} (cnt:Nat) (Inv:Nat→Prop) {res:Z1} (hn:cnt≤500000000000)
 (hs:∀ (rc:Y5→Int→Int→Int→Int→Int→Z1) (i:Nat),i<cnt→Inv i→(Inv (i+1)→rc o0 x3 t7 t8 t20 ((i+1:Nat):Int)=res)→vpo (vir big rc (veh rec)) (veh rec) o0 x3 t7 t8 t20 (i:Int)=res)
 (he:∀ (rc:Y5→Int→Int→Int→Int→Int→Z1),Inv cnt→vpo (vir big rc (veh rec)) (veh rec) o0 x3 t7 t8 t20 (cnt:Int)=res)
 (i0:Nat) (hi:i0≤cnt) (h0:Inv i0):vst big rec k o0 x3 t7 t8 t20 (i0:Int)=res :=
 idxR (fun m i=>Inv i→vzd big (veh rec) m o0 x3 t7 t8 t20 (i:Int)=res) (fun _ i hl ih h=>hs _ i hl h fun h4=>ih h4) (fun _ h=>he _ h) big i0 hi (by have:=vac;omega) h0
theorem vbok {rec:Y5→Int→Int→Int→Int→Int→Z1} {k:Y5→Int→Int→Z1} {o0:Y5} {x3:Int} {y4:Int} {t7:Int} {t8:Int} {t20:Int} {t21:Int} {t46:Int} (cnt:Nat) (Inv:Nat→Prop) {res:Z1} (hn:cnt≤500000000000)
 (hs:∀ (rc:Y5→Int→Int→Int→Int→Int→Int→Int→Int→Z1) (i:Nat),i<cnt→Inv i→(Inv (i+1)→rc o0 x3 y4 t7 t8 t20 t21 t46 ((i+1:Nat):Int)=res)→viv rc (viw rec) o0 x3 y4 t7 t8 t20 t21 t46 (i:Int)=res)
 (he:∀ (rc:Y5→Int→Int→Int→Int→Int→Int→Int→Int→Z1),Inv cnt→viv rc (viw rec) o0 x3 y4 t7 t8 t20 t21 t46 (cnt:Int)=res)
 (i0:Nat) (hi:i0≤cnt) (h0:Inv i0):vir big rec k o0 x3 y4 t7 t8 t20 t21 t46 (i0:Int)=res :=
 idxR (fun m i=>Inv i→vuq big (viw rec) m o0 x3 y4 t7 t8 t20 t21 t46 (i:Int)=res) (fun _ i hl ih h=>hs _ i hl h fun h4=>ih h4) (fun _ h=>he _ h) big i0 hi (by have:=vac;omega) h0
theorem vbsu {n4:Int} {t18:Y3} {t19:Int} (cnt:Nat) (Inv:Nat→Y5→Prop) {res:Z9} (hn:cnt≤500000000000)
 (hs:∀ (rc:Int→Y5→Y3→Int→Int→Z9) (i:Nat) (o5:Y5),i<cnt→Inv i o5→(∀ (o5':Y5),Inv (i+1) o5'→rc n4 o5' t18 t19 ((i+1:Nat):Int)=res)→vqy (vpn big rc vfo) vfo n4 o5 t18 t19 (i:Int)=res)
 (he:∀ (rc:Int→Y5→Y3→Int→Int→Z9) (o5:Y5),Inv cnt o5→vqy (vpn big rc vfo) vfo n4 o5 t18 t19 (cnt:Int)=res)
 (i0:Nat) (hi:i0≤cnt) (o5:Y5) (h0:Inv i0 o5):vatg big n4 o5 t18 t19 (i0:Int)=res :=
 idxR (fun m i=>∀ (o5:Y5),Inv i o5→vads big vfo m n4 o5 t18 t19 (i:Int)=res) (fun _ i hl ih o5 h=>hs _ i o5 hl h fun o5' h4=>ih o5' h4) (fun _ o5 h=>he _ o5 h) big i0 hi (by have:=vac;omega) o5 h0
theorem vbqa {rec:Int→Y5→Y3→Int→Int→Z9} {k:Y5→Z9} {n4:Int} {x6:Int} {t18:Y3} {t19:Int} {t20:Int} {t29:Y4} {t30:Int} {t31:Bool} {t32:Bool} {t34:Y4} {t35:Int} (cnt:Nat) (Inv:Nat→Y5→Prop) {res:Z9} (hn:cnt≤500000000000)
 (hs:∀ (rc:Int→Y5→Int→Y3→Int→Int→Y4→Int→Bool→Bool→Y4→Int→Int→Z9) (i:Nat) (o5:Y5),i<cnt→Inv i o5→(∀ (o5':Y5),Inv (i+1) o5'→rc n4 o5' x6 t18 t19 t20 t29 t30 t31 t32 t34 t35 ((i+1:Nat):Int)=res)→vjc rc (vja rec) n4 o5 x6 t18 t19 t20 t29 t30 t31 t32 t34 t35 (i:Int)=res)
 (he:∀ (rc:Int→Y5→Int→Y3→Int→Int→Y4→Int→Bool→Bool→Y4→Int→Int→Z9) (o5:Y5),Inv cnt o5→vjc rc (vja rec) n4 o5 x6 t18 t19 t20 t29 t30 t31 t32 t34 t35 (cnt:Int)=res)
 (i0:Nat) (hi:i0≤cnt) (o5:Y5) (h0:Inv i0 o5):vpn big rec k n4 o5 x6 t18 t19 t20 t29 t30 t31 t32 t34 t35 (i0:Int)=res :=
 idxR (fun m i=>∀ (o5:Y5),Inv i o5→vuv big (vja rec) m n4 o5 x6 t18 t19 t20 t29 t30 t31 t32 t34 t35 (i:Int)=res) (fun _ i hl ih o5 h=>hs _ i o5 hl h fun o5' h4=>ih o5' h4) (fun _ o5 h=>he _ o5 h) big i0 hi (by have:=vac;omega) o5 h0
theorem vbse {o0:Y5} {list1:Y4} {t10:Y4} {t11:Int} (cnt:Nat) (Inv:Nat→Prop) {res:Z7} (hn:cnt≤500000000000)
 (hs:∀ (rc:Y5→Y4→Y4→Int→Int→Z7) (i:Nat),i<cnt→Inv i→(Inv (i+1)→rc o0 list1 t10 t11 ((i+1:Nat):Int)=res)→vpj (vui big rc vfv) vfv o0 list1 t10 t11 (i:Int)=res)
 (he:∀ (rc:Y5→Y4→Y4→Int→Int→Z7),Inv cnt→vpj (vui big rc vfv) vfv o0 list1 t10 t11 (cnt:Int)=res)
 (i0:Nat) (hi:i0≤cnt) (h0:Inv i0):vatf big o0 list1 t10 t11 (i0:Int)=res :=
 idxR (fun m i=>Inv i→vyp big vfv m o0 list1 t10 t11 (i:Int)=res) (fun _ i hl ih h=>hs _ i hl h fun h4=>ih h4) (fun _ h=>he _ h) big i0 hi (by have:=vac;omega) h0
theorem vbsg {rec:Y5→Y4→Y4→Int→Int→Z7} {k:Z7} {o0:Y5} {list1:Y4} {x6:Int} {t10:Y4} {t11:Int} {t12:Int} {t16:Y4} {t17:Int} (cnt:Nat) (Inv:Nat→Bool→Prop) {res:Z7} (hn:cnt≤500000000000)
 (hs:∀ (rc:Y5→Y4→Int→Bool→Y4→Int→Int→Y4→Int→Int→Z7) (i:Nat) (top7:Bool),i<cnt→Inv i top7→(∀ (top7':Bool),Inv (i+1) top7'→rc o0 list1 x6 top7' t10 t11 t12 t16 t17 ((i+1:Nat):Int)=res)→vpw rc (vns rec) o0 list1 x6 top7 t10 t11 t12 t16 t17 (i:Int)=res)
 (he:∀ (rc:Y5→Y4→Int→Bool→Y4→Int→Int→Y4→Int→Int→Z7) (top7:Bool),Inv cnt top7→vpw rc (vns rec) o0 list1 x6 top7 t10 t11 t12 t16 t17 (cnt:Int)=res)
 (i0:Nat) (hi:i0≤cnt) (top7:Bool) (h0:Inv i0 top7):vui big rec k o0 list1 x6 top7 t10 t11 t12 t16 t17 (i0:Int)=res :=
 idxR (fun m i=>∀ (top7:Bool),Inv i top7→vaed big (vns rec) m o0 list1 x6 top7 t10 t11 t12 t16 t17 (i:Int)=res) (fun _ i hl ih top7 h=>hs _ i top7 hl h fun top7' h4=>ih top7' h4) (fun _ top7 h=>he _ top7 h) big i0 hi (by have:=vac;omega) top7 h0
theorem vbsj {so1:(Y5×Z2)} {t9:Int} (cnt:Nat) (Inv:Nat→Y4→Prop) {res:Z8} (hn:cnt≤500000000000)
 (hs:∀ (rc:(Y5×Z2)→Y4→Int→Int→Z8) (i:Nat) (list5:Y4),i<cnt→Inv i list5→(∀ (list5':Y4),Inv (i+1) list5'→rc so1 list5' t9 ((i+1:Nat):Int)=res)→vpt rc vpk so1 list5 t9 (i:Int)=res)
 (he:∀ (rc:(Y5×Z2)→Y4→Int→Int→Z8) (list5:Y4),Inv cnt list5→vpt rc vpk so1 list5 t9 (cnt:Int)=res)
 (i0:Nat) (hi:i0≤cnt) (list5:Y4) (h0:Inv i0 list5):vash big so1 list5 t9 (i0:Int)=res :=
 idxR (fun m i=>∀ (list5:Y4),Inv i list5→vaaq big vpk m so1 list5 t9 (i:Int)=res) (fun _ i hl ih list5 h=>hs _ i list5 hl h fun list5' h4=>ih list5' h4) (fun _ list5 h=>he _ list5 h) big i0 hi (by have:=vac;omega) list5 h0
theorem vbtq {o1:Y5} {t11:Int} (cnt:Nat) (Inv:Nat→Y3→Prop) {res:Z10} (hn:cnt≤500000000000)
 (hs:∀ (rc:Y5→Y3→Int→Int→Z10) (i:Nat) (table4:Y3),i<cnt→Inv i table4→(∀ (table4':Y3),Inv (i+1) table4'→rc o1 table4' t11 ((i+1:Nat):Int)=res)→vqk (vtu big rc vhn) vhn o1 table4 t11 (i:Int)=res)
 (he:∀ (rc:Y5→Y3→Int→Int→Z10) (table4:Y3),Inv cnt table4→vqk (vtu big rc vhn) vhn o1 table4 t11 (cnt:Int)=res)
 (i0:Nat) (hi:i0≤cnt) (table4:Y3) (h0:Inv i0 table4):varu big o1 table4 t11 (i0:Int)=res :=
 idxR (fun m i=>∀ (table4:Y3),Inv i table4→vaep big vhn m o1 table4 t11 (i:Int)=res) (fun _ i hl ih table4 h=>hs _ i table4 hl h fun table4' h4=>ih table4' h4) (fun _ table4 h=>he _ table4 h) big i0 hi (by have:=vac;omega) table4 h0
theorem vbsf {rec:Y5→Y3→Int→Int→Z10} {k:Y3→Z10} {o1:Y5} {table4:Y3} {x5:Int} {t11:Int} {t12:Int} {t17:Int} (cnt:Nat) (Inv:Nat→Y4→Prop) {res:Z10} (hn:cnt≤500000000000)
 (hs:∀ (rc:Y5→Y3→Int→Y4→Int→Int→Int→Int→Z10) (i:Nat) (row6:Y4),i<cnt→Inv i row6→(∀ (row6':Y4),Inv (i+1) row6'→rc o1 table4 x5 row6' t11 t12 t17 ((i+1:Nat):Int)=res)→vnv rc (vpp rec) o1 table4 x5 row6 t11 t12 t17 (i:Int)=res)
 (he:∀ (rc:Y5→Y3→Int→Y4→Int→Int→Int→Int→Z10) (row6:Y4),Inv cnt row6→vnv rc (vpp rec) o1 table4 x5 row6 t11 t12 t17 (cnt:Int)=res)
 (i0:Nat) (hi:i0≤cnt) (row6:Y4) (h0:Inv i0 row6):vtu big rec k o1 table4 x5 row6 t11 t12 t17 (i0:Int)=res :=
 idxR (fun m i=>∀ (row6:Y4),Inv i row6→vaab big (vpp rec) m o1 table4 x5 row6 t11 t12 t17 (i:Int)=res) (fun _ i hl ih row6 h=>hs _ i row6 hl h fun row6' h4=>ih row6' h4) (fun _ row6 h=>he _ row6 h) big i0 hi (by have:=vac;omega) row6 h0
theorem vbrt {o0:Y5} {t10:Int} (cnt:Nat) (Inv:Nat→Y5→Prop) {res:Z13} (hn:cnt≤500000000000)
 (hs:∀ (rc:Y5→Y5→Int→Int→Z13) (i:Nat) (d3:Y5),i<cnt→Inv i d3→(∀ (d3':Y5),Inv (i+1) d3'→rc o0 d3' t10 ((i+1:Nat):Int)=res)→voe (vty big rc vhr) vhr o0 d3 t10 (i:Int)=res)
 (he:∀ (rc:Y5→Y5→Int→Int→Z13) (d3:Y5),Inv cnt d3→voe (vty big rc vhr) vhr o0 d3 t10 (cnt:Int)=res)
 (i0:Nat) (hi:i0≤cnt) (d3:Y5) (h0:Inv i0 d3):vaqm big o0 d3 t10 (i0:Int)=res :=
 idxR (fun m i=>∀ (d3:Y5),Inv i d3→vacx big vhr m o0 d3 t10 (i:Int)=res) (fun _ i hl ih d3 h=>hs _ i d3 hl h fun d3' h4=>ih d3' h4) (fun _ d3 h=>he _ d3 h) big i0 hi (by have:=vac;omega) d3 h0
theorem vbuf {rec:Y5→Y5→Int→Int→Z13} {k:Y5→Z13} {o0:Y5} {x4:Int} {t10:Int} {t11:Int} {t15:Int} (cnt:Nat) (Inv:Nat→Y5→Prop) {res:Z13} (hn:cnt≤500000000000)
 (hs:∀ (rc:Y5→Y5→Int→Int→Int→Int→Int→Z13) (i:Nat) (d3:Y5),i<cnt→Inv i d3→(∀ (d3':Y5),Inv (i+1) d3'→rc o0 d3' x4 t10 t11 t15 ((i+1:Nat):Int)=res)→vnx rc (vpu rec) o0 d3 x4 t10 t11 t15 (i:Int)=res)
 (he:∀ (rc:Y5→Y5→Int→Int→Int→Int→Int→Z13) (d3:Y5),Inv cnt d3→vnx rc (vpu rec) o0 d3 x4 t10 t11 t15 (cnt:Int)=res)
 (i0:Nat) (hi:i0≤cnt) (d3:Y5) (h0:Inv i0 d3):vty big rec k o0 d3 x4 t10 t11 t15 (i0:Int)=res :=
 idxR (fun m i=>∀ (d3:Y5),Inv i d3→vabc big (vpu rec) m o0 d3 x4 t10 t11 t15 (i:Int)=res) (fun _ i hl ih d3 h=>hs _ i d3 hl h fun d3' h4=>ih d3' h4) (fun _ d3 h=>he _ d3 h) big i0 hi (by have:=vac;omega) d3 h0
theorem vbua {x1:Int} {t7:Y4} {t8:Int} (cnt:Nat) (Inv:Nat→Prop) {res:Z1} (hn:cnt≤500000000000)
 (hs:∀ (rc:Int→Y4→Int→Int→Z1) (i:Nat),i<cnt→Inv i→(Inv (i+1)→rc x1 t7 t8 ((i+1:Nat):Int)=res)→vom rc vqa x1 t7 t8 (i:Int)=res)
 (he:∀ (rc:Int→Y4→Int→Int→Z1),Inv cnt→vom rc vqa x1 t7 t8 (cnt:Int)=res)
 (i0:Nat) (hi:i0≤cnt) (h0:Inv i0):vavu big x1 t7 t8 (i0:Int)=res :=
 idxR (fun m i=>Inv i→vaal big vqa m x1 t7 t8 (i:Int)=res) (fun _ i hl ih h=>hs _ i hl h fun h4=>ih h4) (fun _ h=>he _ h) big i0 hi (by have:=vac;omega) h0
theorem vbtd {list0:Y4} {t5:Y4} {t6:Int} (cnt:Nat) (Inv:Nat→Prop) {res:Z1} (hn:cnt≤500000000000)
 (hs:∀ (rc:Y4→Y4→Int→Int→Z1) (i:Nat),i<cnt→Inv i→(Inv (i+1)→rc list0 t5 t6 ((i+1:Nat):Int)=res)→vrb rc vot list0 t5 t6 (i:Int)=res)
 (he:∀ (rc:Y4→Y4→Int→Int→Z1),Inv cnt→vrb rc vot list0 t5 t6 (cnt:Int)=res)
 (i0:Nat) (hi:i0≤cnt) (h0:Inv i0):vass big list0 t5 t6 (i0:Int)=res :=
 idxR (fun m i=>Inv i→vzj big vot m list0 t5 t6 (i:Int)=res) (fun _ i hl ih h=>hs _ i hl h fun h4=>ih h4) (fun _ h=>he _ h) big i0 hi (by have:=vac;omega) h0
theorem vbsl {s0:Y4} {t1:Y4} (cnt:Nat) (Inv:Nat→Prop) {res:Z7} (hn:cnt≤500000000000)
 (hs:∀ (rc:Y4→Y4→Int→Z7) (i:Nat),i<cnt→Inv i→(Inv (i+1)→rc s0 t1 ((i+1:Nat):Int)=res)→voa rc vok s0 t1 (i:Int)=res)
 (he:∀ (rc:Y4→Y4→Int→Z7),Inv cnt→voa rc vok s0 t1 (cnt:Int)=res)
 (i0:Nat) (hi:i0≤cnt) (h0:Inv i0):vaqd big s0 t1 (i0:Int)=res :=
 idxR (fun m i=>Inv i→vadz big vok m s0 t1 (i:Int)=res) (fun _ i hl ih h=>hs _ i hl h fun h4=>ih h4) (fun _ h=>he _ h) big i0 hi (by have:=vac;omega) h0
theorem vbei {good1:Unit} {l6:Y1} {t26:Int} (cnt:Nat) (Inv:Nat→Y4→Prop) {res:Z0} (hn:cnt≤500000000000)
 (hs:∀ (rc:Unit→Y1→Y4→Int→Int→Z0) (i:Nat) (best8:Y4),i<cnt→Inv i best8→(∀ (best8':Y4),Inv (i+1) best8'→rc good1 l6 best8' t26 ((i+1:Nat):Int)=res)→vgl (vtm big rc vec) vec good1 l6 best8 t26 (i:Int)=res)
 (he:∀ (rc:Unit→Y1→Y4→Int→Int→Z0) (best8:Y4),Inv cnt best8→vgl (vtm big rc vec) vec good1 l6 best8 t26 (cnt:Int)=res)
 (i0:Nat) (hi:i0≤cnt) (best8:Y4) (h0:Inv i0 best8):vsz big good1 l6 best8 t26 (i0:Int)=res :=
 idxR (fun m i=>∀ (best8:Y4),Inv i best8→vzh big vec m good1 l6 best8 t26 (i:Int)=res) (fun _ i hl ih best8 h=>hs _ i best8 hl h fun best8' h4=>ih best8' h4) (fun _ best8 h=>he _ best8 h) big i0 hi (by have:=vac;omega) best8 h0
theorem vbik {rec:Unit→Y1→Y4→Int→Int→Z0} {k:Y4→Z0} {good1:Unit} {l6:Y1} {a9:Int} {t26:Int} {t27:Int} {t34:Int} (cnt:Nat) (Inv:Nat→Y4→Prop) {res:Z0} (hn:cnt≤500000000000)
 (hs:∀ (rc:Unit→Y1→Y4→Int→Int→Int→Int→Int→Z0) (i:Nat) (best8:Y4),i<cnt→Inv i best8→(∀ (best8':Y4),Inv (i+1) best8'→rc good1 l6 best8' a9 t26 t27 t34 ((i+1:Nat):Int)=res)→vgi (vpf big rc (vdr rec)) (vdr rec) good1 l6 best8 a9 t26 t27 t34 (i:Int)=res)
 (he:∀ (rc:Unit→Y1→Y4→Int→Int→Int→Int→Int→Z0) (best8:Y4),Inv cnt best8→vgi (vpf big rc (vdr rec)) (vdr rec) good1 l6 best8 a9 t26 t27 t34 (cnt:Int)=res)
 (i0:Nat) (hi:i0≤cnt) (best8:Y4) (h0:Inv i0 best8):vtm big rec k good1 l6 best8 a9 t26 t27 t34 (i0:Int)=res :=
 idxR (fun m i=>∀ (best8:Y4),Inv i best8→vafz big (vdr rec) m good1 l6 best8 a9 t26 t27 t34 (i:Int)=res) (fun _ i hl ih best8 h=>hs _ i best8 hl h fun best8' h4=>ih best8' h4) (fun _ best8 h=>he _ best8 h) big i0 hi (by have:=vac;omega) best8 h0
theorem vazc {rec:Unit→Y1→Y4→Int→Int→Int→Int→Int→Z0} {k:Unit→Y1→Y4→Int→Int→Z0} {good1:Unit} {l6:Y1} {a9:Int} {b10:Int} {t26:Int} {t27:Int} {t34:Int} {t35:Int} {t42:Int} (cnt:Nat) (Inv:Nat→Y4→Prop) {res:Z0} (hn:cnt≤500000000000)
 (hs:∀ (rc:Unit→Y1→Y4→Int→Int→Int→Int→Int→Int→Int→Int→Z0) (i:Nat) (best8:Y4),i<cnt→Inv i best8→(∀ (best8':Y4),Inv (i+1) best8'→rc good1 l6 best8' a9 b10 t26 t27 t34 t35 t42 ((i+1:Nat):Int)=res)→vdk rc (ven rec) good1 l6 best8 a9 b10 t26 t27 t34 t35 t42 (i:Int)=res)
 (he:∀ (rc:Unit→Y1→Y4→Int→Int→Int→Int→Int→Int→Int→Int→Z0) (best8:Y4),Inv cnt best8→vdk rc (ven rec) good1 l6 best8 a9 b10 t26 t27 t34 t35 t42 (cnt:Int)=res)
 (i0:Nat) (hi:i0≤cnt) (best8:Y4) (h0:Inv i0 best8):vpf big rec k good1 l6 best8 a9 b10 t26 t27 t34 t35 t42 (i0:Int)=res :=
 idxR (fun m i=>∀ (best8:Y4),Inv i best8→vwq big (ven rec) m good1 l6 best8 a9 b10 t26 t27 t34 t35 t42 (i:Int)=res) (fun _ i hl ih best8 h=>hs _ i best8 hl h fun best8' h4=>ih best8' h4) (fun _ best8 h=>he _ best8 h) big i0 hi (by have:=vac;omega) best8 h0
theorem vbrp {x0:Y4} {y1:Y4} (cnt:Nat) (Inv:Nat→Prop) {res:Z1} (hn:cnt≤500000000000)
 (hs:∀ (rc:Y4→Y4→Int→Z1) (i:Nat),i<cnt→Inv i→(Inv (i+1)→rc x0 y1 ((i+1:Nat):Int)=res)→vpa rc vra x0 y1 (i:Int)=res)
 (he:∀ (rc:Y4→Y4→Int→Z1),Inv cnt→vpa rc vra x0 y1 (cnt:Int)=res)
 (i0:Nat) (hi:i0≤cnt) (h0:Inv i0):vasc big x0 y1 (i0:Int)=res :=
 idxR (fun m i=>Inv i→vabd big vra m x0 y1 (i:Int)=res) (fun _ i hl ih h=>hs _ i hl h fun h4=>ih h4) (fun _ h=>he _ h) big i0 hi (by have:=vac;omega) h0
theorem vbub {p1:Y2} {n3:Int} (cnt:Nat) (Inv:Nat→Prop) {res:Z1} (hn:cnt≤500000000000)
 (hs:∀ (rc:Y2→Int→Int→Z1) (i:Nat),i<cnt→Inv i→(Inv (i+1)→rc p1 n3 ((i+1:Nat):Int)=res)→vqx rc (vqf (vjf big)) p1 n3 (i:Int)=res)
 (he:∀ (rc:Y2→Int→Int→Z1),Inv cnt→vqx rc (vqf (vjf big)) p1 n3 (cnt:Int)=res)
 (i0:Nat) (hi:i0≤cnt) (h0:Inv i0):vaul big p1 n3 (i0:Int)=res :=
 idxR (fun m i=>Inv i→vaaj big (vqf (vjf big)) m p1 n3 (i:Int)=res) (fun _ i hl ih h=>hs _ i hl h fun h4=>ih h4) (fun _ h=>he _ h) big i0 hi (by have:=vac;omega) h0
theorem vbnd {p1:Y2} {n3:Int} (cnt:Nat) (Inv:Nat→Prop) {res:Z1} (hn:cnt≤500000000000)
 (hs:∀ (rc:Y2→Int→Int→Z1) (i:Nat),i<cnt→Inv i→(Inv (i+1)→rc p1 n3 ((i+1:Nat):Int)=res)→viq (vpd big rc vcx) vcx p1 n3 (i:Int)=res)
 (he:∀ (rc:Y2→Int→Int→Z1),Inv cnt→viq (vpd big rc vcx) vcx p1 n3 (cnt:Int)=res)
 (i0:Nat) (hi:i0≤cnt) (h0:Inv i0):vjf big p1 n3 (i0:Int)=res :=
 idxR (fun m i=>Inv i→vwn big vcx m p1 n3 (i:Int)=res) (fun _ i hl ih h=>hs _ i hl h fun h4=>ih h4) (fun _ h=>he _ h) big i0 hi (by have:=vac;omega) h0
theorem vbqu {rec:Y2→Int→Int→Z1} {k:Z1} {p1:Y2} {n3:Int} {x5:Int} (cnt:Nat) (Inv:Nat→Prop) {res:Z1} (hn:cnt≤500000000000)
 (hs:∀ (rc:Y2→Int→Int→Int→Z1) (i:Nat),i<cnt→Inv i→(Inv (i+1)→rc p1 n3 x5 ((i+1:Nat):Int)=res)→viu rc (viz rec) p1 n3 x5 (i:Int)=res)
 (he:∀ (rc:Y2→Int→Int→Int→Z1),Inv cnt→viu rc (viz rec) p1 n3 x5 (cnt:Int)=res)
 (i0:Nat) (hi:i0≤cnt) (h0:Inv i0):vpd big rec k p1 n3 x5 (i0:Int)=res :=
 idxR (fun m i=>Inv i→vum big (viz rec) m p1 n3 x5 (i:Int)=res) (fun _ i hl ih h=>hs _ i hl h fun h4=>ih h4) (fun _ h=>he _ h) big i0 hi (by have:=vac;omega) h0
theorem vbtv {p1:Y2} {t2:Y2} (cnt:Nat) (Inv:Nat→Y2→Prop) {res:Z3} (hn:cnt≤500000000000)
 (hs:∀ (rc:Y2→Y2→Y2→Int→Z3) (i:Nat) (out3:Y2),i<cnt→Inv i out3→(∀ (out3':Y2),Inv (i+1) out3'→rc p1 t2 out3' ((i+1:Nat):Int)=res)→von (vsq big rc vfz) vfz p1 t2 out3 (i:Int)=res)
 (he:∀ (rc:Y2→Y2→Y2→Int→Z3) (out3:Y2),Inv cnt out3→von (vsq big rc vfz) vfz p1 t2 out3 (cnt:Int)=res)
 (i0:Nat) (hi:i0≤cnt) (out3:Y2) (h0:Inv i0 out3):vava big p1 t2 out3 (i0:Int)=res :=
 idxR (fun m i=>∀ (out3:Y2),Inv i out3→vagu big vfz m p1 t2 out3 (i:Int)=res) (fun _ i hl ih out3 h=>hs _ i out3 hl h fun out3' h4=>ih out3' h4) (fun _ out3 h=>he _ out3 h) big i0 hi (by have:=vac;omega) out3 h0
theorem vbrq {rec:Y2→Y2→Y2→Int→Z3} {k:Y2→Y2→Z3} {p1:Y2} {t2:Y2} {out3:Y2} {x4:Int} (cnt:Nat) (Inv:Nat→Y4→Prop) {res:Z3} (hn:cnt≤500000000000)
 (hs:∀ (rc:Y2→Y2→Y2→Int→Y4→Int→Z3) (i:Nat) (below5:Y4),i<cnt→Inv i below5→(∀ (below5':Y4),Inv (i+1) below5'→rc p1 t2 out3 x4 below5' ((i+1:Nat):Int)=res)→vno rc (vpg rec) p1 t2 out3 x4 below5 (i:Int)=res)
 (he:∀ (rc:Y2→Y2→Y2→Int→Y4→Int→Z3) (below5:Y4),Inv cnt below5→vno rc (vpg rec) p1 t2 out3 x4 below5 (cnt:Int)=res)
 (i0:Nat) (hi:i0≤cnt) (below5:Y4) (h0:Inv i0 below5):vsq big rec k p1 t2 out3 x4 below5 (i0:Int)=res :=
 idxR (fun m i=>∀ (below5:Y4),Inv i below5→vahs big (vpg rec) m p1 t2 out3 x4 below5 (i:Int)=res) (fun _ i hl ih below5 h=>hs _ i below5 hl h fun below5' h4=>ih below5' h4) (fun _ below5 h=>he _ below5 h) big i0 hi (by have:=vac;omega) below5 h0
theorem vbtk {some1:Y4} {p2:Y2} (cnt:Nat) (Inv:Nat→Y4→Prop) {res:Z7} (hn:cnt≤500000000000)
 (hs:∀ (rc:Y4→Y2→Y4→Int→Z7) (i:Nat) (low5:Y4),i<cnt→Inv i low5→(∀ (low5':Y4),Inv (i+1) low5'→rc some1 p2 low5' ((i+1:Nat):Int)=res)→vpq (vth big rc (vhs (vdb big))) (vhs (vdb big)) some1 p2 low5 (i:Int)=res)
 (he:∀ (rc:Y4→Y2→Y4→Int→Z7) (low5:Y4),Inv cnt low5→vpq (vth big rc (vhs (vdb big))) (vhs (vdb big)) some1 p2 low5 (cnt:Int)=res)
 (i0:Nat) (hi:i0≤cnt) (low5:Y4) (h0:Inv i0 low5):vauz big some1 p2 low5 (i0:Int)=res :=
 idxR (fun m i=>∀ (low5:Y4),Inv i low5→vacn big (vhs (vdb big)) m some1 p2 low5 (i:Int)=res) (fun _ i hl ih low5 h=>hs _ i low5 hl h fun low5' h4=>ih low5' h4) (fun _ low5 h=>he _ low5 h) big i0 hi (by have:=vac;omega) low5 h0
theorem vbtj {rec:Y4→Y2→Y4→Int→Z7} {k:Y2→Y4→Z7} {some1:Y4} {p2:Y2} {low5:Y4} {z6:Int} (cnt:Nat) (Inv:Nat→Bool→Prop) {res:Z7} (hn:cnt≤500000000000)
 (hs:∀ (rc:Y4→Y2→Y4→Int→Bool→Int→Z7) (i:Nat) (all7:Bool),i<cnt→Inv i all7→(∀ (all7':Bool),Inv (i+1) all7'→rc some1 p2 low5 z6 all7' ((i+1:Nat):Int)=res)→vor rc (vqe rec) some1 p2 low5 z6 all7 (i:Int)=res)
 (he:∀ (rc:Y4→Y2→Y4→Int→Bool→Int→Z7) (all7:Bool),Inv cnt all7→vor rc (vqe rec) some1 p2 low5 z6 all7 (cnt:Int)=res)
 (i0:Nat) (hi:i0≤cnt) (all7:Bool) (h0:Inv i0 all7):vth big rec k some1 p2 low5 z6 all7 (i0:Int)=res :=
 idxR (fun m i=>∀ (all7:Bool),Inv i all7→vaba big (vqe rec) m some1 p2 low5 z6 all7 (i:Int)=res) (fun _ i hl ih all7 h=>hs _ i all7 hl h fun all7' h4=>ih all7' h4) (fun _ all7 h=>he _ all7 h) big i0 hi (by have:=vac;omega) all7 h0
theorem vbnz {p2:Y2} {low5:Y4} (cnt:Nat) (Inv:Nat→Prop) {res:Z7} (hn:cnt≤500000000000)
 (hs:∀ (rc:Y2→Y4→Int→Z7) (i:Nat),i<cnt→Inv i→(Inv (i+1)→rc p2 low5 ((i+1:Nat):Int)=res)→vio rc vjd p2 low5 (i:Int)=res)
 (he:∀ (rc:Y2→Y4→Int→Z7),Inv cnt→vio rc vjd p2 low5 (cnt:Int)=res)
 (i0:Nat) (hi:i0≤cnt) (h0:Inv i0):vdb big p2 low5 (i0:Int)=res :=
 idxR (fun m i=>Inv i→vwm big vjd m p2 low5 (i:Int)=res) (fun _ i hl ih h=>hs _ i hl h fun h4=>ih h4) (fun _ h=>he _ h) big i0 hi (by have:=vac;omega) h0
theorem vbsx {p1:Y2} {dual3:Y2} (cnt:Nat) (Inv:Nat→Prop) {res:Z1} (hn:cnt≤500000000000)
 (hs:∀ (rc:Y2→Y2→Int→Z1) (i:Nat),i<cnt→Inv i→(Inv (i+1)→rc p1 dual3 ((i+1:Nat):Int)=res)→vnr (vue big rc vha) vha p1 dual3 (i:Int)=res)
 (he:∀ (rc:Y2→Y2→Int→Z1),Inv cnt→vnr (vue big rc vha) vha p1 dual3 (cnt:Int)=res)
 (i0:Nat) (hi:i0≤cnt) (h0:Inv i0):vaqe big p1 dual3 (i0:Int)=res :=
 idxR (fun m i=>Inv i→vahh big vha m p1 dual3 (i:Int)=res) (fun _ i hl ih h=>hs _ i hl h fun h4=>ih h4) (fun _ h=>he _ h) big i0 hi (by have:=vac;omega) h0
theorem vbuh {rec:Y2→Y2→Int→Z1} {k:Z1} {p1:Y2} {dual3:Y2} {x4:Int} (cnt:Nat) (Inv:Nat→Prop) {res:Z1} (hn:cnt≤500000000000)
 (hs:∀ (rc:Y2→Y2→Int→Int→Z1) (i:Nat),i<cnt→Inv i→(Inv (i+1)→rc p1 dual3 x4 ((i+1:Nat):Int)=res)→vnq rc (vnu rec) p1 dual3 x4 (i:Int)=res)
 (he:∀ (rc:Y2→Y2→Int→Int→Z1),Inv cnt→vnq rc (vnu rec) p1 dual3 x4 (cnt:Int)=res)
 (i0:Nat) (hi:i0≤cnt) (h0:Inv i0):vue big rec k p1 dual3 x4 (i0:Int)=res :=
 idxR (fun m i=>Inv i→vafu big (vnu rec) m p1 dual3 x4 (i:Int)=res) (fun _ i hl ih h=>hs _ i hl h fun h4=>ih h4) (fun _ h=>he _ h) big i0 hi (by have:=vac;omega) h0
theorem vbta {list0:Y4} (cnt:Nat) (Inv:Nat→Prop) {res:Z1} (hn:cnt≤500000000000)
 (hs:∀ (rc:Y4→Int→Z1) (i:Nat),i<cnt→Inv i→(Inv (i+1)→rc list0 ((i+1:Nat):Int)=res)→vqh rc vov list0 (i:Int)=res)
 (he:∀ (rc:Y4→Int→Z1),Inv cnt→vqh rc vov list0 (cnt:Int)=res)
 (i0:Nat) (hi:i0≤cnt) (h0:Inv i0):vatv big list0 (i0:Int)=res :=
 idxR (fun m i=>Inv i→vaii big vov m list0 (i:Int)=res) (fun _ i hl ih h=>hs _ i hl h fun h4=>ih h4) (fun _ h=>he _ h) big i0 hi (by have:=vac;omega) h0
theorem vbsc {a0:Y4} {b1:Y4} (cnt:Nat) (Inv:Nat→Prop) {res:Z1} (hn:cnt≤500000000000)
 (hs:∀ (rc:Y4→Y4→Int→Z1) (i:Nat),i<cnt→Inv i→(Inv (i+1)→rc a0 b1 ((i+1:Nat):Int)=res)→vpe rc voi a0 b1 (i:Int)=res)
 (he:∀ (rc:Y4→Y4→Int→Z1),Inv cnt→vpe rc voi a0 b1 (cnt:Int)=res)
 (i0:Nat) (hi:i0≤cnt) (h0:Inv i0):vatp big a0 b1 (i0:Int)=res :=
 idxR (fun m i=>Inv i→vabe big voi m a0 b1 (i:Int)=res) (fun _ i hl ih h=>hs _ i hl h fun h4=>ih h4) (fun _ h=>he _ h) big i0 hi (by have:=vac;omega) h0
theorem vbgp {p1:Y2} {n4:Int} (cnt:Nat) (Inv:Nat→Y4→Prop) {res:Z0} (hn:cnt≤500000000000)
 (hs:∀ (rc:Y2→Int→Y4→Int→Z0) (i:Nat) (best5:Y4),i<cnt→Inv i best5→(∀ (best5':Y4),Inv (i+1) best5'→rc p1 n4 best5' ((i+1:Nat):Int)=res)→vhz (vtf big rc ved) ved p1 n4 best5 (i:Int)=res)
 (he:∀ (rc:Y2→Int→Y4→Int→Z0) (best5:Y4),Inv cnt best5→vhz (vtf big rc ved) ved p1 n4 best5 (cnt:Int)=res)
 (i0:Nat) (hi:i0≤cnt) (best5:Y4) (h0:Inv i0 best5):vaqx big p1 n4 best5 (i0:Int)=res :=
 idxR (fun m i=>∀ (best5:Y4),Inv i best5→vags big ved m p1 n4 best5 (i:Int)=res) (fun _ i hl ih best5 h=>hs _ i best5 hl h fun best5' h4=>ih best5' h4) (fun _ best5 h=>he _ best5 h) big i0 hi (by have:=vac;omega) best5 h0
theorem vbhk {rec:Y2→Int→Y4→Int→Z0} {k:Y4→Z0} {p1:Y2} {n4:Int} {a6:Int} (cnt:Nat) (Inv:Nat→Y4→Prop) {res:Z0} (hn:cnt≤500000000000)
 (hs:∀ (rc:Y2→Int→Y4→Int→Int→Z0) (i:Nat) (best5:Y4),i<cnt→Inv i best5→(∀ (best5':Y4),Inv (i+1) best5'→rc p1 n4 best5' a6 ((i+1:Nat):Int)=res)→vgq (vnt big rc (vdx rec)) (vdx rec) p1 n4 best5 a6 (i:Int)=res)
 (he:∀ (rc:Y2→Int→Y4→Int→Int→Z0) (best5:Y4),Inv cnt best5→vgq (vnt big rc (vdx rec)) (vdx rec) p1 n4 best5 a6 (cnt:Int)=res)
 (i0:Nat) (hi:i0≤cnt) (best5:Y4) (h0:Inv i0 best5):vtf big rec k p1 n4 best5 a6 (i0:Int)=res :=
 idxR (fun m i=>∀ (best5:Y4),Inv i best5→vaga big (vdx rec) m p1 n4 best5 a6 (i:Int)=res) (fun _ i hl ih best5 h=>hs _ i best5 hl h fun best5' h4=>ih best5' h4) (fun _ best5 h=>he _ best5 h) big i0 hi (by have:=vac;omega) best5 h0
theorem vaxl {rec:Y2→Int→Y4→Int→Int→Z0} {k:Y2→Int→Y4→Int→Z0} {p1:Y2} {n4:Int} {a6:Int} {b7:Int} (cnt:Nat) (Inv:Nat→Y4→Prop) {res:Z0} (hn:cnt≤500000000000)
 (hs:∀ (rc:Y2→Int→Y4→Int→Int→Int→Z0) (i:Nat) (best5:Y4),i<cnt→Inv i best5→(∀ (best5':Y4),Inv (i+1) best5'→rc p1 n4 best5' a6 b7 ((i+1:Nat):Int)=res)→vdi rc (vfh rec) p1 n4 best5 a6 b7 (i:Int)=res)
 (he:∀ (rc:Y2→Int→Y4→Int→Int→Int→Z0) (best5:Y4),Inv cnt best5→vdi rc (vfh rec) p1 n4 best5 a6 b7 (cnt:Int)=res)
 (i0:Nat) (hi:i0≤cnt) (best5:Y4) (h0:Inv i0 best5):vnt big rec k p1 n4 best5 a6 b7 (i0:Int)=res :=
 idxR (fun m i=>∀ (best5:Y4),Inv i best5→vvq big (vfh rec) m p1 n4 best5 a6 b7 (i:Int)=res) (fun _ i hl ih best5 h=>hs _ i best5 hl h fun best5' h4=>ih best5' h4) (fun _ best5 h=>he _ best5 h) big i0 hi (by have:=vac;omega) best5 h0
theorem vbtr {a0:Y4} {b1:Y4} (cnt:Nat) (Inv:Nat→Prop) {res:Z1} (hn:cnt≤500000000000)
 (hs:∀ (rc:Y4→Y4→Int→Z1) (i:Nat),i<cnt→Inv i→(Inv (i+1)→rc a0 b1 ((i+1:Nat):Int)=res)→vqc rc vob a0 b1 (i:Int)=res)
 (he:∀ (rc:Y4→Y4→Int→Z1),Inv cnt→vqc rc vob a0 b1 (cnt:Int)=res)
 (i0:Nat) (hi:i0≤cnt) (h0:Inv i0):vawe big a0 b1 (i0:Int)=res :=
 idxR (fun m i=>Inv i→vacw big vob m a0 b1 (i:Int)=res) (fun _ i hl ih h=>hs _ i hl h fun h4=>ih h4) (fun _ h=>he _ h) big i0 hi (by have:=vac;omega) h0
theorem vbft {good1:Unit} {l6:Y1} {t26:Int} (cnt:Nat) (Inv:Nat→Y4→Prop) {res:Z0} (hn:cnt≤500000000000)
 (hs:∀ (rc:Unit→Y1→Y4→Int→Int→Z0) (i:Nat) (best8:Y4),i<cnt→Inv i best8→(∀ (best8':Y4),Inv (i+1) best8'→rc good1 l6 best8' t26 ((i+1:Nat):Int)=res)→vib (vta big rc vea) vea good1 l6 best8 t26 (i:Int)=res)
 (he:∀ (rc:Unit→Y1→Y4→Int→Int→Z0) (best8:Y4),Inv cnt best8→vib (vta big rc vea) vea good1 l6 best8 t26 (cnt:Int)=res)
 (i0:Nat) (hi:i0≤cnt) (best8:Y4) (h0:Inv i0 best8):vug big good1 l6 best8 t26 (i0:Int)=res :=
 idxR (fun m i=>∀ (best8:Y4),Inv i best8→vacz big vea m good1 l6 best8 t26 (i:Int)=res) (fun _ i hl ih best8 h=>hs _ i best8 hl h fun best8' h4=>ih best8' h4) (fun _ best8 h=>he _ best8 h) big i0 hi (by have:=vac;omega) best8 h0
theorem vbjk {rec:Unit→Y1→Y4→Int→Int→Z0} {k:Y4→Z0} {good1:Unit} {l6:Y1} {a9:Int} {t26:Int} {t27:Int} {t34:Int} (cnt:Nat) (Inv:Nat→Y4→Prop) {res:Z0} (hn:cnt≤500000000000)
 (hs:∀ (rc:Unit→Y1→Y4→Int→Int→Int→Int→Int→Z0) (i:Nat) (best8:Y4),i<cnt→Inv i best8→(∀ (best8':Y4),Inv (i+1) best8'→rc good1 l6 best8' a9 t26 t27 t34 ((i+1:Nat):Int)=res)→vgp (vnh big rc (vds rec)) (vds rec) good1 l6 best8 a9 t26 t27 t34 (i:Int)=res)
 (he:∀ (rc:Unit→Y1→Y4→Int→Int→Int→Int→Int→Z0) (best8:Y4),Inv cnt best8→vgp (vnh big rc (vds rec)) (vds rec) good1 l6 best8 a9 t26 t27 t34 (cnt:Int)=res)
 (i0:Nat) (hi:i0≤cnt) (best8:Y4) (h0:Inv i0 best8):vta big rec k good1 l6 best8 a9 t26 t27 t34 (i0:Int)=res :=
 idxR (fun m i=>∀ (best8:Y4),Inv i best8→vafw big (vds rec) m good1 l6 best8 a9 t26 t27 t34 (i:Int)=res) (fun _ i hl ih best8 h=>hs _ i best8 hl h fun best8' h4=>ih best8' h4) (fun _ best8 h=>he _ best8 h) big i0 hi (by have:=vac;omega) best8 h0
theorem vaye {rec:Unit→Y1→Y4→Int→Int→Int→Int→Int→Z0} {k:Unit→Y1→Y4→Int→Int→Z0} {good1:Unit} {l6:Y1} {a9:Int} {b10:Int} {t26:Int} {t27:Int} {t34:Int} {t35:Int} {t42:Int} (cnt:Nat) (Inv:Nat→Y4→Prop) {res:Z0} (hn:cnt≤500000000000)
 (hs:∀ (rc:Unit→Y1→Y4→Int→Int→Int→Int→Int→Int→Int→Int→Z0) (i:Nat) (best8:Y4),i<cnt→Inv i best8→(∀ (best8':Y4),Inv (i+1) best8'→rc good1 l6 best8' a9 b10 t26 t27 t34 t35 t42 ((i+1:Nat):Int)=res)→vcy rc (vff rec) good1 l6 best8 a9 b10 t26 t27 t34 t35 t42 (i:Int)=res)
 (he:∀ (rc:Unit→Y1→Y4→Int→Int→Int→Int→Int→Int→Int→Int→Z0) (best8:Y4),Inv cnt best8→vcy rc (vff rec) good1 l6 best8 a9 b10 t26 t27 t34 t35 t42 (cnt:Int)=res)
 (i0:Nat) (hi:i0≤cnt) (best8:Y4) (h0:Inv i0 best8):vnh big rec k good1 l6 best8 a9 b10 t26 t27 t34 t35 t42 (i0:Int)=res :=
 idxR (fun m i=>∀ (best8:Y4),Inv i best8→vus big (vff rec) m good1 l6 best8 a9 b10 t26 t27 t34 t35 t42 (i:Int)=res) (fun _ i hl ih best8 h=>hs _ i best8 hl h fun best8' h4=>ih best8' h4) (fun _ best8 h=>he _ best8 h) big i0 hi (by have:=vac;omega) best8 h0
theorem vbdt {p1:Y2} {n4:Int} (cnt:Nat) (Inv:Nat→Y4→Prop) {res:Z0} (hn:cnt≤500000000000)
 (hs:∀ (rc:Y2→Int→Y4→Int→Z0) (i:Nat) (best5:Y4),i<cnt→Inv i best5→(∀ (best5':Y4),Inv (i+1) best5'→rc p1 n4 best5' ((i+1:Nat):Int)=res)→vht (vsv big rc vdu) vdu p1 n4 best5 (i:Int)=res)
 (he:∀ (rc:Y2→Int→Y4→Int→Z0) (best5:Y4),Inv cnt best5→vht (vsv big rc vdu) vdu p1 n4 best5 (cnt:Int)=res)
 (i0:Nat) (hi:i0≤cnt) (best5:Y4) (h0:Inv i0 best5):vasl big p1 n4 best5 (i0:Int)=res :=
 idxR (fun m i=>∀ (best5:Y4),Inv i best5→vabj big vdu m p1 n4 best5 (i:Int)=res) (fun _ i hl ih best5 h=>hs _ i best5 hl h fun best5' h4=>ih best5' h4) (fun _ best5 h=>he _ best5 h) big i0 hi (by have:=vac;omega) best5 h0
theorem vbgy {rec:Y2→Int→Y4→Int→Z0} {k:Y4→Z0} {p1:Y2} {n4:Int} {x6:Int} (cnt:Nat) (Inv:Nat→Y4→Prop) {res:Z0} (hn:cnt≤500000000000)
 (hs:∀ (rc:Y2→Int→Y4→Int→Int→Z0) (i:Nat) (best5:Y4),i<cnt→Inv i best5→(∀ (best5':Y4),Inv (i+1) best5'→rc p1 n4 best5' x6 ((i+1:Nat):Int)=res)→vfs (vpm big rc (veb rec)) (veb rec) p1 n4 best5 x6 (i:Int)=res)
 (he:∀ (rc:Y2→Int→Y4→Int→Int→Z0) (best5:Y4),Inv cnt best5→vfs (vpm big rc (veb rec)) (veb rec) p1 n4 best5 x6 (cnt:Int)=res)
 (i0:Nat) (hi:i0≤cnt) (best5:Y4) (h0:Inv i0 best5):vsv big rec k p1 n4 best5 x6 (i0:Int)=res :=
 idxR (fun m i=>∀ (best5:Y4),Inv i best5→vahg big (veb rec) m p1 n4 best5 x6 (i:Int)=res) (fun _ i hl ih best5 h=>hs _ i best5 hl h fun best5' h4=>ih best5' h4) (fun _ best5 h=>he _ best5 h) big i0 hi (by have:=vac;omega) best5 h0
theorem vazl {rec:Y2→Int→Y4→Int→Int→Z0} {k:Y2→Int→Y4→Int→Z0} {p1:Y2} {n4:Int} {x6:Int} {y7:Int} (cnt:Nat) (Inv:Nat→Y4→Prop) {res:Z0} (hn:cnt≤500000000000)
 (hs:∀ (rc:Y2→Int→Y4→Int→Int→Int→Z0) (i:Nat) (best5:Y4),i<cnt→Inv i best5→(∀ (best5':Y4),Inv (i+1) best5'→rc p1 n4 best5' x6 y7 ((i+1:Nat):Int)=res)→vdm rc (vfd rec) p1 n4 best5 x6 y7 (i:Int)=res)
 (he:∀ (rc:Y2→Int→Y4→Int→Int→Int→Z0) (best5:Y4),Inv cnt best5→vdm rc (vfd rec) p1 n4 best5 x6 y7 (cnt:Int)=res)
 (i0:Nat) (hi:i0≤cnt) (best5:Y4) (h0:Inv i0 best5):vpm big rec k p1 n4 best5 x6 y7 (i0:Int)=res :=
 idxR (fun m i=>∀ (best5:Y4),Inv i best5→vvc big (vfd rec) m p1 n4 best5 x6 y7 (i:Int)=res) (fun _ i hl ih best5 h=>hs _ i best5 hl h fun best5' h4=>ih best5' h4) (fun _ best5 h=>he _ best5 h) big i0 hi (by have:=vac;omega) best5 h0
theorem vbsp {l0:Y1} {t10:Int} (cnt:Nat) (Inv:Nat→Prop) {Q:Z4→Prop} (hn:cnt≤500000000000)
 (hs:∀ (rc:Y1→Int→Int→Z4) (i:Nat),i<cnt→Inv i→(Inv (i+1)→Q (rc l0 t10 ((i+1:Nat):Int)))→Q (vpr (vsu big rc vft) vft l0 t10 (i:Int)))
 (he:∀ (rc:Y1→Int→Int→Z4),Inv cnt→Q (vpr (vsu big rc vft) vft l0 t10 (cnt:Int)))
 (i0:Nat) (hi:i0≤cnt) (h0:Inv i0):Q (vawb big l0 t10 (i0:Int)) :=
 idxR (fun m i=>Inv i→Q (vada big vft m l0 t10 (i:Int))) (fun _ i hl ih h=>hs _ i hl h fun h4=>ih h4) (fun _ h=>he _ h) big i0 hi (by have:=vac;omega) h0
theorem vbru {rec:Y1→Int→Int→Z4} {k:Z4} {l0:Y1} {x3:Int} {t10:Int} {t11:Int} {t18:Int} (cnt:Nat) (Inv:Nat→Prop) {Q:Z4→Prop} (hn:cnt≤500000000000)
 (hs:∀ (rc:Y1→Int→Int→Int→Int→Int→Z4) (i:Nat),i<cnt→Inv i→(Inv (i+1)→Q (rc l0 x3 t10 t11 t18 ((i+1:Nat):Int)))→Q (vqs (vsh big rc (vgt rec)) (vgt rec) l0 x3 t10 t11 t18 (i:Int)))
 (he:∀ (rc:Y1→Int→Int→Int→Int→Int→Z4),Inv cnt→Q (vqs (vsh big rc (vgt rec)) (vgt rec) l0 x3 t10 t11 t18 (cnt:Int)))
 (i0:Nat) (hi:i0≤cnt) (h0:Inv i0):Q (vsu big rec k l0 x3 t10 t11 t18 (i0:Int)) :=
 idxR (fun m i=>Inv i→Q (vahb big (vgt rec) m l0 x3 t10 t11 t18 (i:Int))) (fun _ i hl ih h=>hs _ i hl h fun h4=>ih h4) (fun _ h=>he _ h) big i0 hi (by have:=vac;omega) h0
theorem vbte {rec:Y1→Int→Int→Int→Int→Int→Z4} {k:Y1→Int→Int→Z4} {l0:Y1} {x3:Int} {y4:Int} {t10:Int} {t11:Int} {t18:Int} {t19:Int} {t26:Int} (cnt:Nat) (Inv:Nat→Prop) {Q:Z4→Prop} (hn:cnt≤500000000000)
 (hs:∀ (rc:Y1→Int→Int→Int→Int→Int→Int→Int→Int→Z4) (i:Nat),i<cnt→Inv i→(Inv (i+1)→Q (rc l0 x3 y4 t10 t11 t18 t19 t26 ((i+1:Nat):Int)))→Q (voo rc (vpv rec) l0 x3 y4 t10 t11 t18 t19 t26 (i:Int)))
 (he:∀ (rc:Y1→Int→Int→Int→Int→Int→Int→Int→Int→Z4),Inv cnt→Q (voo rc (vpv rec) l0 x3 y4 t10 t11 t18 t19 t26 (cnt:Int)))
 (i0:Nat) (hi:i0≤cnt) (h0:Inv i0):Q (vsh big rec k l0 x3 y4 t10 t11 t18 t19 t26 (i0:Int)) :=
 idxR (fun m i=>Inv i→Q (vzu big (vpv rec) m l0 x3 y4 t10 t11 t18 t19 t26 (i:Int))) (fun _ i hl ih h=>hs _ i hl h fun h4=>ih h4) (fun _ h=>he _ h) big i0 hi (by have:=vac;omega) h0
theorem vbtp {p1:Y2} {n4:Int} (cnt:Nat) (Inv:Nat→Prop) {Q:Z0→Prop} (hn:cnt≤500000000000)
 (hs:∀ (rc:Y2→Int→Int→Z0) (i:Nat),i<cnt→Inv i→(Inv (i+1)→Q (rc p1 n4 ((i+1:Nat):Int)))→Q (vpb (vtk big rc vgd) vgd p1 n4 (i:Int)))
 (he:∀ (rc:Y2→Int→Int→Z0),Inv cnt→Q (vpb (vtk big rc vgd) vgd p1 n4 (cnt:Int)))
 (i0:Nat) (hi:i0≤cnt) (h0:Inv i0):Q (vavk big p1 n4 (i0:Int)) :=
 idxR (fun m i=>Inv i→Q (vaho big vgd m p1 n4 (i:Int))) (fun _ i hl ih h=>hs _ i hl h fun h4=>ih h4) (fun _ h=>he _ h) big i0 hi (by have:=vac;omega) h0
theorem vbti {rec:Y2→Int→Int→Z0} {k:Z0} {p1:Y2} {n4:Int} {x5:Int} (cnt:Nat) (Inv:Nat→Prop) {Q:Z0→Prop} (hn:cnt≤500000000000)
 (hs:∀ (rc:Y2→Int→Int→Int→Z0) (i:Nat),i<cnt→Inv i→(Inv (i+1)→Q (rc p1 n4 x5 ((i+1:Nat):Int)))→Q (vqm (vtl big rc (vgk rec)) (vgk rec) p1 n4 x5 (i:Int)))
 (he:∀ (rc:Y2→Int→Int→Int→Z0),Inv cnt→Q (vqm (vtl big rc (vgk rec)) (vgk rec) p1 n4 x5 (cnt:Int)))
 (i0:Nat) (hi:i0≤cnt) (h0:Inv i0):Q (vtk big rec k p1 n4 x5 (i0:Int)) :=
 idxR (fun m i=>Inv i→Q (vacm big (vgk rec) m p1 n4 x5 (i:Int))) (fun _ i hl ih h=>hs _ i hl h fun h4=>ih h4) (fun _ h=>he _ h) big i0 hi (by have:=vac;omega) h0
theorem vbts {rec:Y2→Int→Int→Int→Z0} {k:Y2→Int→Int→Z0} {p1:Y2} {n4:Int} {x5:Int} {y6:Int} (cnt:Nat) (Inv:Nat→Prop) {Q:Z0→Prop} (hn:cnt≤500000000000)
 (hs:∀ (rc:Y2→Int→Int→Int→Int→Z0) (i:Nat),i<cnt→Inv i→(Inv (i+1)→Q (rc p1 n4 x5 y6 ((i+1:Nat):Int)))→Q (vqz rc (vpc rec) p1 n4 x5 y6 (i:Int)))
 (he:∀ (rc:Y2→Int→Int→Int→Int→Z0),Inv cnt→Q (vqz rc (vpc rec) p1 n4 x5 y6 (cnt:Int)))
 (i0:Nat) (hi:i0≤cnt) (h0:Inv i0):Q (vtl big rec k p1 n4 x5 y6 (i0:Int)) :=
 idxR (fun m i=>Inv i→Q (vadj big (vpc rec) m p1 n4 x5 y6 (i:Int))) (fun _ i hl ih h=>hs _ i hl h fun h4=>ih h4) (fun _ h=>he _ h) big i0 hi (by have:=vac;omega) h0
theorem vbsi {l0:Y1} {t10:Int} (cnt:Nat) (Inv:Nat→Prop) {Q:Z4→Prop} (hn:cnt≤500000000000)
 (hs:∀ (rc:Y1→Int→Int→Z4) (i:Nat),i<cnt→Inv i→(Inv (i+1)→Q (rc l0 t10 ((i+1:Nat):Int)))→Q (vqg (vtz big rc vgh) vgh l0 t10 (i:Int)))
 (he:∀ (rc:Y1→Int→Int→Z4),Inv cnt→Q (vqg (vtz big rc vgh) vgh l0 t10 (cnt:Int)))
 (i0:Nat) (hi:i0≤cnt) (h0:Inv i0):Q (vaso big l0 t10 (i0:Int)) :=
 idxR (fun m i=>Inv i→Q (vafv big vgh m l0 t10 (i:Int))) (fun _ i hl ih h=>hs _ i hl h fun h4=>ih h4) (fun _ h=>he _ h) big i0 hi (by have:=vac;omega) h0
theorem vbtl {rec:Y1→Int→Int→Z4} {k:Z4} {l0:Y1} {x3:Int} {t10:Int} {t11:Int} {t18:Int} (cnt:Nat) (Inv:Nat→Prop) {Q:Z4→Prop} (hn:cnt≤500000000000)
 (hs:∀ (rc:Y1→Int→Int→Int→Int→Int→Z4) (i:Nat),i<cnt→Inv i→(Inv (i+1)→Q (rc l0 x3 t10 t11 t18 ((i+1:Nat):Int)))→Q (voj (vso big rc (vhc rec)) (vhc rec) l0 x3 t10 t11 t18 (i:Int)))
 (he:∀ (rc:Y1→Int→Int→Int→Int→Int→Z4),Inv cnt→Q (voj (vso big rc (vhc rec)) (vhc rec) l0 x3 t10 t11 t18 (cnt:Int)))
 (i0:Nat) (hi:i0≤cnt) (h0:Inv i0):Q (vtz big rec k l0 x3 t10 t11 t18 (i0:Int)) :=
 idxR (fun m i=>Inv i→Q (vaex big (vhc rec) m l0 x3 t10 t11 t18 (i:Int))) (fun _ i hl ih h=>hs _ i hl h fun h4=>ih h4) (fun _ h=>he _ h) big i0 hi (by have:=vac;omega) h0
theorem vbso {rec:Y1→Int→Int→Int→Int→Int→Z4} {k:Y1→Int→Int→Z4} {l0:Y1} {x3:Int} {y4:Int} {t10:Int} {t11:Int} {t18:Int} {t19:Int} {t26:Int} (cnt:Nat) (Inv:Nat→Prop) {Q:Z4→Prop} (hn:cnt≤500000000000)
 (hs:∀ (rc:Y1→Int→Int→Int→Int→Int→Int→Int→Int→Z4) (i:Nat),i<cnt→Inv i→(Inv (i+1)→Q (rc l0 x3 y4 t10 t11 t18 t19 t26 ((i+1:Nat):Int)))→Q (vpi rc (vox rec) l0 x3 y4 t10 t11 t18 t19 t26 (i:Int)))
 (he:∀ (rc:Y1→Int→Int→Int→Int→Int→Int→Int→Int→Z4),Inv cnt→Q (vpi rc (vox rec) l0 x3 y4 t10 t11 t18 t19 t26 (cnt:Int)))
 (i0:Nat) (hi:i0≤cnt) (h0:Inv i0):Q (vso big rec k l0 x3 y4 t10 t11 t18 t19 t26 (i0:Int)) :=
 idxR (fun m i=>Inv i→Q (vadt big (vox rec) m l0 x3 y4 t10 t11 t18 t19 t26 (i:Int))) (fun _ i hl ih h=>hs _ i hl h fun h4=>ih h4) (fun _ h=>he _ h) big i0 hi (by have:=vac;omega) h0
theorem vbsz {l0:Y1} {m1:Y1} {f2:Y4} {t12:Int} (cnt:Nat) (Inv:Nat→Prop) {res:Z1} (hn:cnt≤500000000000)
 (hs:∀ (rc:Y1→Y1→Y4→Int→Int→Z1) (i:Nat),i<cnt→Inv i→(Inv (i+1)→rc l0 m1 f2 t12 ((i+1:Nat):Int)=res)→vou (vsk big rc vhl) vhl l0 m1 f2 t12 (i:Int)=res)
 (he:∀ (rc:Y1→Y1→Y4→Int→Int→Z1),Inv cnt→vou (vsk big rc vhl) vhl l0 m1 f2 t12 (cnt:Int)=res)
 (i0:Nat) (hi:i0≤cnt) (h0:Inv i0):vasm big l0 m1 f2 t12 (i0:Int)=res :=
 idxR (fun m i=>Inv i→vaar big vhl m l0 m1 f2 t12 (i:Int)=res) (fun _ i hl ih h=>hs _ i hl h fun h4=>ih h4) (fun _ h=>he _ h) big i0 hi (by have:=vac;omega) h0
theorem vbtg {rec:Y1→Y1→Y4→Int→Int→Z1} {k:Z1} {l0:Y1} {m1:Y1} {f2:Y4} {x7:Int} {t12:Int} {t13:Int} {t17:Int} (cnt:Nat) (Inv:Nat→Prop) {res:Z1} (hn:cnt≤500000000000)
 (hs:∀ (rc:Y1→Y1→Y4→Int→Int→Int→Int→Int→Z1) (i:Nat),i<cnt→Inv i→(Inv (i+1)→rc l0 m1 f2 x7 t12 t13 t17 ((i+1:Nat):Int)=res)→vpx rc (voq rec) l0 m1 f2 x7 t12 t13 t17 (i:Int)=res)
 (he:∀ (rc:Y1→Y1→Y4→Int→Int→Int→Int→Int→Z1),Inv cnt→vpx rc (voq rec) l0 m1 f2 x7 t12 t13 t17 (cnt:Int)=res)
 (i0:Nat) (hi:i0≤cnt) (h0:Inv i0):vsk big rec k l0 m1 f2 x7 t12 t13 t17 (i0:Int)=res :=
 idxR (fun m i=>Inv i→vaev big (voq rec) m l0 m1 f2 x7 t12 t13 t17 (i:Int)=res) (fun _ i hl ih h=>hs _ i hl h fun h4=>ih h4) (fun _ h=>he _ h) big i0 hi (by have:=vac;omega) h0
theorem vbrx (self_V70:Z19→Z12) {l0:Y1} {m1:Y1} {f2:Y4} {t23:Int} (cnt:Nat) (Inv:Nat→Prop) {res:Z12} (hn:cnt≤500000000000)
 (hs:∀ (rc:Y1→Y1→Y4→Int→Int→Z12) (i:Nat),i<cnt→Inv i→(Inv (i+1)→rc l0 m1 f2 t23 ((i+1:Nat):Int)=res)→vol self_V70 rc (vpl self_V70) l0 m1 f2 t23 (i:Int)=res)
 (he:∀ (rc:Y1→Y1→Y4→Int→Int→Z12),Inv cnt→vol self_V70 rc (vpl self_V70) l0 m1 f2 t23 (cnt:Int)=res)
 (i0:Nat) (hi:i0≤cnt) (h0:Inv i0):vavh self_V70 big l0 m1 f2 t23 (i0:Int)=res :=
 idxR (fun m i=>Inv i→vahv self_V70 big (vpl self_V70) m l0 m1 f2 t23 (i:Int)=res) (fun _ i hl ih h=>hs _ i hl h fun h4=>ih h4) (fun _ h=>he _ h) big i0 hi (by have:=vac;omega) h0
theorem vbtw {some1:Y4} {p2:Y2} (cnt:Nat) (Inv:Nat→Y4→Prop) {Q:Z8→Prop} (hn:cnt≤500000000000)
 (hs:∀ (rc:Y4→Y2→Y4→Int→Z8) (i:Nat) (out5:Y4),i<cnt→Inv i out5→(∀ (out5':Y4),Inv (i+1) out5'→Q (rc some1 p2 out5' ((i+1:Nat):Int)))→Q (vog rc (vnk (vod big)) some1 p2 out5 (i:Int)))
 (he:∀ (rc:Y4→Y2→Y4→Int→Z8) (out5:Y4),Inv cnt out5→Q (vog rc (vnk (vod big)) some1 p2 out5 (cnt:Int)))
 (i0:Nat) (hi:i0≤cnt) (out5:Y4) (h0:Inv i0 out5):Q (vatt big some1 p2 out5 (i0:Int)) :=
 idxR (fun m i=>∀ (out5:Y4),Inv i out5→Q (vadi big (vnk (vod big)) m some1 p2 out5 (i:Int))) (fun _ i hl ih out5 h=>hs _ i out5 hl h fun out5' h4=>ih out5' h4) (fun _ out5 h=>he _ out5 h) big i0 hi (by have:=vac;omega) out5 h0
theorem vbsh {p2:Y2} {dual7:Y2} (cnt:Nat) (Inv:Nat→Y4→Prop) {Q:Z8→Prop} (hn:cnt≤500000000000)
 (hs:∀ (rc:Y2→Y4→Y2→Int→Z8) (i:Nat) (out5:Y4),i<cnt→Inv i out5→(∀ (out5':Y4),Inv (i+1) out5'→Q (rc p2 out5' dual7 ((i+1:Nat):Int)))→Q (vnp (vqb big rc vgv) vgv p2 out5 dual7 (i:Int)))
 (he:∀ (rc:Y2→Y4→Y2→Int→Z8) (out5:Y4),Inv cnt out5→Q (vnp (vqb big rc vgv) vgv p2 out5 dual7 (cnt:Int)))
 (i0:Nat) (hi:i0≤cnt) (out5:Y4) (h0:Inv i0 out5):Q (vod big p2 out5 dual7 (i0:Int)) :=
 idxR (fun m i=>∀ (out5:Y4),Inv i out5→Q (vaez big vgv m p2 out5 dual7 (i:Int))) (fun _ i hl ih out5 h=>hs _ i out5 hl h fun out5' h4=>ih out5' h4) (fun _ out5 h=>he _ out5 h) big i0 hi (by have:=vac;omega) out5 h0
theorem vbrk {rec:Y2→Y4→Y2→Int→Z8} {k:Y4→Z8} {p2:Y2} {dual7:Y2} {n8:Int} {now9:Y4} (cnt:Nat) (Inv:Nat→Y4→Prop) {Q:Z8→Prop} (hn:cnt≤500000000000)
 (hs:∀ (rc:Y2→Y4→Y2→Int→Y4→Int→Z8) (i:Nat) (out5:Y4),i<cnt→Inv i out5→(∀ (out5':Y4),Inv (i+1) out5'→Q (rc p2 out5' dual7 n8 now9 ((i+1:Nat):Int)))→Q (vit (vqu big rc (vde rec)) (vde rec) p2 out5 dual7 n8 now9 (i:Int)))
 (he:∀ (rc:Y2→Y4→Y2→Int→Y4→Int→Z8) (out5:Y4),Inv cnt out5→Q (vit (vqu big rc (vde rec)) (vde rec) p2 out5 dual7 n8 now9 (cnt:Int)))
 (i0:Nat) (hi:i0≤cnt) (out5:Y4) (h0:Inv i0 out5):Q (vqb big rec k p2 out5 dual7 n8 now9 (i0:Int)) :=
 idxR (fun m i=>∀ (out5:Y4),Inv i out5→Q (vvd big (vde rec) m p2 out5 dual7 n8 now9 (i:Int))) (fun _ i hl ih out5 h=>hs _ i out5 hl h fun out5' h4=>ih out5' h4) (fun _ out5 h=>he _ out5 h) big i0 hi (by have:=vac;omega) out5 h0
theorem vboo {rec:Y2→Y4→Y2→Int→Y4→Int→Z8} {k:Y2→Y4→Y2→Int→Z8} {p2:Y2} {dual7:Y2} {n8:Int} {now9:Y4} {i10:Int} (cnt:Nat) (Inv:Nat→Y4→Prop) {Q:Z8→Prop} (hn:cnt≤500000000000)
 (hs:∀ (rc:Y2→Y4→Y2→Int→Y4→Int→Int→Z8) (i:Nat) (out5:Y4),i<cnt→Inv i out5→(∀ (out5':Y4),Inv (i+1) out5'→Q (rc p2 out5' dual7 n8 now9 i10 ((i+1:Nat):Int)))→Q (vix rc (viy rec) p2 out5 dual7 n8 now9 i10 (i:Int)))
 (he:∀ (rc:Y2→Y4→Y2→Int→Y4→Int→Int→Z8) (out5:Y4),Inv cnt out5→Q (vix rc (viy rec) p2 out5 dual7 n8 now9 i10 (cnt:Int)))
 (i0:Nat) (hi:i0≤cnt) (out5:Y4) (h0:Inv i0 out5):Q (vqu big rec k p2 out5 dual7 n8 now9 i10 (i0:Int)) :=
 idxR (fun m i=>∀ (out5:Y4),Inv i out5→Q (vwo big (viy rec) m p2 out5 dual7 n8 now9 i10 (i:Int))) (fun _ i hl ih out5 h=>hs _ i out5 hl h fun out5' h4=>ih out5' h4) (fun _ out5 h=>he _ out5 h) big i0 hi (by have:=vac;omega) out5 h0
theorem vbrm {t2:Y2} {t3:Y2} {p5:Y2} {sub6:Y4} (cnt:Nat) (Inv:Nat→Y2→Prop) {Q:Z11→Prop} (hn:cnt≤500000000000)
 (hs:∀ (rc:Y2→Y2→Y2→Y4→Y2→Int→Z11) (i:Nat) (q7:Y2),i<cnt→Inv i q7→(∀ (q7':Y2),Inv (i+1) q7'→Q (rc t2 t3 p5 sub6 q7' ((i+1:Nat):Int)))→Q (vjg (vpy big rc vdj) vdj t2 t3 p5 sub6 q7 (i:Int)))
 (he:∀ (rc:Y2→Y2→Y2→Y4→Y2→Int→Z11) (q7:Y2),Inv cnt q7→Q (vjg (vpy big rc vdj) vdj t2 t3 p5 sub6 q7 (cnt:Int)))
 (i0:Nat) (hi:i0≤cnt) (q7:Y2) (h0:Inv i0 q7):Q (vaiq big t2 t3 p5 sub6 q7 (i0:Int)) :=
 idxR (fun m i=>∀ (q7:Y2),Inv i q7→Q (vvj big vdj m t2 t3 p5 sub6 q7 (i:Int))) (fun _ i hl ih q7 h=>hs _ i q7 hl h fun q7' h4=>ih q7' h4) (fun _ q7 h=>he _ q7 h) big i0 hi (by have:=vac;omega) q7 h0
theorem vbnp {rec:Y2→Y2→Y2→Y4→Y2→Int→Z11} {k:Y2→Y2→Y2→Y2→Z11} {t2:Y2} {t3:Y2} {p5:Y2} {sub6:Y4} {q7:Y2} {i8:Int} (cnt:Nat) (Inv:Nat→Y4→Prop) {Q:Z11→Prop} (hn:cnt≤500000000000)
 (hs:∀ (rc:Y2→Y2→Y2→Y4→Y2→Int→Y4→Int→Z11) (i:Nat) (below9:Y4),i<cnt→Inv i below9→(∀ (below9':Y4),Inv (i+1) below9'→Q (rc t2 t3 p5 sub6 q7 i8 below9' ((i+1:Nat):Int)))→Q (vjb rc (vje rec) t2 t3 p5 sub6 q7 i8 below9 (i:Int)))
 (he:∀ (rc:Y2→Y2→Y2→Y4→Y2→Int→Y4→Int→Z11) (below9:Y4),Inv cnt below9→Q (vjb rc (vje rec) t2 t3 p5 sub6 q7 i8 below9 (cnt:Int)))
 (i0:Nat) (hi:i0≤cnt) (below9:Y4) (h0:Inv i0 below9):Q (vpy big rec k t2 t3 p5 sub6 q7 i8 below9 (i0:Int)) :=
 idxR (fun m i=>∀ (below9:Y4),Inv i below9→Q (vwy big (vje rec) m t2 t3 p5 sub6 q7 i8 below9 (i:Int))) (fun _ i hl ih below9 h=>hs _ i below9 hl h fun below9' h4=>ih below9' h4) (fun _ below9 h=>he _ below9 h) big i0 hi (by have:=vac;omega) below9 h0
theorem vbsd {list2:Y4} {p3:Y2} {q4:Y2} {last7:Int} (cnt:Nat) (Inv:Nat→Prop) {res:Z1} (hn:cnt≤500000000000)
 (hs:∀ (rc:Y4→Y2→Y2→Int→Int→Z1) (i:Nat),i<cnt→Inv i→(Inv (i+1)→rc list2 p3 q4 last7 ((i+1:Nat):Int)=res)→vnn (vsy big rc vfp) vfp list2 p3 q4 last7 (i:Int)=res)
 (he:∀ (rc:Y4→Y2→Y2→Int→Int→Z1),Inv cnt→vnn (vsy big rc vfp) vfp list2 p3 q4 last7 (cnt:Int)=res)
 (i0:Nat) (hi:i0≤cnt) (h0:Inv i0):vard big list2 p3 q4 last7 (i0:Int)=res :=
 idxR (fun m i=>Inv i→vagz big vfp m list2 p3 q4 last7 (i:Int)=res) (fun _ i hl ih h=>hs _ i hl h fun h4=>ih h4) (fun _ h=>he _ h) big i0 hi (by have:=vac;omega) h0
theorem vbst {rec:Y4→Y2→Y2→Int→Int→Z1} {k:Z1} {list2:Y4} {p3:Y2} {q4:Y2} {last7:Int} {y8:Int} (cnt:Nat) (Inv:Nat→Prop) {res:Z1} (hn:cnt≤500000000000)
 (hs:∀ (rc:Y4→Y2→Y2→Int→Int→Int→Z1) (i:Nat),i<cnt→Inv i→(Inv (i+1)→rc list2 p3 q4 last7 y8 ((i+1:Nat):Int)=res)→vnj rc (vqj rec) list2 p3 q4 last7 y8 (i:Int)=res)
 (he:∀ (rc:Y4→Y2→Y2→Int→Int→Int→Z1),Inv cnt→vnj rc (vqj rec) list2 p3 q4 last7 y8 (cnt:Int)=res)
 (i0:Nat) (hi:i0≤cnt) (h0:Inv i0):vsy big rec k list2 p3 q4 last7 y8 (i0:Int)=res :=
 idxR (fun m i=>Inv i→vahj big (vqj rec) m list2 p3 q4 last7 y8 (i:Int)=res) (fun _ i hl ih h=>hs _ i hl h fun h4=>ih h4) (fun _ h=>he _ h) big i0 hi (by have:=vac;omega) h0
theorem vbrs (self_V77:Z18→Z0) {begun2:Y4} {p3:Y2} {q4:Y2} (cnt:Nat) (Inv:Nat→Prop) {res:Z0} (hn:cnt≤500000000000)
 (hs:∀ (rc:Y4→Y2→Y2→Int→Z0) (i:Nat),i<cnt→Inv i→(Inv (i+1)→rc begun2 p3 q4 ((i+1:Nat):Int)=res)→vnl self_V77 rc (voz self_V77) begun2 p3 q4 (i:Int)=res)
 (he:∀ (rc:Y4→Y2→Y2→Int→Z0),Inv cnt→vnl self_V77 rc (voz self_V77) begun2 p3 q4 (cnt:Int)=res)
 (i0:Nat) (hi:i0≤cnt) (h0:Inv i0):vauj self_V77 big begun2 p3 q4 (i0:Int)=res :=
 idxR (fun m i=>Inv i→vacq self_V77 big (voz self_V77) m begun2 p3 q4 (i:Int)=res) (fun _ i hl ih h=>hs _ i hl h fun h4=>ih h4) (fun _ h=>he _ h) big i0 hi (by have:=vac;omega) h0
end Go.Proofs.Yteanfidobhpchaa
