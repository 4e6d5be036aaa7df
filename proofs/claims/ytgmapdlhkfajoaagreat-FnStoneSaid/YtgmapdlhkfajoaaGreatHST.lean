import Derived.Test.YtgmapdlhkfajoaaGreatPLib
import Derived.Test.YtgmapdlhkfajoaaGreatGST
set_option linter.unusedVariables false
namespace Go.Proofs.YtgmapdlhkfajoaaGreat
open Go Go.Gx Go.Proofs
theorem xny {a1:Int}(cnt:Nat) (Inv:Nat→Z13→Y4→Prop){Q:Z19→Prop}(hn:cnt≤500000000000)
 (hs:∀(rc:T89) (i:Nat) (a0:Z13) (a5:Y4),i<cnt→Inv i a0 a5→(∀(a0':Z13) (a5':Y4),Inv (i+1) a0' a5'→Q (rc a0' a1 a5' ((i+1:Nat):Int)))→Q (wod rc wlh a0 a1 a5 (i:Int)))
 (he:∀(rc:T89) (a0:Z13) (a5:Y4),Inv cnt a0 a5→Q (wod rc wlh a0 a1 a5 (cnt:Int)))
 (i0:Nat) (hi:i0≤cnt) (a0:Z13) (a5:Y4) (h0:Inv i0 a0 a5):Q (w4l big a0 a1 a5 (i0:Int)) :=
 idxB (fun m i=>∀(a0:Z13) (a5:Y4),Inv i a0 a5→Q (w4m big wlh m a0 a1 a5 (i:Int))) (fun _ i hl ih a0 a5 h=>hs _ i a0 a5 hl h ih) (fun _ a0 a5 h=>he _ a0 a5 h) i0 hi hn a0 a5 h0
theorem xnz {a0:Int}{a1:Y4}(cnt:Nat) (Inv:T7){Q:Option Z0→Prop}(hn:cnt≤500000000000)
 (hs:∀(rc:Int→Y4→Int→Option Z0) (i:Nat),i<cnt→Inv i→(Inv (i+1)→Q (rc a0 a1 ((i+1:Nat):Int)))→Q (wo3 rc wlk a0 a1 (i:Int)))
 (he:∀(rc:Int→Y4→Int→Option Z0),Inv cnt→Q (wo3 rc wlk a0 a1 (cnt:Int)))
 (i0:Nat) (hi:i0≤cnt) (h0:Inv i0):Q (w5b big a0 a1 (i0:Int)) :=
 idxB (fun m i=>Inv i→Q (w5c big wlk m a0 a1 (i:Int))) (fun _ i hl ih h=>hs _ i hl h ih) (fun _ h=>he _ h) i0 hi hn h0
theorem xn0 {a0:Y4}{a1:Int}(cnt:Nat) (Inv:Nat→(List Bool)→Prop){Q:Option Z0→Prop}(hn:cnt≤500000000000)
 (hs:∀(rc:Y4→Int→(List Bool)→Int→Option Z0) (i:Nat) (a5:(List Bool)),i<cnt→Inv i a5→(∀(a5':(List Bool)),Inv (i+1) a5'→Q (rc a0 a1 a5' ((i+1:Nat):Int)))→Q (wpc rc wll a0 a1 a5 (i:Int)))
 (he:∀(rc:Y4→Int→(List Bool)→Int→Option Z0) (a5:(List Bool)),Inv cnt a5→Q (wpc rc wll a0 a1 a5 (cnt:Int)))
 (i0:Nat) (hi:i0≤cnt) (a5:(List Bool)) (h0:Inv i0 a5):Q (w5k big a0 a1 a5 (i0:Int)) :=
 idxB (fun m i=>∀(a5:(List Bool)),Inv i a5→Q (w5l big wll m a0 a1 a5 (i:Int))) (fun _ i hl ih a5 h=>hs _ i a5 hl h ih) (fun _ a5 h=>he _ a5 h) i0 hi hn a5 h0
theorem xn1 {a0:Int}{a1:Z16}{a4:Y2}(cnt:Nat) (Inv:T47){Q:Z2→Prop}(hn:cnt≤500000000000)
 (hs:∀(rc:T15) (i:Nat) (a5:Y5),i<cnt→Inv i a5→(∀(a5':Y5),Inv (i+1) a5'→Q (rc a0 a1 a4 a5' ((i+1:Nat):Int)))→Q (wpx rc (wln (wlm big)) a0 a1 a4 a5 (i:Int)))
 (he:∀(rc:T15) (a5:Y5),Inv cnt a5→Q (wpx rc (wln (wlm big)) a0 a1 a4 a5 (cnt:Int)))
 (i0:Nat) (hi:i0≤cnt) (a5:Y5) (h0:Inv i0 a5):Q (w5q big a0 a1 a4 a5 (i0:Int)) :=
 idxB (fun m i=>∀(a5:Y5),Inv i a5→Q (w5r big (wln (wlm big)) m a0 a1 a4 a5 (i:Int))) (fun _ i hl ih a5 h=>hs _ i a5 hl h ih) (fun _ a5 h=>he _ a5 h) i0 hi hn a5 h0
theorem xn2 {a0:Int}{a1:Z16}{a4:Y2}(cnt:Nat) (Inv:T47){Q:Z2→Prop}(hn:cnt≤500000000000)
 (hs:∀(rc:T15) (i:Nat) (a5:Y5),i<cnt→Inv i a5→(∀(a5':Y5),Inv (i+1) a5'→Q (rc a0 a1 a4 a5' ((i+1:Nat):Int)))→Q (wpy rc (wlo (wbr big)) a0 a1 a4 a5 (i:Int)))
 (he:∀(rc:T15) (a5:Y5),Inv cnt a5→Q (wpy rc (wlo (wbr big)) a0 a1 a4 a5 (cnt:Int)))
 (i0:Nat) (hi:i0≤cnt) (a5:Y5) (h0:Inv i0 a5):Q (wlm big a0 a1 a4 a5 (i0:Int)) :=
 idxB (fun m i=>∀(a5:Y5),Inv i a5→Q (w5s big (wlo (wbr big)) m a0 a1 a4 a5 (i:Int))) (fun _ i hl ih a5 h=>hs _ i a5 hl h ih) (fun _ a5 h=>he _ a5 h) i0 hi hn a5 h0
theorem xnl {a0:Int}{a4:Y2}(cnt:Nat) (Inv:T47){Q:Z2→Prop}(hn:cnt≤500000000000)
 (hs:∀(rc:T14) (i:Nat) (a5:Y5),i<cnt→Inv i a5→(∀(a5':Y5),Inv (i+1) a5'→Q (rc a0 a4 a5' ((i+1:Nat):Int)))→Q (wf5 (wjs big rc (za (xo big))) (za (xo big)) a0 a4 a5 (i:Int)))
 (he:∀(rc:T14) (a5:Y5),Inv cnt a5→Q (wf5 (wjs big rc (za (xo big))) (za (xo big)) a0 a4 a5 (cnt:Int)))
 (i0:Nat) (hi:i0≤cnt) (a5:Y5) (h0:Inv i0 a5):Q (wbr big a0 a4 a5 (i0:Int)) :=
 idxB (fun m i=>∀(a5:Y5),Inv i a5→Q (wxc big (za (xo big)) m a0 a4 a5 (i:Int))) (fun _ i hl ih a5 h=>hs _ i a5 hl h ih) (fun _ a5 h=>he _ a5 h) i0 hi hn a5 h0
theorem xnm {rec:T14}{k:T86}{a0:Int}{a4:Y2}{a9:Int}(cnt:Nat) (Inv:T47){Q:Z2→Prop}(hn:cnt≤500000000000)
 (hs:∀(rc:T13) (i:Nat) (a5:Y5),i<cnt→Inv i a5→(∀(a5':Y5),Inv (i+1) a5'→Q (rc a0 a4 a5' a9 ((i+1:Nat):Int)))→Q (wf6 (wjt big rc (zb rec)) (zb rec) a0 a4 a5 a9 (i:Int)))
 (he:∀(rc:T13) (a5:Y5),Inv cnt a5→Q (wf6 (wjt big rc (zb rec)) (zb rec) a0 a4 a5 a9 (cnt:Int)))
 (i0:Nat) (hi:i0≤cnt) (a5:Y5) (h0:Inv i0 a5):Q (wjs big rec k a0 a4 a5 a9 (i0:Int)) :=
 idxB (fun m i=>∀(a5:Y5),Inv i a5→Q (wxd big (zb rec) m a0 a4 a5 a9 (i:Int))) (fun _ i hl ih a5 h=>hs _ i a5 hl h ih) (fun _ a5 h=>he _ a5 h) i0 hi hn a5 h0
theorem xno {a0:Int}{a4:Y2}{a5:Y5}(cnt:Nat) (Inv:Nat→Y2→Prop){Q:Z2→Prop}(hn:cnt≤500000000000)
 (hs:∀(rc:T42) (i:Nat) (a12:Y2),i<cnt→Inv i a12→(∀(a12':Y2),Inv (i+1) a12'→Q (rc a0 a4 a5 a12' ((i+1:Nat):Int)))→Q (wf7 (wju big rc zd) zd a0 a4 a5 a12 (i:Int)))
 (he:∀(rc:T42) (a12:Y2),Inv cnt a12→Q (wf7 (wju big rc zd) zd a0 a4 a5 a12 (cnt:Int)))
 (i0:Nat) (hi:i0≤cnt) (a12:Y2) (h0:Inv i0 a12):Q (xo big a0 a4 a5 a12 (i0:Int)) :=
 idxB (fun m i=>∀(a12:Y2),Inv i a12→Q (wxf big zd m a0 a4 a5 a12 (i:Int))) (fun _ i hl ih a12 h=>hs _ i a12 hl h ih) (fun _ a12 h=>he _ a12 h) i0 hi hn a12 h0
theorem xnn {rec:T13}{k:T14}{a0:Int}{a4:Y2}{a9:Int}{a10:Int}(cnt:Nat) (Inv:T47){Q:Z2→Prop}(hn:cnt≤500000000000)
 (hs:∀(rc:T58) (i:Nat) (a5:Y5),i<cnt→Inv i a5→(∀(a5':Y5),Inv (i+1) a5'→Q (rc a0 a4 a5' a9 a10 ((i+1:Nat):Int)))→Q (wjx rc (wf3 rec) a0 a4 a5 a9 a10 (i:Int)))
 (he:∀(rc:T58) (a5:Y5),Inv cnt a5→Q (wjx rc (wf3 rec) a0 a4 a5 a9 a10 (cnt:Int)))
 (i0:Nat) (hi:i0≤cnt) (a5:Y5) (h0:Inv i0 a5):Q (wjt big rec k a0 a4 a5 a9 a10 (i0:Int)) :=
 idxB (fun m i=>∀(a5:Y5),Inv i a5→Q (wxe big (wf3 rec) m a0 a4 a5 a9 a10 (i:Int))) (fun _ i hl ih a5 h=>hs _ i a5 hl h ih) (fun _ a5 h=>he _ a5 h) i0 hi hn a5 h0
theorem xnp {rec:T42}{k:T21}{a0:Int}{a4:Y2}{a5:Y5}{a12:Y2}{a13:Int}(cnt:Nat) (Inv:T6){Q:Z2→Prop}(hn:cnt≤500000000000)
 (hs:∀(rc:T50) (i:Nat) (a14:Y4),i<cnt→Inv i a14→(∀(a14':Y4),Inv (i+1) a14'→Q (rc a0 a4 a5 a12 a13 a14' ((i+1:Nat):Int)))→Q (wjy rc (wf4 rec) a0 a4 a5 a12 a13 a14 (i:Int)))
 (he:∀(rc:T50) (a14:Y4),Inv cnt a14→Q (wjy rc (wf4 rec) a0 a4 a5 a12 a13 a14 (cnt:Int)))
 (i0:Nat) (hi:i0≤cnt) (a14:Y4) (h0:Inv i0 a14):Q (wju big rec k a0 a4 a5 a12 a13 a14 (i0:Int)) :=
 idxB (fun m i=>∀(a14:Y4),Inv i a14→Q (wxg big (wf4 rec) m a0 a4 a5 a12 a13 a14 (i:Int))) (fun _ i hl ih a14 h=>hs _ i a14 hl h ih) (fun _ a14 h=>he _ a14 h) i0 hi hn a14 h0
theorem xlo {a0:Y4}{a1:Int}(cnt:Nat) (Inv:T7){Q:Z3→Prop}(hn:cnt≤500000000000)
 (hs:∀(rc:T101) (i:Nat),i<cnt→Inv i→(Inv (i+1)→Q (rc a0 a1 ((i+1:Nat):Int)))→Q (wgy rc wap a0 a1 (i:Int)))
 (he:∀(rc:T101),Inv cnt→Q (wgy rc wap a0 a1 (cnt:Int)))
 (i0:Nat) (hi:i0≤cnt) (h0:Inv i0):Q (ws8 big a0 a1 (i0:Int)) :=
 idxB (fun m i=>Inv i→Q (ws9 big wap m a0 a1 (i:Int))) (fun _ i hl ih h=>hs _ i hl h ih) (fun _ h=>he _ h) i0 hi hn h0
theorem xlq {a2:Y2}{a3:Int}(cnt:Nat) (Inv:Nat→Z13→Z16→Prop){Q:Z6→Prop}(hn:cnt≤500000000000)
 (hs:∀(rc:T11) (i:Nat) (a0:Z13) (a4:Z16),i<cnt→Inv i a0 a4→(∀(a0':Z13) (a4':Z16),Inv (i+1) a0' a4'→Q (rc a0' a2 a3 a4' ((i+1:Nat):Int)))→Q (wcw (wg0 big rc (yj (xh big) (wh big))) (yj (xh big) (wh big)) a0 a2 a3 a4 (i:Int)))
 (he:∀(rc:T11) (a0:Z13) (a4:Z16),Inv cnt a0 a4→Q (wcw (wg0 big rc (yj (xh big) (wh big))) (yj (xh big) (wh big)) a0 a2 a3 a4 (cnt:Int)))
 (i0:Nat) (hi:i0≤cnt) (a0:Z13) (a4:Z16) (h0:Inv i0 a0 a4):Q (wto big a0 a2 a3 a4 (i0:Int)) :=
 idxB (fun m i=>∀(a0:Z13) (a4:Z16),Inv i a0 a4→Q (wtq big (yj (xh big) (wh big)) m a0 a2 a3 a4 (i:Int))) (fun _ i hl ih a0 a4 h=>hs _ i a0 a4 hl h ih) (fun _ a0 a4 h=>he _ a0 a4 h) i0 hi hn a0 a4 h0
theorem xlr {rec:T11}{k:T54}{a2:Y2}{a3:Int}{a5:Int}(cnt:Nat) (Inv:Nat→Z13→Z16→Prop){Q:Z6→Prop}(hn:cnt≤500000000000)
 (hs:∀(rc:T57) (i:Nat) (a0:Z13) (a4:Z16),i<cnt→Inv i a0 a4→(∀(a0':Z13) (a4':Z16),Inv (i+1) a0' a4'→Q (rc a0' a2 a3 a4' a5 ((i+1:Nat):Int)))→Q (wg2 rc (wcu rec) a0 a2 a3 a4 a5 (i:Int)))
 (he:∀(rc:T57) (a0:Z13) (a4:Z16),Inv cnt a0 a4→Q (wg2 rc (wcu rec) a0 a2 a3 a4 a5 (cnt:Int)))
 (i0:Nat) (hi:i0≤cnt) (a0:Z13) (a4:Z16) (h0:Inv i0 a0 a4):Q (wg0 big rec k a0 a2 a3 a4 a5 (i0:Int)) :=
 idxB (fun m i=>∀(a0:Z13) (a4:Z16),Inv i a0 a4→Q (wtr big (wcu rec) m a0 a2 a3 a4 a5 (i:Int))) (fun _ i hl ih a0 a4 h=>hs _ i a0 a4 hl h ih) (fun _ a0 a4 h=>he _ a0 a4 h) i0 hi hn a0 a4 h0
theorem xij {a0:Z13}{a2:Y2}{a3:Int}{a7:Y4}(cnt:Nat) (Inv:Nat→Z16→Prop){Q:Z6→Prop}(hn:cnt≤500000000000)
 (hs:∀(rc:T59) (i:Nat) (a4:Z16),i<cnt→Inv i a4→(∀(a4':Z16),Inv (i+1) a4'→Q (rc a0 a2 a3 a4' a7 ((i+1:Nat):Int)))→Q (wcv rc (x9 (wh big)) a0 a2 a3 a4 a7 (i:Int)))
 (he:∀(rc:T59) (a4:Z16),Inv cnt a4→Q (wcv rc (x9 (wh big)) a0 a2 a3 a4 a7 (cnt:Int)))
 (i0:Nat) (hi:i0≤cnt) (a4:Z16) (h0:Inv i0 a4):Q (xh big a0 a2 a3 a4 a7 (i0:Int)) :=
 idxB (fun m i=>∀(a4:Z16),Inv i a4→Q (wqw big (x9 (wh big)) m a0 a2 a3 a4 a7 (i:Int))) (fun _ i hl ih a4 h=>hs _ i a4 hl h ih) (fun _ a4 h=>he _ a4 h) i0 hi hn a4 h0
theorem xik {a2:Y2}(mu:Z13→Y2→Nat) (Inv:Z13→Y2→Prop){Q:Z6→Prop}
 (hs:∀(rc:T102) (a0:Z13) (a9:Y2),Inv a0 a9→(∀(a0':Z13) (a9':Y2),Inv a0' a9'→mu a0' a9'<mu a0 a9→Q (rc a0' a2 a9'))→Q (wqv rc wct a0 a2 a9))
 (a0:Z13) (a9:Y2) (hm:mu a0 a9≤500000000000) (h0:Inv a0 a9):Q (wh big a0 a2 a9) :=
 muR (fun m=>∀(a0:Z13) (a9:Y2),mu a0 a9<m→Inv a0 a9→Q (wqx big wct m a0 a2 a9)) (fun a0 a9 h2 _=>absurd h2 (Nat.not_lt_zero _)) (fun _ ih a0 a9 h2 h3=>hs _ a0 a9 h3 fun a0' a9' h4 h5=>ih a0' a9' (by omega) h4) big a0 a9 (by have:=jq;omega) h0
theorem xlt {a0:Y4}{a1:Int}(cnt:Nat) (Inv:T7){res:Option Z0}(hn:cnt≤500000000000)
 (hs:∀(rc:Y4→Int→Int→Option Z0) (i:Nat),i<cnt→Inv i→(Inv (i+1)→rc a0 a1 ((i+1:Nat):Int)=res)→wg4 rc wdd a0 a1 (i:Int)=res)
 (he:∀(rc:Y4→Int→Int→Option Z0),Inv cnt→wg4 rc wdd a0 a1 (cnt:Int)=res)
 (i0:Nat) (hi:i0≤cnt) (h0:Inv i0):wua big a0 a1 (i0:Int)=res :=
 idxB (fun m i=>Inv i→wub big wdd m a0 a1 (i:Int)=res) (fun _ i hl ih h=>hs _ i hl h ih) (fun _ h=>he _ h) i0 hi hn h0
theorem xlu {a1:Int}{a2:Int}{a3:Y2}(cnt:Nat) (Inv:T7){res:Option Z0}(hn:cnt≤500000000000)
 (hs:∀(rc:Int→Int→Y2→Int→Option Z0) (i:Nat),i<cnt→Inv i→(Inv (i+1)→rc a1 a2 a3 ((i+1:Nat):Int)=res)→wg6 rc wde a1 a2 a3 (i:Int)=res)
 (he:∀(rc:Int→Int→Y2→Int→Option Z0),Inv cnt→wg6 rc wde a1 a2 a3 (cnt:Int)=res)
 (i0:Nat) (hi:i0≤cnt) (h0:Inv i0):wuc big a1 a2 a3 (i0:Int)=res :=
 idxB (fun m i=>Inv i→wud big wde m a1 a2 a3 (i:Int)=res) (fun _ i hl ih h=>hs _ i hl h ih) (fun _ h=>he _ h) i0 hi hn h0
theorem xlw {a0:Z13}{a2:Y2}{a3:Y2}{a4:Int}{a5:Y4}(cnt:Nat) (Inv:Nat→Z16→Prop){Q:Z6→Prop}(hn:cnt≤500000000000)
 (hs:∀(rc:T2) (i:Nat) (a6:Z16),i<cnt→Inv i a6→(∀(a6':Z16),Inv (i+1) a6'→Q (rc a0 a2 a3 a4 a5 a6' ((i+1:Nat):Int)))→Q (wg9 rc wdg a0 a2 a3 a4 a5 a6 (i:Int)))
 (he:∀(rc:T2) (a6:Z16),Inv cnt a6→Q (wg9 rc wdg a0 a2 a3 a4 a5 a6 (cnt:Int)))
 (i0:Nat) (hi:i0≤cnt) (a6:Z16) (h0:Inv i0 a6):Q (wue big a0 a2 a3 a4 a5 a6 (i0:Int)) :=
 idxB (fun m i=>∀(a6:Z16),Inv i a6→Q (wuf big wdg m a0 a2 a3 a4 a5 a6 (i:Int))) (fun _ i hl ih a6 h=>hs _ i a6 hl h ih) (fun _ a6 h=>he _ a6 h) i0 hi hn a6 h0
theorem w78 {a0:Int}(mu:Int→Int→Nat) (Inv:Int→Int→Prop){res:Z4}
 (hs:∀(rc:T81) (a1 a5:Int),Inv a1 a5→(∀(a1':Int) (a5':Int),Inv a1' a5'→mu a1' a5'<mu a1 a5→rc a0 a1' a5'=res)→wm0 rc wdh a0 a1 a5=res)
 (a1 a5:Int) (hm:mu a1 a5≤500000000000) (h0:Inv a1 a5):wug big a0 a1 a5=res :=
 muR (fun m=>∀(a1 a5:Int),mu a1 a5<m→Inv a1 a5→wuh big wdh m a0 a1 a5=res) (fun a1 a5 h2 _=>absurd h2 (Nat.not_lt_zero _)) (fun _ ih a1 a5 h2 h3=>hs _ a1 a5 h3 fun a1' a5' h4 h5=>ih a1' a5' (by omega) h4) big a1 a5 (by have:=jq;omega) h0
theorem xly {a0:Z13}{a2:Y2}{a3:Y2}{a4:Int}{a5:Y4}(cnt:Nat) (Inv:Nat→Z16→Prop){Q:Z6→Prop}(hn:cnt≤500000000000)
 (hs:∀(rc:T2) (i:Nat) (a6:Z16),i<cnt→Inv i a6→(∀(a6':Z16),Inv (i+1) a6'→Q (rc a0 a2 a3 a4 a5 a6' ((i+1:Nat):Int)))→Q (whd rc wdj a0 a2 a3 a4 a5 a6 (i:Int)))
 (he:∀(rc:T2) (a6:Z16),Inv cnt a6→Q (whd rc wdj a0 a2 a3 a4 a5 a6 (cnt:Int)))
 (i0:Nat) (hi:i0≤cnt) (a6:Z16) (h0:Inv i0 a6):Q (wui big a0 a2 a3 a4 a5 a6 (i0:Int)) :=
 idxB (fun m i=>∀(a6:Z16),Inv i a6→Q (wuj big wdj m a0 a2 a3 a4 a5 a6 (i:Int))) (fun _ i hl ih a6 h=>hs _ i a6 hl h ih) (fun _ a6 h=>he _ a6 h) i0 hi hn a6 h0
theorem xlz {a0:Int}{a8:Int}(cnt:Nat) (Inv:T47){res:Z9}(hn:cnt≤500000000000)
 (hs:∀(rc:T92) (i:Nat) (a3:Y5),i<cnt→Inv i a3→(∀(a3':Y5),Inv (i+1) a3'→rc a0 a3' a8 ((i+1:Nat):Int)=res)→whf rc wdk a0 a3 a8 (i:Int)=res)
 (he:∀(rc:T92) (a3:Y5),Inv cnt a3→whf rc wdk a0 a3 a8 (cnt:Int)=res)
 (i0:Nat) (hi:i0≤cnt) (a3:Y5) (h0:Inv i0 a3):wuk big a0 a3 a8 (i0:Int)=res :=
 idxB (fun m i=>∀(a3:Y5),Inv i a3→wul big wdk m a0 a3 a8 (i:Int)=res) (fun _ i hl ih a3 h=>hs _ i a3 hl h ih) (fun _ a3 h=>he _ a3 h) i0 hi hn a3 h0
theorem xl0 {a0:Y5}{a7:Int}(cnt:Nat) (Inv:T7){res:Option Z0}(hn:cnt≤500000000000)
 (hs:∀(rc:Y5→Int→Int→Option Z0) (i:Nat),i<cnt→Inv i→(Inv (i+1)→rc a0 a7 ((i+1:Nat):Int)=res)→wdp (whi big rc yk) yk a0 a7 (i:Int)=res)
 (he:∀(rc:Y5→Int→Int→Option Z0),Inv cnt→wdp (whi big rc yk) yk a0 a7 (cnt:Int)=res)
 (i0:Nat) (hi:i0≤cnt) (h0:Inv i0):wuu big a0 a7 (i0:Int)=res :=
 idxB (fun m i=>Inv i→wuv big yk m a0 a7 (i:Int)=res) (fun _ i hl ih h=>hs _ i hl h ih) (fun _ h=>he _ h) i0 hi hn h0
theorem xl1 {rec:Y5→Int→Int→Option Z0}{k:Option Z0}{a0:Y5}{a3:Int}{a7:Int}{a8:Int}{a20:Int}(cnt:Nat) (Inv:T7){res:Option Z0}(hn:cnt≤500000000000)
 (hs:∀(rc:Y5→Int→Int→Int→Int→Int→Option Z0) (i:Nat),i<cnt→Inv i→(Inv (i+1)→rc a0 a3 a7 a8 a20 ((i+1:Nat):Int)=res)→wdq (wad big rc (xn rec)) (xn rec) a0 a3 a7 a8 a20 (i:Int)=res)
 (he:∀(rc:Y5→Int→Int→Int→Int→Int→Option Z0),Inv cnt→wdq (wad big rc (xn rec)) (xn rec) a0 a3 a7 a8 a20 (cnt:Int)=res)
 (i0:Nat) (hi:i0≤cnt) (h0:Inv i0):whi big rec k a0 a3 a7 a8 a20 (i0:Int)=res :=
 idxB (fun m i=>Inv i→wuw big (xn rec) m a0 a3 a7 a8 a20 (i:Int)=res) (fun _ i hl ih h=>hs _ i hl h ih) (fun _ h=>he _ h) i0 hi hn h0
theorem xi8 {rec:Y5→Int→Int→Int→Int→Int→Option Z0}{k:Y5→Int→Int→Option Z0}{a0:Y5}{a3:Int}{a4:Int}{a7:Int}{a8:Int}{a20:Int}{a21:Int}{a46:Int}(cnt:Nat) (Inv:T7){res:Option Z0}(hn:cnt≤500000000000)
 (hs:∀(rc:Y5→Int→Int→Int→Int→Int→Int→Int→Int→Option Z0) (i:Nat),i<cnt→Inv i→(Inv (i+1)→rc a0 a3 a4 a7 a8 a20 a21 a46 ((i+1:Nat):Int)=res)→wdo rc (wae rec) a0 a3 a4 a7 a8 a20 a21 a46 (i:Int)=res)
 (he:∀(rc:Y5→Int→Int→Int→Int→Int→Int→Int→Int→Option Z0),Inv cnt→wdo rc (wae rec) a0 a3 a4 a7 a8 a20 a21 a46 (cnt:Int)=res)
 (i0:Nat) (hi:i0≤cnt) (h0:Inv i0):wad big rec k a0 a3 a4 a7 a8 a20 a21 a46 (i0:Int)=res :=
 idxB (fun m i=>Inv i→wrc big (wae rec) m a0 a3 a4 a7 a8 a20 a21 a46 (i:Int)=res) (fun _ i hl ih h=>hs _ i hl h ih) (fun _ h=>he _ h) i0 hi hn h0
theorem xl2 {a4:Int}{a18:Y3}{a19:Int}(cnt:Nat) (Inv:T47){res:Z14}(hn:cnt≤500000000000)
 (hs:∀(rc:T40) (i:Nat) (a5:Y5),i<cnt→Inv i a5→(∀(a5':Y5),Inv (i+1) a5'→rc a4 a5' a18 a19 ((i+1:Nat):Int)=res)→wdv (wds big rc yl) yl a4 a5 a18 a19 (i:Int)=res)
 (he:∀(rc:T40) (a5:Y5),Inv cnt a5→wdv (wds big rc yl) yl a4 a5 a18 a19 (cnt:Int)=res)
 (i0:Nat) (hi:i0≤cnt) (a5:Y5) (h0:Inv i0 a5):wux big a4 a5 a18 a19 (i0:Int)=res :=
 idxB (fun m i=>∀(a5:Y5),Inv i a5→wuy big yl m a4 a5 a18 a19 (i:Int)=res) (fun _ i hl ih a5 h=>hs _ i a5 hl h ih) (fun _ a5 h=>he _ a5 h) i0 hi hn a5 h0
theorem xjb {rec:T40}{k:Y5→Z14}{a4:Int}{a6:Int}{a18:Y3}{a19:Int}{a20:Int}{a29:Y4}{a30:Int}{a31:Bool}{a32:Bool}{a34:Y4}{a35:Int}(cnt:Nat) (Inv:T47){res:Z14}(hn:cnt≤500000000000)
 (hs:∀(rc:T5) (i:Nat) (a5:Y5),i<cnt→Inv i a5→(∀(a5':Y5),Inv (i+1) a5'→rc a4 a5' a6 a18 a19 a20 a29 a30 a31 a32 a34 a35 ((i+1:Nat):Int)=res)→wdu rc (waf rec) a4 a5 a6 a18 a19 a20 a29 a30 a31 a32 a34 a35 (i:Int)=res)
 (he:∀(rc:T5) (a5:Y5),Inv cnt a5→wdu rc (waf rec) a4 a5 a6 a18 a19 a20 a29 a30 a31 a32 a34 a35 (cnt:Int)=res)
 (i0:Nat) (hi:i0≤cnt) (a5:Y5) (h0:Inv i0 a5):wds big rec k a4 a5 a6 a18 a19 a20 a29 a30 a31 a32 a34 a35 (i0:Int)=res :=
 idxB (fun m i=>∀(a5:Y5),Inv i a5→wrd big (waf rec) m a4 a5 a6 a18 a19 a20 a29 a30 a31 a32 a34 a35 (i:Int)=res) (fun _ i hl ih a5 h=>hs _ i a5 hl h ih) (fun _ a5 h=>he _ a5 h) i0 hi hn a5 h0
theorem xl3 {a0:Y5}{a1:Y4}{a10:Y4}{a11:Int}(cnt:Nat) (Inv:T7){res:Z4}(hn:cnt≤500000000000)
 (hs:∀(rc:T43) (i:Nat),i<cnt→Inv i→(Inv (i+1)→rc a0 a1 a10 a11 ((i+1:Nat):Int)=res)→wdy (whj big rc ym) ym a0 a1 a10 a11 (i:Int)=res)
 (he:∀(rc:T43),Inv cnt→wdy (whj big rc ym) ym a0 a1 a10 a11 (cnt:Int)=res)
 (i0:Nat) (hi:i0≤cnt) (h0:Inv i0):wuz big a0 a1 a10 a11 (i0:Int)=res :=
 idxB (fun m i=>Inv i→wu0 big ym m a0 a1 a10 a11 (i:Int)=res) (fun _ i hl ih h=>hs _ i hl h ih) (fun _ h=>he _ h) i0 hi hn h0
theorem xl4 {rec:T43}{k:Z4}{a0:Y5}{a1:Y4}{a6:Int}{a10:Y4}{a11:Int}{a12:Int}{a16:Y4}{a17:Int}(cnt:Nat) (Inv:Nat→Bool→Prop){res:Z4}(hn:cnt≤500000000000)
 (hs:∀(rc:T17) (i:Nat) (a7:Bool),i<cnt→Inv i a7→(∀(a7':Bool),Inv (i+1) a7'→rc a0 a1 a6 a7' a10 a11 a12 a16 a17 ((i+1:Nat):Int)=res)→whl rc (wdx rec) a0 a1 a6 a7 a10 a11 a12 a16 a17 (i:Int)=res)
 (he:∀(rc:T17) (a7:Bool),Inv cnt a7→whl rc (wdx rec) a0 a1 a6 a7 a10 a11 a12 a16 a17 (cnt:Int)=res)
 (i0:Nat) (hi:i0≤cnt) (a7:Bool) (h0:Inv i0 a7):whj big rec k a0 a1 a6 a7 a10 a11 a12 a16 a17 (i0:Int)=res :=
 idxB (fun m i=>∀(a7:Bool),Inv i a7→wu1 big (wdx rec) m a0 a1 a6 a7 a10 a11 a12 a16 a17 (i:Int)=res) (fun _ i hl ih a7 h=>hs _ i a7 hl h ih) (fun _ a7 h=>he _ a7 h) i0 hi hn a7 h0
theorem xl5 {a1:(Y5×Z1)}{a9:Int}(cnt:Nat) (Inv:T6){res:Z3}(hn:cnt≤500000000000)
 (hs:∀(rc:T77) (i:Nat) (a5:Y4),i<cnt→Inv i a5→(∀(a5':Y4),Inv (i+1) a5'→rc a1 a5' a9 ((i+1:Nat):Int)=res)→whn rc wdz a1 a5 a9 (i:Int)=res)
 (he:∀(rc:T77) (a5:Y4),Inv cnt a5→whn rc wdz a1 a5 a9 (cnt:Int)=res)
 (i0:Nat) (hi:i0≤cnt) (a5:Y4) (h0:Inv i0 a5):wu2 big a1 a5 a9 (i0:Int)=res :=
 idxB (fun m i=>∀(a5:Y4),Inv i a5→wu3 big wdz m a1 a5 a9 (i:Int)=res) (fun _ i hl ih a5 h=>hs _ i a5 hl h ih) (fun _ a5 h=>he _ a5 h) i0 hi hn a5 h0
theorem xl6 {a1:Y5}{a11:Int}(cnt:Nat) (Inv:Nat→Y3→Prop){res:Z15}(hn:cnt≤500000000000)
 (hs:∀(rc:T55) (i:Nat) (a4:Y3),i<cnt→Inv i a4→(∀(a4':Y3),Inv (i+1) a4'→rc a1 a4' a11 ((i+1:Nat):Int)=res)→wd2 (who big rc yn) yn a1 a4 a11 (i:Int)=res)
 (he:∀(rc:T55) (a4:Y3),Inv cnt a4→wd2 (who big rc yn) yn a1 a4 a11 (cnt:Int)=res)
 (i0:Nat) (hi:i0≤cnt) (a4:Y3) (h0:Inv i0 a4):wu4 big a1 a4 a11 (i0:Int)=res :=
 idxB (fun m i=>∀(a4:Y3),Inv i a4→wu5 big yn m a1 a4 a11 (i:Int)=res) (fun _ i hl ih a4 h=>hs _ i a4 hl h ih) (fun _ a4 h=>he _ a4 h) i0 hi hn a4 h0
theorem xl7 {rec:T55}{k:Y3→Z15}{a1:Y5}{a4:Y3}{a5:Int}{a11:Int}{a12:Int}{a17:Int}(cnt:Nat) (Inv:T6){res:Z15}(hn:cnt≤500000000000)
 (hs:∀(rc:T32) (i:Nat) (a6:Y4),i<cnt→Inv i a6→(∀(a6':Y4),Inv (i+1) a6'→rc a1 a4 a5 a6' a11 a12 a17 ((i+1:Nat):Int)=res)→whq rc (wd1 rec) a1 a4 a5 a6 a11 a12 a17 (i:Int)=res)
 (he:∀(rc:T32) (a6:Y4),Inv cnt a6→whq rc (wd1 rec) a1 a4 a5 a6 a11 a12 a17 (cnt:Int)=res)
 (i0:Nat) (hi:i0≤cnt) (a6:Y4) (h0:Inv i0 a6):who big rec k a1 a4 a5 a6 a11 a12 a17 (i0:Int)=res :=
 idxB (fun m i=>∀(a6:Y4),Inv i a6→wu6 big (wd1 rec) m a1 a4 a5 a6 a11 a12 a17 (i:Int)=res) (fun _ i hl ih a6 h=>hs _ i a6 hl h ih) (fun _ a6 h=>he _ a6 h) i0 hi hn a6 h0
theorem xl8 {a0:Y5}{a10:Int}(cnt:Nat) (Inv:T47){res:Z9}(hn:cnt≤500000000000)
 (hs:∀(rc:T33) (i:Nat) (a3:Y5),i<cnt→Inv i a3→(∀(a3':Y5),Inv (i+1) a3'→rc a0 a3' a10 ((i+1:Nat):Int)=res)→wd5 (whr big rc yo) yo a0 a3 a10 (i:Int)=res)
 (he:∀(rc:T33) (a3:Y5),Inv cnt a3→wd5 (whr big rc yo) yo a0 a3 a10 (cnt:Int)=res)
 (i0:Nat) (hi:i0≤cnt) (a3:Y5) (h0:Inv i0 a3):wu7 big a0 a3 a10 (i0:Int)=res :=
 idxB (fun m i=>∀(a3:Y5),Inv i a3→wu8 big yo m a0 a3 a10 (i:Int)=res) (fun _ i hl ih a3 h=>hs _ i a3 hl h ih) (fun _ a3 h=>he _ a3 h) i0 hi hn a3 h0
theorem xl9 {rec:T33}{k:Y5→Z9}{a0:Y5}{a4:Int}{a10:Int}{a11:Int}{a15:Int}(cnt:Nat) (Inv:T47){res:Z9}(hn:cnt≤500000000000)
 (hs:∀(rc:T48) (i:Nat) (a3:Y5),i<cnt→Inv i a3→(∀(a3':Y5),Inv (i+1) a3'→rc a0 a3' a4 a10 a11 a15 ((i+1:Nat):Int)=res)→wht rc (wd4 rec) a0 a3 a4 a10 a11 a15 (i:Int)=res)
 (he:∀(rc:T48) (a3:Y5),Inv cnt a3→wht rc (wd4 rec) a0 a3 a4 a10 a11 a15 (cnt:Int)=res)
 (i0:Nat) (hi:i0≤cnt) (a3:Y5) (h0:Inv i0 a3):whr big rec k a0 a3 a4 a10 a11 a15 (i0:Int)=res :=
 idxB (fun m i=>∀(a3:Y5),Inv i a3→wu9 big (wd4 rec) m a0 a3 a4 a10 a11 a15 (i:Int)=res) (fun _ i hl ih a3 h=>hs _ i a3 hl h ih) (fun _ a3 h=>he _ a3 h) i0 hi hn a3 h0
theorem xma {a0:Y1}{a10:Int}(cnt:Nat) (Inv:T7){Q:Z10→Prop}(hn:cnt≤500000000000)
 (hs:∀(rc:T30) (i:Nat),i<cnt→Inv i→(Inv (i+1)→Q (rc a0 a10 ((i+1:Nat):Int)))→Q (wd9 (whu big rc yp) yp a0 a10 (i:Int)))
 (he:∀(rc:T30),Inv cnt→Q (wd9 (whu big rc yp) yp a0 a10 (cnt:Int)))
 (i0:Nat) (hi:i0≤cnt) (h0:Inv i0):Q (wva big a0 a10 (i0:Int)) :=
 idxB (fun m i=>Inv i→Q (wvb big yp m a0 a10 (i:Int))) (fun _ i hl ih h=>hs _ i hl h ih) (fun _ h=>he _ h) i0 hi hn h0
theorem xmb {rec:T30}{k:Z10}{a0:Y1}{a3:Int}{a10:Int}{a11:Int}{a18:Int}(cnt:Nat) (Inv:T7){Q:Z10→Prop}(hn:cnt≤500000000000)
 (hs:∀(rc:T8) (i:Nat),i<cnt→Inv i→(Inv (i+1)→Q (rc a0 a3 a10 a11 a18 ((i+1:Nat):Int)))→Q (wea (whv big rc (yq rec)) (yq rec) a0 a3 a10 a11 a18 (i:Int)))
 (he:∀(rc:T8),Inv cnt→Q (wea (whv big rc (yq rec)) (yq rec) a0 a3 a10 a11 a18 (cnt:Int)))
 (i0:Nat) (hi:i0≤cnt) (h0:Inv i0):Q (whu big rec k a0 a3 a10 a11 a18 (i0:Int)) :=
 idxB (fun m i=>Inv i→Q (wvc big (yq rec) m a0 a3 a10 a11 a18 (i:Int))) (fun _ i hl ih h=>hs _ i hl h ih) (fun _ h=>he _ h) i0 hi hn h0
theorem xmc {rec:T8}{k:T30}{a0:Y1}{a3:Int}{a4:Int}{a10:Int}{a11:Int}{a18:Int}{a19:Int}{a26:Int}(cnt:Nat) (Inv:T7){Q:Z10→Prop}(hn:cnt≤500000000000)
 (hs:∀(rc:T20) (i:Nat),i<cnt→Inv i→(Inv (i+1)→Q (rc a0 a3 a4 a10 a11 a18 a19 a26 ((i+1:Nat):Int)))→Q (whx rc (wd8 rec) a0 a3 a4 a10 a11 a18 a19 a26 (i:Int)))
 (he:∀(rc:T20),Inv cnt→Q (whx rc (wd8 rec) a0 a3 a4 a10 a11 a18 a19 a26 (cnt:Int)))
 (i0:Nat) (hi:i0≤cnt) (h0:Inv i0):Q (whv big rec k a0 a3 a4 a10 a11 a18 a19 a26 (i0:Int)) :=
 idxB (fun m i=>Inv i→Q (wvd big (wd8 rec) m a0 a3 a4 a10 a11 a18 a19 a26 (i:Int))) (fun _ i hl ih h=>hs _ i hl h ih) (fun _ h=>he _ h) i0 hi hn h0
theorem xmd {a0:Y1}{a9:Int}(cnt:Nat) (Inv:T88){res:Z4}(hn:cnt≤500000000000)
 (hs:∀(rc:T28) (i:Nat) (a3:Int),i<cnt→Inv i a3→(∀(a3':Int),Inv (i+1) a3'→rc a0 a3' a9 ((i+1:Nat):Int)=res)→whz rc web a0 a3 a9 (i:Int)=res)
 (he:∀(rc:T28) (a3:Int),Inv cnt a3→whz rc web a0 a3 a9 (cnt:Int)=res)
 (i0:Nat) (hi:i0≤cnt) (a3:Int) (h0:Inv i0 a3):wve big a0 a3 a9 (i0:Int)=res :=
 idxB (fun m i=>∀(a3:Int),Inv i a3→wvf big web m a0 a3 a9 (i:Int)=res) (fun _ i hl ih a3 h=>hs _ i a3 hl h ih) (fun _ a3 h=>he _ a3 h) i0 hi hn a3 h0
theorem xme {a0:Y1}{a9:Int}(cnt:Nat) (Inv:T88){res:Z4}(hn:cnt≤500000000000)
 (hs:∀(rc:T28) (i:Nat) (a3:Int),i<cnt→Inv i a3→(∀(a3':Int),Inv (i+1) a3'→rc a0 a3' a9 ((i+1:Nat):Int)=res)→wh1 rc wec a0 a3 a9 (i:Int)=res)
 (he:∀(rc:T28) (a3:Int),Inv cnt a3→wh1 rc wec a0 a3 a9 (cnt:Int)=res)
 (i0:Nat) (hi:i0≤cnt) (a3:Int) (h0:Inv i0 a3):wvg big a0 a3 a9 (i0:Int)=res :=
 idxB (fun m i=>∀(a3:Int),Inv i a3→wvh big wec m a0 a3 a9 (i:Int)=res) (fun _ i hl ih a3 h=>hs _ i a3 hl h ih) (fun _ a3 h=>he _ a3 h) i0 hi hn a3 h0
theorem xmf {a1:(Y1×(Int×Z1))}{a9:Int}(cnt:Nat) (Inv:T6){res:Z3}(hn:cnt≤500000000000)
 (hs:∀(rc:(Y1×(Int×Z1))→Y4→Int→Int→Z3) (i:Nat) (a5:Y4),i<cnt→Inv i a5→(∀(a5':Y4),Inv (i+1) a5'→rc a1 a5' a9 ((i+1:Nat):Int)=res)→wh3 rc wed a1 a5 a9 (i:Int)=res)
 (he:∀(rc:(Y1×(Int×Z1))→Y4→Int→Int→Z3) (a5:Y4),Inv cnt a5→wh3 rc wed a1 a5 a9 (cnt:Int)=res)
 (i0:Nat) (hi:i0≤cnt) (a5:Y4) (h0:Inv i0 a5):wvi big a1 a5 a9 (i0:Int)=res :=
 idxB (fun m i=>∀(a5:Y4),Inv i a5→wvj big wed m a1 a5 a9 (i:Int)=res) (fun _ i hl ih a5 h=>hs _ i a5 hl h ih) (fun _ a5 h=>he _ a5 h) i0 hi hn a5 h0
theorem xmg {a1:(Y1×Unit)}{a9:Int}(cnt:Nat) (Inv:T6){res:Z3}(hn:cnt≤500000000000)
 (hs:∀(rc:T72) (i:Nat) (a5:Y4),i<cnt→Inv i a5→(∀(a5':Y4),Inv (i+1) a5'→rc a1 a5' a9 ((i+1:Nat):Int)=res)→wh5 rc wee a1 a5 a9 (i:Int)=res)
 (he:∀(rc:T72) (a5:Y4),Inv cnt a5→wh5 rc wee a1 a5 a9 (cnt:Int)=res)
 (i0:Nat) (hi:i0≤cnt) (a5:Y4) (h0:Inv i0 a5):wvk big a1 a5 a9 (i0:Int)=res :=
 idxB (fun m i=>∀(a5:Y4),Inv i a5→wvl big wee m a1 a5 a9 (i:Int)=res) (fun _ i hl ih a5 h=>hs _ i a5 hl h ih) (fun _ a5 h=>he _ a5 h) i0 hi hn a5 h0
theorem xmh {a0:Y5}{a1:Int}{a2:Int}{a14:Int}(cnt:Nat) (Inv:T7){res:Option Z0}(hn:cnt≤500000000000)
 (hs:∀(rc:Y5→Int→Int→Int→Int→Option Z0) (i:Nat),i<cnt→Inv i→(Inv (i+1)→rc a0 a1 a2 a14 ((i+1:Nat):Int)=res)→wh7 rc wef a0 a1 a2 a14 (i:Int)=res)
 (he:∀(rc:Y5→Int→Int→Int→Int→Option Z0),Inv cnt→wh7 rc wef a0 a1 a2 a14 (cnt:Int)=res)
 (i0:Nat) (hi:i0≤cnt) (h0:Inv i0):wvm big a0 a1 a2 a14 (i0:Int)=res :=
 idxB (fun m i=>Inv i→wvn big wef m a0 a1 a2 a14 (i:Int)=res) (fun _ i hl ih h=>hs _ i hl h ih) (fun _ h=>he _ h) i0 hi hn h0
theorem xmi {a1:(Y5×(Int×Unit))}{a9:Int}(cnt:Nat) (Inv:T6){res:Z3}(hn:cnt≤500000000000)
 (hs:∀(rc:(Y5×(Int×Unit))→Y4→Int→Int→Z3) (i:Nat) (a5:Y4),i<cnt→Inv i a5→(∀(a5':Y4),Inv (i+1) a5'→rc a1 a5' a9 ((i+1:Nat):Int)=res)→wh9 rc weg a1 a5 a9 (i:Int)=res)
 (he:∀(rc:(Y5×(Int×Unit))→Y4→Int→Int→Z3) (a5:Y4),Inv cnt a5→wh9 rc weg a1 a5 a9 (cnt:Int)=res)
 (i0:Nat) (hi:i0≤cnt) (a5:Y4) (h0:Inv i0 a5):wvo big a1 a5 a9 (i0:Int)=res :=
 idxB (fun m i=>∀(a5:Y4),Inv i a5→wvp big weg m a1 a5 a9 (i:Int)=res) (fun _ i hl ih a5 h=>hs _ i a5 hl h ih) (fun _ a5 h=>he _ a5 h) i0 hi hn a5 h0
theorem xmj {a4:Y1}{a24:Int}(cnt:Nat) (Inv:T6){res:Z5}(hn:cnt≤500000000000)
 (hs:∀(rc:T60) (i:Nat) (a6:Y4),i<cnt→Inv i a6→(∀(a6':Y4),Inv (i+1) a6'→rc a4 a6' a24 ((i+1:Nat):Int)=res)→wel (wei big rc yr) yr a4 a6 a24 (i:Int)=res)
 (he:∀(rc:T60) (a6:Y4),Inv cnt a6→wel (wei big rc yr) yr a4 a6 a24 (cnt:Int)=res)
 (i0:Nat) (hi:i0≤cnt) (a6:Y4) (h0:Inv i0 a6):wvq big a4 a6 a24 (i0:Int)=res :=
 idxB (fun m i=>∀(a6:Y4),Inv i a6→wvr big yr m a4 a6 a24 (i:Int)=res) (fun _ i hl ih a6 h=>hs _ i a6 hl h ih) (fun _ a6 h=>he _ a6 h) i0 hi hn a6 h0
theorem xjt {rec:T60}{k:Y4→Z5}{a4:Y1}{a6:Y4}{a7:Int}{a24:Int}{a25:Int}{a29:Y4}{a30:Int}(cnt:Nat) (Inv:T88){res:Z5}(hn:cnt≤500000000000)
 (hs:∀(rc:T23) (i:Nat) (a8:Int),i<cnt→Inv i a8→(∀(a8':Int),Inv (i+1) a8'→rc a4 a6 a7 a8' a24 a25 a29 a30 ((i+1:Nat):Int)=res)→wek rc (wag rec) a4 a6 a7 a8 a24 a25 a29 a30 (i:Int)=res)
 (he:∀(rc:T23) (a8:Int),Inv cnt a8→wek rc (wag rec) a4 a6 a7 a8 a24 a25 a29 a30 (cnt:Int)=res)
 (i0:Nat) (hi:i0≤cnt) (a8:Int) (h0:Inv i0 a8):wei big rec k a4 a6 a7 a8 a24 a25 a29 a30 (i0:Int)=res :=
 idxB (fun m i=>∀(a8:Int),Inv i a8→wre big (wag rec) m a4 a6 a7 a8 a24 a25 a29 a30 (i:Int)=res) (fun _ i hl ih a8 h=>hs _ i a8 hl h ih) (fun _ a8 h=>he _ a8 h) i0 hi hn a8 h0
theorem xmk {a0:Y4}{a1:Y4}(cnt:Nat) (Inv:T7){res:Option Z0}(hn:cnt≤500000000000)
 (hs:∀(rc:Y4→Y4→Int→Option Z0) (i:Nat),i<cnt→Inv i→(Inv (i+1)→rc a0 a1 ((i+1:Nat):Int)=res)→wic rc wen a0 a1 (i:Int)=res)
 (he:∀(rc:Y4→Y4→Int→Option Z0),Inv cnt→wic rc wen a0 a1 (cnt:Int)=res)
 (i0:Nat) (hi:i0≤cnt) (h0:Inv i0):wvv big a0 a1 (i0:Int)=res :=
 idxB (fun m i=>Inv i→wvw big wen m a0 a1 (i:Int)=res) (fun _ i hl ih h=>hs _ i hl h ih) (fun _ h=>he _ h) i0 hi hn h0
theorem xml {a1:Y2}{a3:Int}(cnt:Nat) (Inv:T7){res:Option Z0}(hn:cnt≤500000000000)
 (hs:∀(rc:Y2→Int→Int→Option Z0) (i:Nat),i<cnt→Inv i→(Inv (i+1)→rc a1 a3 ((i+1:Nat):Int)=res)→wie rc (weq (wai big)) a1 a3 (i:Int)=res)
 (he:∀(rc:Y2→Int→Int→Option Z0),Inv cnt→wie rc (weq (wai big)) a1 a3 (cnt:Int)=res)
 (i0:Nat) (hi:i0≤cnt) (h0:Inv i0):wvx big a1 a3 (i0:Int)=res :=
 idxB (fun m i=>Inv i→wvy big (weq (wai big)) m a1 a3 (i:Int)=res) (fun _ i hl ih h=>hs _ i hl h ih) (fun _ h=>he _ h) i0 hi hn h0
theorem xjx {a1:Y2}{a3:Int}(cnt:Nat) (Inv:T7){res:Option Z0}(hn:cnt≤500000000000)
 (hs:∀(rc:Y2→Int→Int→Option Z0) (i:Nat),i<cnt→Inv i→(Inv (i+1)→rc a1 a3 ((i+1:Nat):Int)=res)→wak (weo big rc xj) xj a1 a3 (i:Int)=res)
 (he:∀(rc:Y2→Int→Int→Option Z0),Inv cnt→wak (weo big rc xj) xj a1 a3 (cnt:Int)=res)
 (i0:Nat) (hi:i0≤cnt) (h0:Inv i0):wai big a1 a3 (i0:Int)=res :=
 idxB (fun m i=>Inv i→wrf big xj m a1 a3 (i:Int)=res) (fun _ i hl ih h=>hs _ i hl h ih) (fun _ h=>he _ h) i0 hi hn h0
theorem xjy {rec:Y2→Int→Int→Option Z0}{k:Option Z0}{a1:Y2}{a3:Int}{a5:Int}(cnt:Nat) (Inv:T7){res:Option Z0}(hn:cnt≤500000000000)
 (hs:∀(rc:Y2→Int→Int→Int→Option Z0) (i:Nat),i<cnt→Inv i→(Inv (i+1)→rc a1 a3 a5 ((i+1:Nat):Int)=res)→wer rc (waj rec) a1 a3 a5 (i:Int)=res)
 (he:∀(rc:Y2→Int→Int→Int→Option Z0),Inv cnt→wer rc (waj rec) a1 a3 a5 (cnt:Int)=res)
 (i0:Nat) (hi:i0≤cnt) (h0:Inv i0):weo big rec k a1 a3 a5 (i0:Int)=res :=
 idxB (fun m i=>Inv i→wrg big (waj rec) m a1 a3 a5 (i:Int)=res) (fun _ i hl ih h=>hs _ i hl h ih) (fun _ h=>he _ h) i0 hi hn h0
theorem xmm {a1:Y2}{a2:Y2}(cnt:Nat) (Inv:Nat→Y2→Prop){res:Z2}(hn:cnt≤500000000000)
 (hs:∀(rc:T65) (i:Nat) (a3:Y2),i<cnt→Inv i a3→(∀(a3':Y2),Inv (i+1) a3'→rc a1 a2 a3' ((i+1:Nat):Int)=res)→weu (wif big rc yt) yt a1 a2 a3 (i:Int)=res)
 (he:∀(rc:T65) (a3:Y2),Inv cnt a3→weu (wif big rc yt) yt a1 a2 a3 (cnt:Int)=res)
 (i0:Nat) (hi:i0≤cnt) (a3:Y2) (h0:Inv i0 a3):wvz big a1 a2 a3 (i0:Int)=res :=
 idxB (fun m i=>∀(a3:Y2),Inv i a3→wv0 big yt m a1 a2 a3 (i:Int)=res) (fun _ i hl ih a3 h=>hs _ i a3 hl h ih) (fun _ a3 h=>he _ a3 h) i0 hi hn a3 h0
theorem xmn {rec:T65}{k:T21}{a1:Y2}{a2:Y2}{a3:Y2}{a4:Int}(cnt:Nat) (Inv:T6){res:Z2}(hn:cnt≤500000000000)
 (hs:∀(rc:T69) (i:Nat) (a5:Y4),i<cnt→Inv i a5→(∀(a5':Y4),Inv (i+1) a5'→rc a1 a2 a3 a4 a5' ((i+1:Nat):Int)=res)→wih rc (wet rec) a1 a2 a3 a4 a5 (i:Int)=res)
 (he:∀(rc:T69) (a5:Y4),Inv cnt a5→wih rc (wet rec) a1 a2 a3 a4 a5 (cnt:Int)=res)
 (i0:Nat) (hi:i0≤cnt) (a5:Y4) (h0:Inv i0 a5):wif big rec k a1 a2 a3 a4 a5 (i0:Int)=res :=
 idxB (fun m i=>∀(a5:Y4),Inv i a5→wv1 big (wet rec) m a1 a2 a3 a4 a5 (i:Int)=res) (fun _ i hl ih a5 h=>hs _ i a5 hl h ih) (fun _ a5 h=>he _ a5 h) i0 hi hn a5 h0
theorem xmp {a1:Y4}{a2:Y2}(cnt:Nat) (Inv:T6){res:Z4}(hn:cnt≤500000000000)
 (hs:∀(rc:T66) (i:Nat) (a5:Y4),i<cnt→Inv i a5→(∀(a5':Y4),Inv (i+1) a5'→rc a1 a2 a5' ((i+1:Nat):Int)=res)→wez (wii big rc (yu (xk big))) (yu (xk big)) a1 a2 a5 (i:Int)=res)
 (he:∀(rc:T66) (a5:Y4),Inv cnt a5→wez (wii big rc (yu (xk big))) (yu (xk big)) a1 a2 a5 (cnt:Int)=res)
 (i0:Nat) (hi:i0≤cnt) (a5:Y4) (h0:Inv i0 a5):wv2 big a1 a2 a5 (i0:Int)=res :=
 idxB (fun m i=>∀(a5:Y4),Inv i a5→wv3 big (yu (xk big)) m a1 a2 a5 (i:Int)=res) (fun _ i hl ih a5 h=>hs _ i a5 hl h ih) (fun _ a5 h=>he _ a5 h) i0 hi hn a5 h0
theorem xmq {rec:T66}{k:Y2→Y4→Z4}{a1:Y4}{a2:Y2}{a5:Y4}{a6:Int}(cnt:Nat) (Inv:Nat→Bool→Prop){res:Z4}(hn:cnt≤500000000000)
 (hs:∀(rc:T61) (i:Nat) (a7:Bool),i<cnt→Inv i a7→(∀(a7':Bool),Inv (i+1) a7'→rc a1 a2 a5 a6 a7' ((i+1:Nat):Int)=res)→wik rc (wex rec) a1 a2 a5 a6 a7 (i:Int)=res)
 (he:∀(rc:T61) (a7:Bool),Inv cnt a7→wik rc (wex rec) a1 a2 a5 a6 a7 (cnt:Int)=res)
 (i0:Nat) (hi:i0≤cnt) (a7:Bool) (h0:Inv i0 a7):wii big rec k a1 a2 a5 a6 a7 (i0:Int)=res :=
 idxB (fun m i=>∀(a7:Bool),Inv i a7→wv4 big (wex rec) m a1 a2 a5 a6 a7 (i:Int)=res) (fun _ i hl ih a7 h=>hs _ i a7 hl h ih) (fun _ a7 h=>he _ a7 h) i0 hi hn a7 h0
theorem xj2 {a2:Y2}{a5:Y4}(cnt:Nat) (Inv:T7){res:Z4}(hn:cnt≤500000000000)
 (hs:∀(rc:T114) (i:Nat),i<cnt→Inv i→(Inv (i+1)→rc a2 a5 ((i+1:Nat):Int)=res)→wey rc wal a2 a5 (i:Int)=res)
 (he:∀(rc:T114),Inv cnt→wey rc wal a2 a5 (cnt:Int)=res)
 (i0:Nat) (hi:i0≤cnt) (h0:Inv i0):xk big a2 a5 (i0:Int)=res :=
 idxB (fun m i=>Inv i→wrh big wal m a2 a5 (i:Int)=res) (fun _ i hl ih h=>hs _ i hl h ih) (fun _ h=>he _ h) i0 hi hn h0
theorem xmr {a1:Y2}{a3:Y2}(cnt:Nat) (Inv:T7){res:Option Z0}(hn:cnt≤500000000000)
 (hs:∀(rc:Y2→Y2→Int→Option Z0) (i:Nat),i<cnt→Inv i→(Inv (i+1)→rc a1 a3 ((i+1:Nat):Int)=res)→we2 (wil big rc yv) yv a1 a3 (i:Int)=res)
 (he:∀(rc:Y2→Y2→Int→Option Z0),Inv cnt→we2 (wil big rc yv) yv a1 a3 (cnt:Int)=res)
 (i0:Nat) (hi:i0≤cnt) (h0:Inv i0):wv5 big a1 a3 (i0:Int)=res :=
 idxB (fun m i=>Inv i→wv6 big yv m a1 a3 (i:Int)=res) (fun _ i hl ih h=>hs _ i hl h ih) (fun _ h=>he _ h) i0 hi hn h0
theorem xms {rec:Y2→Y2→Int→Option Z0}{k:Option Z0}{a1:Y2}{a3:Y2}{a4:Int}(cnt:Nat) (Inv:T7){res:Option Z0}(hn:cnt≤500000000000)
 (hs:∀(rc:Y2→Y2→Int→Int→Option Z0) (i:Nat),i<cnt→Inv i→(Inv (i+1)→rc a1 a3 a4 ((i+1:Nat):Int)=res)→wio rc (we1 rec) a1 a3 a4 (i:Int)=res)
 (he:∀(rc:Y2→Y2→Int→Int→Option Z0),Inv cnt→wio rc (we1 rec) a1 a3 a4 (cnt:Int)=res)
 (i0:Nat) (hi:i0≤cnt) (h0:Inv i0):wil big rec k a1 a3 a4 (i0:Int)=res :=
 idxB (fun m i=>Inv i→wv7 big (we1 rec) m a1 a3 a4 (i:Int)=res) (fun _ i hl ih h=>hs _ i hl h ih) (fun _ h=>he _ h) i0 hi hn h0
theorem xmt {a1:Y2}{a4:Int}(cnt:Nat) (Inv:T7){Q:Z5→Prop}(hn:cnt≤500000000000)
 (hs:∀(rc:T37) (i:Nat),i<cnt→Inv i→(Inv (i+1)→Q (rc a1 a4 ((i+1:Nat):Int)))→Q (we6 (wip big rc yw) yw a1 a4 (i:Int)))
 (he:∀(rc:T37),Inv cnt→Q (we6 (wip big rc yw) yw a1 a4 (cnt:Int)))
 (i0:Nat) (hi:i0≤cnt) (h0:Inv i0):Q (wv8 big a1 a4 (i0:Int)) :=
 idxB (fun m i=>Inv i→Q (wv9 big yw m a1 a4 (i:Int))) (fun _ i hl ih h=>hs _ i hl h ih) (fun _ h=>he _ h) i0 hi hn h0
theorem xmu {rec:T37}{k:Z5}{a1:Y2}{a4:Int}{a5:Int}(cnt:Nat) (Inv:T7){Q:Z5→Prop}(hn:cnt≤500000000000)
 (hs:∀(rc:T29) (i:Nat),i<cnt→Inv i→(Inv (i+1)→Q (rc a1 a4 a5 ((i+1:Nat):Int)))→Q (we7 (wiq big rc (yx rec)) (yx rec) a1 a4 a5 (i:Int)))
 (he:∀(rc:T29),Inv cnt→Q (we7 (wiq big rc (yx rec)) (yx rec) a1 a4 a5 (cnt:Int)))
 (i0:Nat) (hi:i0≤cnt) (h0:Inv i0):Q (wip big rec k a1 a4 a5 (i0:Int)) :=
 idxB (fun m i=>Inv i→Q (wwa big (yx rec) m a1 a4 a5 (i:Int))) (fun _ i hl ih h=>hs _ i hl h ih) (fun _ h=>he _ h) i0 hi hn h0
theorem xmv {rec:T29}{k:T37}{a1:Y2}{a4:Int}{a5:Int}{a6:Int}(cnt:Nat) (Inv:T7){Q:Z5→Prop}(hn:cnt≤500000000000)
 (hs:∀(rc:T74) (i:Nat),i<cnt→Inv i→(Inv (i+1)→Q (rc a1 a4 a5 a6 ((i+1:Nat):Int)))→Q (wis rc (we5 rec) a1 a4 a5 a6 (i:Int)))
 (he:∀(rc:T74),Inv cnt→Q (wis rc (we5 rec) a1 a4 a5 a6 (cnt:Int)))
 (i0:Nat) (hi:i0≤cnt) (h0:Inv i0):Q (wiq big rec k a1 a4 a5 a6 (i0:Int)) :=
 idxB (fun m i=>Inv i→Q (wwb big (we5 rec) m a1 a4 a5 a6 (i:Int))) (fun _ i hl ih h=>hs _ i hl h ih) (fun _ h=>he _ h) i0 hi hn h0
theorem xmw {a1:Int}{a2:Int}{a3:Int}{a4:Y2}(cnt:Nat) (Inv:T6){res:Z3}(hn:cnt≤500000000000)
 (hs:∀(rc:T62) (i:Nat) (a9:Y4),i<cnt→Inv i a9→(∀(a9':Y4),Inv (i+1) a9'→rc a1 a2 a3 a4 a9' ((i+1:Nat):Int)=res)→wiu rc we8 a1 a2 a3 a4 a9 (i:Int)=res)
 (he:∀(rc:T62) (a9:Y4),Inv cnt a9→wiu rc we8 a1 a2 a3 a4 a9 (cnt:Int)=res)
 (i0:Nat) (hi:i0≤cnt) (a9:Y4) (h0:Inv i0 a9):wwc big a1 a2 a3 a4 a9 (i0:Int)=res :=
 idxB (fun m i=>∀(a9:Y4),Inv i a9→wwd big we8 m a1 a2 a3 a4 a9 (i:Int)=res) (fun _ i hl ih a9 h=>hs _ i a9 hl h ih) (fun _ a9 h=>he _ a9 h) i0 hi hn a9 h0
theorem xmx {a1:Y2}(cnt:Nat) (Inv:T6){res:Z3}(hn:cnt≤500000000000)
 (hs:∀(rc:T63) (i:Nat) (a3:Y4),i<cnt→Inv i a3→(∀(a3':Y4),Inv (i+1) a3'→rc a1 a3' ((i+1:Nat):Int)=res)→wiw rc we9 a1 a3 (i:Int)=res)
 (he:∀(rc:T63) (a3:Y4),Inv cnt a3→wiw rc we9 a1 a3 (cnt:Int)=res)
 (i0:Nat) (hi:i0≤cnt) (a3:Y4) (h0:Inv i0 a3):wwe big a1 a3 (i0:Int)=res :=
 idxB (fun m i=>∀(a3:Y4),Inv i a3→wwf big we9 m a1 a3 (i:Int)=res) (fun _ i hl ih a3 h=>hs _ i a3 hl h ih) (fun _ a3 h=>he _ a3 h) i0 hi hn a3 h0
theorem xmy {a1:Y2}{a4:Int}(cnt:Nat) (Inv:T6){res:Z3}(hn:cnt≤500000000000)
 (hs:∀(rc:T94) (i:Nat) (a3:Y4),i<cnt→Inv i a3→(∀(a3':Y4),Inv (i+1) a3'→rc a1 a3' a4 ((i+1:Nat):Int)=res)→wiy rc wfa a1 a3 a4 (i:Int)=res)
 (he:∀(rc:T94) (a3:Y4),Inv cnt a3→wiy rc wfa a1 a3 a4 (cnt:Int)=res)
 (i0:Nat) (hi:i0≤cnt) (a3:Y4) (h0:Inv i0 a3):wwg big a1 a3 a4 (i0:Int)=res :=
 idxB (fun m i=>∀(a3:Y4),Inv i a3→wwh big wfa m a1 a3 a4 (i:Int)=res) (fun _ i hl ih a3 h=>hs _ i a3 hl h ih) (fun _ a3 h=>he _ a3 h) i0 hi hn a3 h0
theorem xmz {a1:Y2}{a5:Y4}(cnt:Nat) (Inv:T6){res:Z5}(hn:cnt≤500000000000)
 (hs:∀(rc:T67) (i:Nat) (a4:Y4),i<cnt→Inv i a4→(∀(a4':Y4),Inv (i+1) a4'→rc a1 a4' a5 ((i+1:Nat):Int)=res)→wff (wfc big rc yz) yz a1 a4 a5 (i:Int)=res)
 (he:∀(rc:T67) (a4:Y4),Inv cnt a4→wff (wfc big rc yz) yz a1 a4 a5 (cnt:Int)=res)
 (i0:Nat) (hi:i0≤cnt) (a4:Y4) (h0:Inv i0 a4):wwi big a1 a4 a5 (i0:Int)=res :=
 idxB (fun m i=>∀(a4:Y4),Inv i a4→wwj big yz m a1 a4 a5 (i:Int)=res) (fun _ i hl ih a4 h=>hs _ i a4 hl h ih) (fun _ a4 h=>he _ a4 h) i0 hi hn a4 h0
theorem xkd {rec:T67}{k:Y4→Z5}{a1:Y2}{a4:Y4}{a5:Y4}{a6:Int}(cnt:Nat) (Inv:T88){res:Z5}(hn:cnt≤500000000000)
 (hs:∀(rc:T64) (i:Nat) (a7:Int),i<cnt→Inv i a7→(∀(a7':Int),Inv (i+1) a7'→rc a1 a4 a5 a6 a7' ((i+1:Nat):Int)=res)→wfe rc (wam rec) a1 a4 a5 a6 a7 (i:Int)=res)
 (he:∀(rc:T64) (a7:Int),Inv cnt a7→wfe rc (wam rec) a1 a4 a5 a6 a7 (cnt:Int)=res)
 (i0:Nat) (hi:i0≤cnt) (a7:Int) (h0:Inv i0 a7):wfc big rec k a1 a4 a5 a6 a7 (i0:Int)=res :=
 idxB (fun m i=>∀(a7:Int),Inv i a7→wri big (wam rec) m a1 a4 a5 a6 a7 (i:Int)=res) (fun _ i hl ih a7 h=>hs _ i a7 hl h ih) (fun _ a7 h=>he _ a7 h) i0 hi hn a7 h0
theorem xm0 {a0:Y4}{a1:Y4}(cnt:Nat) (Inv:T7){res:Option Z0}(hn:cnt≤500000000000)
 (hs:∀(rc:Y4→Y4→Int→Option Z0) (i:Nat),i<cnt→Inv i→(Inv (i+1)→rc a0 a1 ((i+1:Nat):Int)=res)→wi0 rc wfg a0 a1 (i:Int)=res)
 (he:∀(rc:Y4→Y4→Int→Option Z0),Inv cnt→wi0 rc wfg a0 a1 (cnt:Int)=res)
 (i0:Nat) (hi:i0≤cnt) (h0:Inv i0):wwk big a0 a1 (i0:Int)=res :=
 idxB (fun m i=>Inv i→wwl big wfg m a0 a1 (i:Int)=res) (fun _ i hl ih h=>hs _ i hl h ih) (fun _ h=>he _ h) i0 hi hn h0
theorem xm1 {a0:Y1}{a10:Int}(cnt:Nat) (Inv:T6){res:Z3}(hn:cnt≤500000000000)
 (hs:∀(rc:T95) (i:Nat) (a3:Y4),i<cnt→Inv i a3→(∀(a3':Y4),Inv (i+1) a3'→rc a0 a3' a10 ((i+1:Nat):Int)=res)→wi2 rc wfh a0 a3 a10 (i:Int)=res)
 (he:∀(rc:T95) (a3:Y4),Inv cnt a3→wi2 rc wfh a0 a3 a10 (cnt:Int)=res)
 (i0:Nat) (hi:i0≤cnt) (a3:Y4) (h0:Inv i0 a3):wwm big a0 a3 a10 (i0:Int)=res :=
 idxB (fun m i=>∀(a3:Y4),Inv i a3→wwn big wfh m a0 a3 a10 (i:Int)=res) (fun _ i hl ih a3 h=>hs _ i a3 hl h ih) (fun _ a3 h=>he _ a3 h) i0 hi hn a3 h0
theorem xm2 {a1:Y2}(cnt:Nat) (Inv:T6){res:Z3}(hn:cnt≤500000000000)
 (hs:∀(rc:T63) (i:Nat) (a3:Y4),i<cnt→Inv i a3→(∀(a3':Y4),Inv (i+1) a3'→rc a1 a3' ((i+1:Nat):Int)=res)→wi4 rc wfi a1 a3 (i:Int)=res)
 (he:∀(rc:T63) (a3:Y4),Inv cnt a3→wi4 rc wfi a1 a3 (cnt:Int)=res)
 (i0:Nat) (hi:i0≤cnt) (a3:Y4) (h0:Inv i0 a3):wwo big a1 a3 (i0:Int)=res :=
 idxB (fun m i=>∀(a3:Y4),Inv i a3→wwp big wfi m a1 a3 (i:Int)=res) (fun _ i hl ih a3 h=>hs _ i a3 hl h ih) (fun _ a3 h=>he _ a3 h) i0 hi hn a3 h0
theorem xm3 {a0:Y1}{a3:Y4}{a15:Int}(cnt:Nat) (Inv:Nat→Y3→Prop){res:Option Y2}(hn:cnt≤500000000000)
 (hs:∀(rc:Y1→Y4→Y3→Int→Int→Option Y2) (i:Nat) (a4:Y3),i<cnt→Inv i a4→(∀(a4':Y3),Inv (i+1) a4'→rc a0 a3 a4' a15 ((i+1:Nat):Int)=res)→wfl (wi5 big rc y5) y5 a0 a3 a4 a15 (i:Int)=res)
 (he:∀(rc:Y1→Y4→Y3→Int→Int→Option Y2) (a4:Y3),Inv cnt a4→wfl (wi5 big rc y5) y5 a0 a3 a4 a15 (cnt:Int)=res)
 (i0:Nat) (hi:i0≤cnt) (a4:Y3) (h0:Inv i0 a4):wwq big a0 a3 a4 a15 (i0:Int)=res :=
 idxB (fun m i=>∀(a4:Y3),Inv i a4→wwr big y5 m a0 a3 a4 a15 (i:Int)=res) (fun _ i hl ih a4 h=>hs _ i a4 hl h ih) (fun _ a4 h=>he _ a4 h) i0 hi hn a4 h0
theorem xm4 {rec:Y1→Y4→Y3→Int→Int→Option Y2}{k:Y3→Option Y2}{a0:Y1}{a3:Y4}{a4:Y3}{a5:Int}{a15:Int}{a16:Int}{a24:Int}(cnt:Nat) (Inv:T6){res:Option Y2}(hn:cnt≤500000000000)
 (hs:∀(rc:Y1→Y4→Y3→Int→Y4→Int→Int→Int→Int→Option Y2) (i:Nat) (a6:Y4),i<cnt→Inv i a6→(∀(a6':Y4),Inv (i+1) a6'→rc a0 a3 a4 a5 a6' a15 a16 a24 ((i+1:Nat):Int)=res)→wi7 rc (wfk rec) a0 a3 a4 a5 a6 a15 a16 a24 (i:Int)=res)
 (he:∀(rc:Y1→Y4→Y3→Int→Y4→Int→Int→Int→Int→Option Y2) (a6:Y4),Inv cnt a6→wi7 rc (wfk rec) a0 a3 a4 a5 a6 a15 a16 a24 (cnt:Int)=res)
 (i0:Nat) (hi:i0≤cnt) (a6:Y4) (h0:Inv i0 a6):wi5 big rec k a0 a3 a4 a5 a6 a15 a16 a24 (i0:Int)=res :=
 idxB (fun m i=>∀(a6:Y4),Inv i a6→wws big (wfk rec) m a0 a3 a4 a5 a6 a15 a16 a24 (i:Int)=res) (fun _ i hl ih a6 h=>hs _ i a6 hl h ih) (fun _ a6 h=>he _ a6 h) i0 hi hn a6 h0
theorem xm5 {a2:Y6}{a7:Y3}{a8:Int}(cnt:Nat) (Inv:Nat→Y6→Prop){res:Z17}(hn:cnt≤500000000000)
 (hs:∀(rc:T78) (i:Nat) (a3:Y6),i<cnt→Inv i a3→(∀(a3':Y6),Inv (i+1) a3'→rc a2 a3' a7 a8 ((i+1:Nat):Int)=res)→wi9 rc wfm a2 a3 a7 a8 (i:Int)=res)
 (he:∀(rc:T78) (a3:Y6),Inv cnt a3→wi9 rc wfm a2 a3 a7 a8 (cnt:Int)=res)
 (i0:Nat) (hi:i0≤cnt) (a3:Y6) (h0:Inv i0 a3):wwt big a2 a3 a7 a8 (i0:Int)=res :=
 idxB (fun m i=>∀(a3:Y6),Inv i a3→wwu big wfm m a2 a3 a7 a8 (i:Int)=res) (fun _ i hl ih a3 h=>hs _ i a3 hl h ih) (fun _ a3 h=>he _ a3 h) i0 hi hn a3 h0
theorem xm7 {a1:Y2}{a2:Y7}{a3:Int}{a4:Y4}(cnt:Nat) (Inv:T108){res:Z11}(hn:cnt≤500000000000)
 (hs:∀(rc:T3) (i:Nat) (a5 a6:Y6),i<cnt→Inv i a5 a6→(∀(a5':Y6) (a6':Y6),Inv (i+1) a5' a6'→rc a1 a2 a3 a4 a5' a6' ((i+1:Nat):Int)=res)→wfp (wja big rc y6) y6 a1 a2 a3 a4 a5 a6 (i:Int)=res)
 (he:∀(rc:T3) (a5 a6:Y6),Inv cnt a5 a6→wfp (wja big rc y6) y6 a1 a2 a3 a4 a5 a6 (cnt:Int)=res)
 (i0:Nat) (hi:i0≤cnt) (a5 a6:Y6) (h0:Inv i0 a5 a6):wwv big a1 a2 a3 a4 a5 a6 (i0:Int)=res :=
 idxB (fun m i=>∀(a5 a6:Y6),Inv i a5 a6→www big y6 m a1 a2 a3 a4 a5 a6 (i:Int)=res) (fun _ i hl ih a5 a6 h=>hs _ i a5 a6 hl h ih) (fun _ a5 a6 h=>he _ a5 a6 h) i0 hi hn a5 a6 h0
theorem xm8 {rec:T3}{k:T34}{a1:Y2}{a2:Y7}{a3:Int}{a4:Y4}{a7:Int}(cnt:Nat) (Inv:T108){res:Z11}(hn:cnt≤500000000000)
 (hs:∀(rc:T38) (i:Nat) (a5 a6:Y6),i<cnt→Inv i a5 a6→(∀(a5':Y6) (a6':Y6),Inv (i+1) a5' a6'→rc a1 a2 a3 a4 a5' a6' a7 ((i+1:Nat):Int)=res)→wjc rc (wfo rec) a1 a2 a3 a4 a5 a6 a7 (i:Int)=res)
 (he:∀(rc:T38) (a5 a6:Y6),Inv cnt a5 a6→wjc rc (wfo rec) a1 a2 a3 a4 a5 a6 a7 (cnt:Int)=res)
 (i0:Nat) (hi:i0≤cnt) (a5 a6:Y6) (h0:Inv i0 a5 a6):wja big rec k a1 a2 a3 a4 a5 a6 a7 (i0:Int)=res :=
 idxB (fun m i=>∀(a5 a6:Y6),Inv i a5 a6→wwx big (wfo rec) m a1 a2 a3 a4 a5 a6 a7 (i:Int)=res) (fun _ i hl ih a5 a6 h=>hs _ i a5 a6 hl h ih) (fun _ a5 a6 h=>he _ a5 a6 h) i0 hi hn a5 a6 h0
theorem xm9 {a2:Y7}{a3:Y7}(cnt:Nat) (Inv:T7){res:Option Z0}(hn:cnt≤500000000000)
 (hs:∀(rc:Y7→Y7→Int→Option Z0) (i:Nat),i<cnt→Inv i→(Inv (i+1)→rc a2 a3 ((i+1:Nat):Int)=res)→wjf rc wje a2 a3 (i:Int)=res)
 (he:∀(rc:Y7→Y7→Int→Option Z0),Inv cnt→wjf rc wje a2 a3 (cnt:Int)=res)
 (i0:Nat) (hi:i0≤cnt) (h0:Inv i0):wwy big a2 a3 (i0:Int)=res :=
 idxB (fun m i=>Inv i→wwz big wje m a2 a3 (i:Int)=res) (fun _ i hl ih h=>hs _ i hl h ih) (fun _ h=>he _ h) i0 hi hn h0
theorem xna {a1:Y2}{a2:Y7}{a3:Int}{a4:Y2}(cnt:Nat) (Inv:T108){res:Z11}(hn:cnt≤500000000000)
 (hs:∀(rc:T4) (i:Nat) (a5 a6:Y6),i<cnt→Inv i a5 a6→(∀(a5':Y6) (a6':Y6),Inv (i+1) a5' a6'→rc a1 a2 a3 a4 a5' a6' ((i+1:Nat):Int)=res)→wfs (wjg big rc y7) y7 a1 a2 a3 a4 a5 a6 (i:Int)=res)
 (he:∀(rc:T4) (a5 a6:Y6),Inv cnt a5 a6→wfs (wjg big rc y7) y7 a1 a2 a3 a4 a5 a6 (cnt:Int)=res)
 (i0:Nat) (hi:i0≤cnt) (a5 a6:Y6) (h0:Inv i0 a5 a6):ww0 big a1 a2 a3 a4 a5 a6 (i0:Int)=res :=
 idxB (fun m i=>∀(a5 a6:Y6),Inv i a5 a6→ww1 big y7 m a1 a2 a3 a4 a5 a6 (i:Int)=res) (fun _ i hl ih a5 a6 h=>hs _ i a5 a6 hl h ih) (fun _ a5 a6 h=>he _ a5 a6 h) i0 hi hn a5 a6 h0
theorem xnb {rec:T4}{k:T34}{a1:Y2}{a2:Y7}{a3:Int}{a4:Y2}{a7:Int}(cnt:Nat) (Inv:T108){res:Z11}(hn:cnt≤500000000000)
 (hs:∀(rc:T39) (i:Nat) (a5 a6:Y6),i<cnt→Inv i a5 a6→(∀(a5':Y6) (a6':Y6),Inv (i+1) a5' a6'→rc a1 a2 a3 a4 a5' a6' a7 ((i+1:Nat):Int)=res)→wji rc (wfr rec) a1 a2 a3 a4 a5 a6 a7 (i:Int)=res)
 (he:∀(rc:T39) (a5 a6:Y6),Inv cnt a5 a6→wji rc (wfr rec) a1 a2 a3 a4 a5 a6 a7 (cnt:Int)=res)
 (i0:Nat) (hi:i0≤cnt) (a5 a6:Y6) (h0:Inv i0 a5 a6):wjg big rec k a1 a2 a3 a4 a5 a6 a7 (i0:Int)=res :=
 idxB (fun m i=>∀(a5 a6:Y6),Inv i a5 a6→ww2 big (wfr rec) m a1 a2 a3 a4 a5 a6 a7 (i:Int)=res) (fun _ i hl ih a5 a6 h=>hs _ i a5 a6 hl h ih) (fun _ a5 a6 h=>he _ a5 a6 h) i0 hi hn a5 a6 h0
theorem xnd {a0:Y5}{a2:Y2}{a10:Int}(cnt:Nat) (Inv:Nat→Y2→Prop){res:Z2}(hn:cnt≤500000000000)
 (hs:∀(rc:T45) (i:Nat) (a3:Y2),i<cnt→Inv i a3→(∀(a3':Y2),Inv (i+1) a3'→rc a0 a2 a3' a10 ((i+1:Nat):Int)=res)→wfv (wjj big rc y8) y8 a0 a2 a3 a10 (i:Int)=res)
 (he:∀(rc:T45) (a3:Y2),Inv cnt a3→wfv (wjj big rc y8) y8 a0 a2 a3 a10 (cnt:Int)=res)
 (i0:Nat) (hi:i0≤cnt) (a3:Y2) (h0:Inv i0 a3):ww3 big a0 a2 a3 a10 (i0:Int)=res :=
 idxB (fun m i=>∀(a3:Y2),Inv i a3→ww4 big y8 m a0 a2 a3 a10 (i:Int)=res) (fun _ i hl ih a3 h=>hs _ i a3 hl h ih) (fun _ a3 h=>he _ a3 h) i0 hi hn a3 h0
theorem xne {rec:T45}{k:T21}{a0:Y5}{a2:Y2}{a3:Y2}{a4:Int}{a10:Int}{a11:Int}{a16:Int}(cnt:Nat) (Inv:T6){res:Z2}(hn:cnt≤500000000000)
 (hs:∀(rc:T25) (i:Nat) (a5:Y4),i<cnt→Inv i a5→(∀(a5':Y4),Inv (i+1) a5'→rc a0 a2 a3 a4 a5' a10 a11 a16 ((i+1:Nat):Int)=res)→wjl rc (wfu rec) a0 a2 a3 a4 a5 a10 a11 a16 (i:Int)=res)
 (he:∀(rc:T25) (a5:Y4),Inv cnt a5→wjl rc (wfu rec) a0 a2 a3 a4 a5 a10 a11 a16 (cnt:Int)=res)
 (i0:Nat) (hi:i0≤cnt) (a5:Y4) (h0:Inv i0 a5):wjj big rec k a0 a2 a3 a4 a5 a10 a11 a16 (i0:Int)=res :=
 idxB (fun m i=>∀(a5:Y4),Inv i a5→ww5 big (wfu rec) m a0 a2 a3 a4 a5 a10 a11 a16 (i:Int)=res) (fun _ i hl ih a5 h=>hs _ i a5 hl h ih) (fun _ a5 h=>he _ a5 h) i0 hi hn a5 h0
theorem xng {a0:Y1}{a1:Y1}{a2:Y4}{a47:Int}(cnt:Nat) (Inv:T7){res:Option Z0}(hn:cnt≤500000000000)
 (hs:∀(rc:Y1→Y1→Y4→Int→Int→Option Z0) (i:Nat),i<cnt→Inv i→(Inv (i+1)→rc a0 a1 a2 a47 ((i+1:Nat):Int)=res)→wfz (wjn big rc y9) y9 a0 a1 a2 a47 (i:Int)=res)
 (he:∀(rc:Y1→Y1→Y4→Int→Int→Option Z0),Inv cnt→wfz (wjn big rc y9) y9 a0 a1 a2 a47 (cnt:Int)=res)
 (i0:Nat) (hi:i0≤cnt) (h0:Inv i0):ww6 big a0 a1 a2 a47 (i0:Int)=res :=
 idxB (fun m i=>Inv i→ww7 big y9 m a0 a1 a2 a47 (i:Int)=res) (fun _ i hl ih h=>hs _ i hl h ih) (fun _ h=>he _ h) i0 hi hn h0
theorem xnh {rec:Y1→Y1→Y4→Int→Int→Option Z0}{k:Option Z0}{a0:Y1}{a1:Y1}{a2:Y4}{a7:Int}{a47:Int}{a48:Int}{a52:Int}(cnt:Nat) (Inv:T7){res:Option Z0}(hn:cnt≤500000000000)
 (hs:∀(rc:Y1→Y1→Y4→Int→Int→Int→Int→Int→Option Z0) (i:Nat),i<cnt→Inv i→(Inv (i+1)→rc a0 a1 a2 a7 a47 a48 a52 ((i+1:Nat):Int)=res)→wjp rc (wfy rec) a0 a1 a2 a7 a47 a48 a52 (i:Int)=res)
 (he:∀(rc:Y1→Y1→Y4→Int→Int→Int→Int→Int→Option Z0),Inv cnt→wjp rc (wfy rec) a0 a1 a2 a7 a47 a48 a52 (cnt:Int)=res)
 (i0:Nat) (hi:i0≤cnt) (h0:Inv i0):wjn big rec k a0 a1 a2 a7 a47 a48 a52 (i0:Int)=res :=
 idxB (fun m i=>Inv i→ww8 big (wfy rec) m a0 a1 a2 a7 a47 a48 a52 (i:Int)=res) (fun _ i hl ih h=>hs _ i hl h ih) (fun _ h=>he _ h) i0 hi hn h0
theorem xni {a0:Int}(mu:Int→Int→Nat) (Inv:Int→Int→Prop){res:Z4}
 (hs:∀(rc:T81) (a1 a5:Int),Inv a1 a5→(∀(a1':Int) (a5':Int),Inv a1' a5'→mu a1' a5'<mu a1 a5→rc a0 a1' a5'=res)→wxa rc wjr a0 a1 a5=res)
 (a1 a5:Int) (hm:mu a1 a5≤500000000000) (h0:Inv a1 a5):ww9 big a0 a1 a5=res :=
 muR (fun m=>∀(a1 a5:Int),mu a1 a5<m→Inv a1 a5→wxb big wjr m a0 a1 a5=res) (fun a1 a5 h2 _=>absurd h2 (Nat.not_lt_zero _)) (fun _ ih a1 a5 h2 h3=>hs _ a1 a5 h3 fun a1' a5' h4 h5=>ih a1' a5' (by omega) h4) big a1 a5 (by have:=jq;omega) h0
theorem xh4 {a1:Y7}{a20:(List Y6)}{a21:Int}(cnt:Nat) (Inv:T7){res:Option Z0}(hn:cnt≤500000000000)
 (hs:∀(rc:Y7→(List Y6)→Int→Int→Option Z0) (i:Nat),i<cnt→Inv i→(Inv (i+1)→rc a1 a20 a21 ((i+1:Nat):Int)=res)→wb8 rc zo a1 a20 a21 (i:Int)=res)
 (he:∀(rc:Y7→(List Y6)→Int→Int→Option Z0),Inv cnt→wb8 rc zo a1 a20 a21 (cnt:Int)=res)
 (i0:Nat) (hi:i0≤cnt) (h0:Inv i0):wqa big a1 a20 a21 (i0:Int)=res :=
 idxB (fun m i=>Inv i→wqb big zo m a1 a20 a21 (i:Int)=res) (fun _ i hl ih h=>hs _ i hl h ih) (fun _ h=>he _ h) i0 hi hn h0
theorem xh5 {a8:(List Y6)}{a9:Int}(cnt:Nat) (Inv:T6){res:Z3}(hn:cnt≤500000000000)
 (hs:∀(rc:T82) (i:Nat) (a3:Y4),i<cnt→Inv i a3→(∀(a3':Y4),Inv (i+1) a3'→rc a3' a8 a9 ((i+1:Nat):Int)=res)→wca rc zp a3 a8 a9 (i:Int)=res)
 (he:∀(rc:T82) (a3:Y4),Inv cnt a3→wca rc zp a3 a8 a9 (cnt:Int)=res)
 (i0:Nat) (hi:i0≤cnt) (a3:Y4) (h0:Inv i0 a3):wqc big a3 a8 a9 (i0:Int)=res :=
 idxB (fun m i=>∀(a3:Y4),Inv i a3→wqd big zp m a3 a8 a9 (i:Int)=res) (fun _ i hl ih a3 h=>hs _ i a3 hl h ih) (fun _ a3 h=>he _ a3 h) i0 hi hn a3 h0
theorem xh6 {a1:Y4}{a12:Y4}{a13:Int}(cnt:Nat) (Inv:T7){res:Option Z0}(hn:cnt≤500000000000)
 (hs:∀(rc:Y4→Y4→Int→Int→Option Z0) (i:Nat),i<cnt→Inv i→(Inv (i+1)→rc a1 a12 a13 ((i+1:Nat):Int)=res)→wcc rc zq a1 a12 a13 (i:Int)=res)
 (he:∀(rc:Y4→Y4→Int→Int→Option Z0),Inv cnt→wcc rc zq a1 a12 a13 (cnt:Int)=res)
 (i0:Nat) (hi:i0≤cnt) (h0:Inv i0):wqe big a1 a12 a13 (i0:Int)=res :=
 idxB (fun m i=>Inv i→wqf big zq m a1 a12 a13 (i:Int)=res) (fun _ i hl ih h=>hs _ i hl h ih) (fun _ h=>he _ h) i0 hi hn h0
theorem xh7 {a0:Int}{a1:Y4}{a11:Int}(cnt:Nat) (Inv:T47){res:Z9}(hn:cnt≤500000000000)
 (hs:∀(rc:T16) (i:Nat) (a5:Y5),i<cnt→Inv i a5→(∀(a5':Y5),Inv (i+1) a5'→rc a0 a1 a5' a11 ((i+1:Nat):Int)=res)→zu (wcd big rc xe) xe a0 a1 a5 a11 (i:Int)=res)
 (he:∀(rc:T16) (a5:Y5),Inv cnt a5→zu (wcd big rc xe) xe a0 a1 a5 a11 (cnt:Int)=res)
 (i0:Nat) (hi:i0≤cnt) (a5:Y5) (h0:Inv i0 a5):wqg big a0 a1 a5 a11 (i0:Int)=res :=
 idxB (fun m i=>∀(a5:Y5),Inv i a5→wqh big xe m a0 a1 a5 a11 (i:Int)=res) (fun _ i hl ih a5 h=>hs _ i a5 hl h ih) (fun _ a5 h=>he _ a5 h) i0 hi hn a5 h0
theorem xh8 {rec:T16}{k:Y5→Z9}{a0:Int}{a1:Y4}{a6:Int}{a11:Int}{a12:Int}{a16:Int}(cnt:Nat) (Inv:T47){res:Z9}(hn:cnt≤500000000000)
 (hs:∀(rc:T35) (i:Nat) (a5:Y5),i<cnt→Inv i a5→(∀(a5':Y5),Inv (i+1) a5'→rc a0 a1 a5' a6 a11 a12 a16 ((i+1:Nat):Int)=res)→wcf rc (zt rec) a0 a1 a5 a6 a11 a12 a16 (i:Int)=res)
 (he:∀(rc:T35) (a5:Y5),Inv cnt a5→wcf rc (zt rec) a0 a1 a5 a6 a11 a12 a16 (cnt:Int)=res)
 (i0:Nat) (hi:i0≤cnt) (a5:Y5) (h0:Inv i0 a5):wcd big rec k a0 a1 a5 a6 a11 a12 a16 (i0:Int)=res :=
 idxB (fun m i=>∀(a5:Y5),Inv i a5→wqi big (zt rec) m a0 a1 a5 a6 a11 a12 a16 (i:Int)=res) (fun _ i hl ih a5 h=>hs _ i a5 hl h ih) (fun _ a5 h=>he _ a5 h) i0 hi hn a5 h0
theorem xh9 {a3:Y7}{a22:(List Y6)}{a23:Int}(cnt:Nat) (Inv:T7){res:Option Z0}(hn:cnt≤500000000000)
 (hs:∀(rc:Y7→(List Y6)→Int→Int→Option Z0) (i:Nat),i<cnt→Inv i→(Inv (i+1)→rc a3 a22 a23 ((i+1:Nat):Int)=res)→wch rc zv a3 a22 a23 (i:Int)=res)
 (he:∀(rc:Y7→(List Y6)→Int→Int→Option Z0),Inv cnt→wch rc zv a3 a22 a23 (cnt:Int)=res)
 (i0:Nat) (hi:i0≤cnt) (h0:Inv i0):wqj big a3 a22 a23 (i0:Int)=res :=
 idxB (fun m i=>Inv i→wqk big zv m a3 a22 a23 (i:Int)=res) (fun _ i hl ih h=>hs _ i hl h ih) (fun _ h=>he _ h) i0 hi hn h0
theorem xia {a0:Y3}{a1:Y3}(cnt:Nat) (Inv:T7){res:Option Z0}(hn:cnt≤500000000000)
 (hs:∀(rc:Y3→Y3→Int→Option Z0) (i:Nat),i<cnt→Inv i→(Inv (i+1)→rc a0 a1 ((i+1:Nat):Int)=res)→wcj rc zw a0 a1 (i:Int)=res)
 (he:∀(rc:Y3→Y3→Int→Option Z0),Inv cnt→wcj rc zw a0 a1 (cnt:Int)=res)
 (i0:Nat) (hi:i0≤cnt) (h0:Inv i0):wql big a0 a1 (i0:Int)=res :=
 idxB (fun m i=>Inv i→wqm big zw m a0 a1 (i:Int)=res) (fun _ i hl ih h=>hs _ i hl h ih) (fun _ h=>he _ h) i0 hi hn h0
theorem wqo {a1:Y4}{a3:Y7}(cnt:Nat) (Inv:T88){res:Z4}(hn:cnt≤500000000000)
 (hs:∀(rc:T96) (i:Nat) (a7:Int),i<cnt→Inv i a7→(∀(a7':Int),Inv (i+1) a7'→rc a1 ((i+1:Nat):Int) a3 a7'=res)→w6 rc xy a1 (i:Int) a3 a7=res)
 (he:∀(rc:T96) (a7:Int),Inv cnt a7→w6 rc xy a1 (cnt:Int) a3 a7=res)
 (i0:Nat) (hi:i0≤cnt) (a7:Int) (h0:Inv i0 a7):wqn big a1 (i0:Int) a3 a7=res :=
 idxB (fun m i=>∀(a7:Int),Inv i a7→wqp big xy m a1 (i:Int) a3 a7=res) (fun _ i hl ih a7 h=>hs _ i a7 hl h ih) (fun _ a7 h=>he _ a7 h) i0 hi hn a7 h0
theorem wqs {a1:Y4}{a2:Y4}{a3:Y7}(mu:Y4→Int→Nat) (Inv:Y4→Int→Prop){res:Z4}
 (hs:∀(rc:T46) (a7:Y4) (a8:Int),Inv a7 a8→(∀(a7':Y4) (a8':Int),Inv a7' a8'→mu a7' a8'<mu a7 a8→rc a1 a2 a3 a7' a8'=res)→w7 rc (x6 big rc x7) x7 a1 a2 a3 a7 a8=res)
 (a7:Y4) (a8:Int) (hm:mu a7 a8≤500000000000) (h0:Inv a7 a8):wqq big a1 a2 a3 a7 a8=res :=
 muR (fun m=>∀(a7:Y4) (a8:Int),mu a7 a8<m→Inv a7 a8→wqr big x7 m a1 a2 a3 a7 a8=res) (fun a7 a8 h2 _=>absurd h2 (Nat.not_lt_zero _)) (fun _ ih a7 a8 h2 h3=>hs _ a7 a8 h3 fun a7' a8' h4 h5=>ih a7' a8' (by omega) h4) big a7 a8 (by have:=jq;omega) h0
theorem wtf {rec:T46}{k:Y4→Z4}{a1:Y4}{a2:Y4}{a3:Y7}{a7:Y4}{a8:Int}{a10:Y6}(cnt:Nat) (Inv:T88){res:Z4}(hn:cnt≤500000000000)
 (hs:∀(rc:T41) (i:Nat) (a11:Int),i<cnt→Inv i a11→(∀(a11':Int),Inv (i+1) a11'→rc a1 a2 a3 a7 a8 a10 a11' ((i+1:Nat):Int)=res)→ww rc (xc rec) a1 a2 a3 a7 a8 a10 a11 (i:Int)=res)
 (he:∀(rc:T41) (a11:Int),Inv cnt a11→ww rc (xc rec) a1 a2 a3 a7 a8 a10 a11 (cnt:Int)=res)
 (i0:Nat) (hi:i0≤cnt) (a11:Int) (h0:Inv i0 a11):x6 big rec k a1 a2 a3 a7 a8 a10 a11 (i0:Int)=res :=
 idxB (fun m i=>∀(a11:Int),Inv i a11→wl0 big (xc rec) m a1 a2 a3 a7 a8 a10 a11 (i:Int)=res) (fun _ i hl ih a11 h=>hs _ i a11 hl h ih) (fun _ a11 h=>he _ a11 h) i0 hi hn a11 h0
theorem wz0 {a2:Y7}{a3:Z20}{a6:Y4}{a7:Int}(cnt:Nat) (Inv:T6){res:Z12}(hn:cnt≤500000000000)
 (hs:∀(rc:T9) (i:Nat) (a8:Y4),i<cnt→Inv i a8→(∀(a8':Y4),Inv (i+1) a8'→rc a2 a3 a6 a7 a8' ((i+1:Nat):Int)=res)→xg (war big rc w8) w8 a2 a3 a6 a7 a8 (i:Int)=res)
 (he:∀(rc:T9) (a8:Y4),Inv cnt a8→xg (war big rc w8) w8 a2 a3 a6 a7 a8 (cnt:Int)=res)
 (i0:Nat) (hi:i0≤cnt) (a8:Y4) (h0:Inv i0 a8):wqt big a2 a3 a6 a7 a8 (i0:Int)=res :=
 idxB (fun m i=>∀(a8:Y4),Inv i a8→wqu big w8 m a2 a3 a6 a7 a8 (i:Int)=res) (fun _ i hl ih a8 h=>hs _ i a8 hl h ih) (fun _ a8 h=>he _ a8 h) i0 hi hn a8 h0
theorem wtj {rec:T9}{k:Z12}{a2:Y7}{a3:Z20}{a6:Y4}{a7:Int}{a9:Int}{a47:Y4}{a48:Int}(cnt:Nat) (Inv:T6){res:Z12}(hn:cnt≤500000000000)
 (hs:∀(rc:T24) (i:Nat) (a8:Y4),i<cnt→Inv i a8→(∀(a8':Y4),Inv (i+1) a8'→rc a2 a3 a6 a7 a8' a9 a47 a48 ((i+1:Nat):Int)=res)→wy rc (xd rec) a2 a3 a6 a7 a8 a9 a47 a48 (i:Int)=res)
 (he:∀(rc:T24) (a8:Y4),Inv cnt a8→wy rc (xd rec) a2 a3 a6 a7 a8 a9 a47 a48 (cnt:Int)=res)
 (i0:Nat) (hi:i0≤cnt) (a8:Y4) (h0:Inv i0 a8):war big rec k a2 a3 a6 a7 a8 a9 a47 a48 (i0:Int)=res :=
 idxB (fun m i=>∀(a8:Y4),Inv i a8→wl1 big (xd rec) m a2 a3 a6 a7 a8 a9 a47 a48 (i:Int)=res) (fun _ i hl ih a8 h=>hs _ i a8 hl h ih) (fun _ a8 h=>he _ a8 h) i0 hi hn a8 h0
theorem xil {a2:Y7}{a4:Int}(mu:Z13→Y7→Int→Nat) (Inv:Z13→Y7→Int→Prop){Q:Z8→Prop}
 (hs:∀(rc:T53) (a0:Z13) (a5:Y7) (a6:Int),Inv a0 a5 a6→(∀(a0':Z13) (a5':Y7) (a6':Int),Inv a0' a5' a6'→mu a0' a5' a6'<mu a0 a5 a6→Q (rc a0' a2 a4 a5' a6'))→Q (wkw (wau big rc (xi (wz big))) (xi (wz big)) a0 a2 a4 a5 a6))
 (a0:Z13) (a5:Y7) (a6:Int) (hm:mu a0 a5 a6≤500000000000) (h0:Inv a0 a5 a6):Q (wqy big a0 a2 a4 a5 a6) :=
 muR (fun m=>∀(a0:Z13) (a5:Y7) (a6:Int),mu a0 a5 a6<m→Inv a0 a5 a6→Q (wqz big (xi (wz big)) m a0 a2 a4 a5 a6)) (fun a0 a5 a6 h2 _=>absurd h2 (Nat.not_lt_zero _)) (fun _ ih a0 a5 a6 h2 h3=>hs _ a0 a5 a6 h3 fun a0' a5' a6' h4 h5=>ih a0' a5' a6' (by omega) h4) big a0 a5 a6 (by have:=jq;omega) h0
theorem xfe {rec:T53}{k:T49}{a2:Y7}{a4:Int}{a5:Y7}{a6:Int}(mu:Z13→Y6→Int→Nat) (Inv:Z13→Y6→Int→Prop){Q:Z8→Prop}
 (hs:∀(rc:T73) (a0:Z13) (a7:Y6) (a8:Int),Inv a0 a7 a8→(∀(a0':Z13) (a7':Y6) (a8':Int),Inv a0' a7' a8'→mu a0' a7' a8'<mu a0 a7 a8→Q (rc a0' a2 a4 a5 a6 a7' a8'))→Q (wl2 rc (wax rec) a0 a2 a4 a5 a6 a7 a8))
 (a0:Z13) (a7:Y6) (a8:Int) (hm:mu a0 a7 a8≤500000000000) (h0:Inv a0 a7 a8):Q (wau big rec k a0 a2 a4 a5 a6 a7 a8) :=
 muR (fun m=>∀(a0:Z13) (a7:Y6) (a8:Int),mu a0 a7 a8<m→Inv a0 a7 a8→Q (wl4 big (wax rec) m a0 a2 a4 a5 a6 a7 a8)) (fun a0 a7 a8 h2 _=>absurd h2 (Nat.not_lt_zero _)) (fun _ ih a0 a7 a8 h2 h3=>hs _ a0 a7 a8 h3 fun a0' a7' a8' h4 h5=>ih a0' a7' a8' (by omega) h4) big a0 a7 a8 (by have:=jq;omega) h0
theorem xff {a2:Y7}{a4:Int}(mu:Z13→Y7→Nat) (Inv:Z13→Y7→Prop){Q:Z8→Prop}
 (hs:∀(rc:T49) (a0:Z13) (a5:Y7),Inv a0 a5→(∀(a0':Z13) (a5':Y7),Inv a0' a5'→mu a0' a5'<mu a0 a5→Q (rc a0' a2 a4 a5'))→Q (wl3 rc wgm a0 a2 a4 a5))
 (a0:Z13) (a5:Y7) (hm:mu a0 a5≤500000000000) (h0:Inv a0 a5):Q (wz big a0 a2 a4 a5) :=
 muR (fun m=>∀(a0:Z13) (a5:Y7),mu a0 a5<m→Inv a0 a5→Q (wl5 big wgm m a0 a2 a4 a5)) (fun a0 a5 h2 _=>absurd h2 (Nat.not_lt_zero _)) (fun _ ih a0 a5 h2 h3=>hs _ a0 a5 h3 fun a0' a5' h4 h5=>ih a0' a5' (by omega) h4) big a0 a5 (by have:=jq;omega) h0
theorem xim {a0:Int}{a3:Y6}(cnt:Nat) (Inv:T7){res:Option Z0}(hn:cnt≤500000000000)
 (hs:∀(rc:Int→Y6→Int→Option Z0) (i:Nat),i<cnt→Inv i→(Inv (i+1)→rc a0 a3 ((i+1:Nat):Int)=res)→wcy rc z4 a0 a3 (i:Int)=res)
 (he:∀(rc:Int→Y6→Int→Option Z0),Inv cnt→wcy rc z4 a0 a3 (cnt:Int)=res)
 (i0:Nat) (hi:i0≤cnt) (h0:Inv i0):wq0 big a0 a3 (i0:Int)=res :=
 idxB (fun m i=>Inv i→wq1 big z4 m a0 a3 (i:Int)=res) (fun _ i hl ih h=>hs _ i hl h ih) (fun _ h=>he _ h) i0 hi hn h0
theorem xin {a1:Y7}(cnt:Nat) (Inv:T7){res:Option Z0}(hn:cnt≤500000000000)
 (hs:∀(rc:Y7→Int→Option Z0) (i:Nat),i<cnt→Inv i→(Inv (i+1)→rc a1 ((i+1:Nat):Int)=res)→wc0 rc z5 a1 (i:Int)=res)
 (he:∀(rc:Y7→Int→Option Z0),Inv cnt→wc0 rc z5 a1 (cnt:Int)=res)
 (i0:Nat) (hi:i0≤cnt) (h0:Inv i0):wq2 big a1 (i0:Int)=res :=
 idxB (fun m i=>Inv i→wq3 big z5 m a1 (i:Int)=res) (fun _ i hl ih h=>hs _ i hl h ih) (fun _ h=>he _ h) i0 hi hn h0
theorem xio {a1:Y7}(cnt:Nat) (Inv:T6){res:Z3}(hn:cnt≤500000000000)
 (hs:∀(rc:T115) (i:Nat) (a3:Y4),i<cnt→Inv i a3→(∀(a3':Y4),Inv (i+1) a3'→rc a1 a3' ((i+1:Nat):Int)=res)→wc2 rc z6 a1 a3 (i:Int)=res)
 (he:∀(rc:T115) (a3:Y4),Inv cnt a3→wc2 rc z6 a1 a3 (cnt:Int)=res)
 (i0:Nat) (hi:i0≤cnt) (a3:Y4) (h0:Inv i0 a3):wq4 big a1 a3 (i0:Int)=res :=
 idxB (fun m i=>∀(a3:Y4),Inv i a3→wq5 big z6 m a1 a3 (i:Int)=res) (fun _ i hl ih a3 h=>hs _ i a3 hl h ih) (fun _ a3 h=>he _ a3 h) i0 hi hn a3 h0
theorem xip {a0:Y4}{a1:Y4}(cnt:Nat) (Inv:T7){res:Option Z0}(hn:cnt≤500000000000)
 (hs:∀(rc:Y4→Y4→Int→Option Z0) (i:Nat),i<cnt→Inv i→(Inv (i+1)→rc a0 a1 ((i+1:Nat):Int)=res)→wc4 rc z7 a0 a1 (i:Int)=res)
 (he:∀(rc:Y4→Y4→Int→Option Z0),Inv cnt→wc4 rc z7 a0 a1 (cnt:Int)=res)
 (i0:Nat) (hi:i0≤cnt) (h0:Inv i0):wq6 big a0 a1 (i0:Int)=res :=
 idxB (fun m i=>Inv i→wq7 big z7 m a0 a1 (i:Int)=res) (fun _ i hl ih h=>hs _ i hl h ih) (fun _ h=>he _ h) i0 hi hn h0
theorem xiq {a1:Int}{a2:Y4}{a3:Y7}(cnt:Nat) (Inv:T88){res:Z4}(hn:cnt≤500000000000)
 (hs:∀(rc:T80) (i:Nat) (a7:Int),i<cnt→Inv i a7→(∀(a7':Int),Inv (i+1) a7'→rc a1 a2 a3 a7' ((i+1:Nat):Int)=res)→wc6 rc z8 a1 a2 a3 a7 (i:Int)=res)
 (he:∀(rc:T80) (a7:Int),Inv cnt a7→wc6 rc z8 a1 a2 a3 a7 (cnt:Int)=res)
 (i0:Nat) (hi:i0≤cnt) (a7:Int) (h0:Inv i0 a7):wq8 big a1 a2 a3 a7 (i0:Int)=res :=
 idxB (fun m i=>∀(a7:Int),Inv i a7→wq9 big z8 m a1 a2 a3 a7 (i:Int)=res) (fun _ i hl ih a7 h=>hs _ i a7 hl h ih) (fun _ a7 h=>he _ a7 h) i0 hi hn a7 h0
theorem xir {a1:Y7}{a2:Y2}(cnt:Nat) (Inv:Nat→Y2→Prop){res:Z7}(hn:cnt≤500000000000)
 (hs:∀(rc:T68) (i:Nat) (a4:Y2),i<cnt→Inv i a4→(∀(a4':Y2),Inv (i+1) a4'→rc a1 a2 a4' ((i+1:Nat):Int)=res)→wab (wc7 big rc wl) wl a1 a2 a4 (i:Int)=res)
 (he:∀(rc:T68) (a4:Y2),Inv cnt a4→wab (wc7 big rc wl) wl a1 a2 a4 (cnt:Int)=res)
 (i0:Nat) (hi:i0≤cnt) (a4:Y2) (h0:Inv i0 a4):wk2 big a1 a2 a4 (i0:Int)=res :=
 idxB (fun m i=>∀(a4:Y2),Inv i a4→wra big wl m a1 a2 a4 (i:Int)=res) (fun _ i hl ih a4 h=>hs _ i a4 hl h ih) (fun _ a4 h=>he _ a4 h) i0 hi hn a4 h0
theorem xis {rec:T68}{k:T116}{a1:Y7}{a2:Y2}{a4:Y2}{a5:Int}(cnt:Nat) (Inv:T6){res:Z7}(hn:cnt≤500000000000)
 (hs:∀(rc:T70) (i:Nat) (a6:Y4),i<cnt→Inv i a6→(∀(a6':Y4),Inv (i+1) a6'→rc a1 a2 a4 a5 a6' ((i+1:Nat):Int)=res)→wc9 rc (waa rec) a1 a2 a4 a5 a6 (i:Int)=res)
 (he:∀(rc:T70) (a6:Y4),Inv cnt a6→wc9 rc (waa rec) a1 a2 a4 a5 a6 (cnt:Int)=res)
 (i0:Nat) (hi:i0≤cnt) (a6:Y4) (h0:Inv i0 a6):wc7 big rec k a1 a2 a4 a5 a6 (i0:Int)=res :=
 idxB (fun m i=>∀(a6:Y4),Inv i a6→wrb big (waa rec) m a1 a2 a4 a5 a6 (i:Int)=res) (fun _ i hl ih a6 h=>hs _ i a6 hl h ih) (fun _ a6 h=>he _ a6 h) i0 hi hn a6 h0
theorem xk2 {a0:Y4}{a3:Y2}{a4:Y4}{a8:Y4}{a12:Y7}{a16:Y7}(cnt:Nat) (Inv:T7){res:Option Z0}(hn:cnt≤500000000000)
 (hs:∀(rc:Y4→Y2→Y4→Y4→Y7→Y7→Int→Option Z0) (i:Nat),i<cnt→Inv i→(Inv (i+1)→rc a0 a3 a4 a8 a12 a16 ((i+1:Nat):Int)=res)→wf9 rc wan a0 a3 a4 a8 a12 a16 (i:Int)=res)
 (he:∀(rc:Y4→Y2→Y4→Y4→Y7→Y7→Int→Option Z0),Inv cnt→wf9 rc wan a0 a3 a4 a8 a12 a16 (cnt:Int)=res)
 (i0:Nat) (hi:i0≤cnt) (h0:Inv i0):wlp big a0 a3 a4 a8 a12 a16 (i0:Int)=res :=
 idxB (fun m i=>Inv i→wrj big wan m a0 a3 a4 a8 a12 a16 (i:Int)=res) (fun _ i hl ih h=>hs _ i hl h ih) (fun _ h=>he _ h) i0 hi hn h0
end Go.Proofs.YtgmapdlhkfajoaaGreat
