import Derived.Test.YtmebolidmeljeaaGreatPLib
import Derived.Test.YtmebolidmeljeaaGreatGBM
set_option linter.unusedVariables false
namespace Go.Proofs.YtmebolidmeljeaaGreat
open Go Go.Gx Go.Proofs
theorem xnp {a1:Int}(cnt:Nat) (Inv:T105){Q:Z6→Prop}(hn:cnt≤500000000000)
 (hs:∀(rc:T93) (i:Nat) (a0:Z0) (a5:Y4),i<cnt→Inv i a0 a5→(∀(a0':Z0) (a5':Y4),Inv (i+1) a0' a5'→Q (rc a0' a1 a5' ((i+1:Nat):Int)))→Q (wo6 rc wl1 a0 a1 a5 (i:Int)))
 (he:∀(rc:T93) (a0:Z0) (a5:Y4),Inv cnt a0 a5→Q (wo6 rc wl1 a0 a1 a5 (cnt:Int)))
 (i0:Nat) (hi:i0≤cnt) (a0:Z0) (a5:Y4) (h0:Inv i0 a0 a5):Q (w3z big a0 a1 a5 (i0:Int)) :=
 idxB (fun m i=>∀(a0:Z0) (a5:Y4),Inv i a0 a5→Q (w30 big wl1 m a0 a1 a5 (i:Int))) (fun _ i hl ih a0 a5 h=>hs _ i a0 a5 hl h ih) (fun _ a0 a5 h=>he _ a0 a5 h) i0 hi hn a0 a5 h0
theorem xnq {a0:Int}{a1:Y4}(cnt:Nat) (Inv:T10){res:Option Z1}(hn:cnt≤500000000000)
 (hs:∀(rc:Int→Y4→Int→Option Z1) (i:Nat),i<cnt→Inv i→(Inv (i+1)→rc a0 a1 ((i+1:Nat):Int)=res)→zu rc yp a0 a1 (i:Int)=res)
 (he:∀(rc:Int→Y4→Int→Option Z1),Inv cnt→zu rc yp a0 a1 (cnt:Int)=res)
 (i0:Nat) (hi:i0≤cnt) (h0:Inv i0):wts big a0 a1 (i0:Int)=res :=
 idxB (fun m i=>Inv i→wtu big yp m a0 a1 (i:Int)=res) (fun _ i hl ih h=>hs _ i hl h ih) (fun _ h=>he _ h) i0 hi hn h0
theorem xnr {a0:Int}{a1:Y4}(cnt:Nat) (Inv:T10){Q:Option Z1→Prop}(hn:cnt≤500000000000)
 (hs:∀(rc:Int→Y4→Int→Option Z1) (i:Nat),i<cnt→Inv i→(Inv (i+1)→Q (rc a0 a1 ((i+1:Nat):Int)))→Q (zu rc yp a0 a1 (i:Int)))
 (he:∀(rc:Int→Y4→Int→Option Z1),Inv cnt→Q (zu rc yp a0 a1 (cnt:Int)))
 (i0:Nat) (hi:i0≤cnt) (h0:Inv i0):Q (wts big a0 a1 (i0:Int)) :=
 idxB (fun m i=>Inv i→Q (wtu big yp m a0 a1 (i:Int))) (fun _ i hl ih h=>hs _ i hl h ih) (fun _ h=>he _ h) i0 hi hn h0
theorem xnt {a0:Y4}{a1:Int}(cnt:Nat) (Inv:Nat→Z12→Prop){Q:Option Z1→Prop}(hn:cnt≤500000000000)
 (hs:∀(rc:Y4→Int→Z12→Int→Option Z1) (i:Nat) (a5:Z12),i<cnt→Inv i a5→(∀(a5':Z12),Inv (i+1) a5'→Q (rc a0 a1 a5' ((i+1:Nat):Int)))→Q (wql rc wmb a0 a1 a5 (i:Int)))
 (he:∀(rc:Y4→Int→Z12→Int→Option Z1) (a5:Z12),Inv cnt a5→Q (wql rc wmb a0 a1 a5 (cnt:Int)))
 (i0:Nat) (hi:i0≤cnt) (a5:Z12) (h0:Inv i0 a5):Q (w4r big a0 a1 a5 (i0:Int)) :=
 idxB (fun m i=>∀(a5:Z12),Inv i a5→Q (w4s big wmb m a0 a1 a5 (i:Int))) (fun _ i hl ih a5 h=>hs _ i a5 hl h ih) (fun _ a5 h=>he _ a5 h) i0 hi hn a5 h0
theorem xnu {a0:Int}{a1:Z5}{a4:Y2}(cnt:Nat) (Inv:T65){Q:Z4→Prop}(hn:cnt≤500000000000)
 (hs:∀(rc:T28) (i:Nat) (a5:Y5),i<cnt→Inv i a5→(∀(a5':Y5),Inv (i+1) a5'→Q (rc a0 a1 a4 a5' ((i+1:Nat):Int)))→Q (wq8 rc (wmh (wmg big)) a0 a1 a4 a5 (i:Int)))
 (he:∀(rc:T28) (a5:Y5),Inv cnt a5→Q (wq8 rc (wmh (wmg big)) a0 a1 a4 a5 (cnt:Int)))
 (i0:Nat) (hi:i0≤cnt) (a5:Y5) (h0:Inv i0 a5):Q (w48 big a0 a1 a4 a5 (i0:Int)) :=
 idxB (fun m i=>∀(a5:Y5),Inv i a5→Q (w49 big (wmh (wmg big)) m a0 a1 a4 a5 (i:Int))) (fun _ i hl ih a5 h=>hs _ i a5 hl h ih) (fun _ a5 h=>he _ a5 h) i0 hi hn a5 h0
theorem xnv {a0:Int}{a1:Z5}{a4:Y2}(cnt:Nat) (Inv:T65){Q:Z4→Prop}(hn:cnt≤500000000000)
 (hs:∀(rc:T28) (i:Nat) (a5:Y5),i<cnt→Inv i a5→(∀(a5':Y5),Inv (i+1) a5'→Q (rc a0 a1 a4 a5' ((i+1:Nat):Int)))→Q (wq9 rc (wmi (wb3 big)) a0 a1 a4 a5 (i:Int)))
 (he:∀(rc:T28) (a5:Y5),Inv cnt a5→Q (wq9 rc (wmi (wb3 big)) a0 a1 a4 a5 (cnt:Int)))
 (i0:Nat) (hi:i0≤cnt) (a5:Y5) (h0:Inv i0 a5):Q (wmg big a0 a1 a4 a5 (i0:Int)) :=
 idxB (fun m i=>∀(a5:Y5),Inv i a5→Q (w5a big (wmi (wb3 big)) m a0 a1 a4 a5 (i:Int))) (fun _ i hl ih a5 h=>hs _ i a5 hl h ih) (fun _ a5 h=>he _ a5 h) i0 hi hn a5 h0
theorem xnf {a0:Int}{a4:Y2}(cnt:Nat) (Inv:T65){Q:Z4→Prop}(hn:cnt≤500000000000)
 (hs:∀(rc:T25) (i:Nat) (a5:Y5),i<cnt→Inv i a5→(∀(a5':Y5),Inv (i+1) a5'→Q (rc a0 a4 a5' ((i+1:Nat):Int)))→Q (wgy (wkt big rc (zm (x7 big))) (zm (x7 big)) a0 a4 a5 (i:Int)))
 (he:∀(rc:T25) (a5:Y5),Inv cnt a5→Q (wgy (wkt big rc (zm (x7 big))) (zm (x7 big)) a0 a4 a5 (cnt:Int)))
 (i0:Nat) (hi:i0≤cnt) (a5:Y5) (h0:Inv i0 a5):Q (wb3 big a0 a4 a5 (i0:Int)) :=
 idxB (fun m i=>∀(a5:Y5),Inv i a5→Q (wx9 big (zm (x7 big)) m a0 a4 a5 (i:Int))) (fun _ i hl ih a5 h=>hs _ i a5 hl h ih) (fun _ a5 h=>he _ a5 h) i0 hi hn a5 h0
theorem xng {rec:T25}{k:T87}{a0:Int}{a4:Y2}{a9:Int}(cnt:Nat) (Inv:T65){Q:Z4→Prop}(hn:cnt≤500000000000)
 (hs:∀(rc:T24) (i:Nat) (a5:Y5),i<cnt→Inv i a5→(∀(a5':Y5),Inv (i+1) a5'→Q (rc a0 a4 a5' a9 ((i+1:Nat):Int)))→Q (wgz (wku big rc (zn rec)) (zn rec) a0 a4 a5 a9 (i:Int)))
 (he:∀(rc:T24) (a5:Y5),Inv cnt a5→Q (wgz (wku big rc (zn rec)) (zn rec) a0 a4 a5 a9 (cnt:Int)))
 (i0:Nat) (hi:i0≤cnt) (a5:Y5) (h0:Inv i0 a5):Q (wkt big rec k a0 a4 a5 a9 (i0:Int)) :=
 idxB (fun m i=>∀(a5:Y5),Inv i a5→Q (wya big (zn rec) m a0 a4 a5 a9 (i:Int))) (fun _ i hl ih a5 h=>hs _ i a5 hl h ih) (fun _ a5 h=>he _ a5 h) i0 hi hn a5 h0
theorem xni {a0:Int}{a4:Y2}{a5:Y5}(cnt:Nat) (Inv:Nat→Y2→Prop){Q:Z4→Prop}(hn:cnt≤500000000000)
 (hs:∀(rc:T48) (i:Nat) (a12:Y2),i<cnt→Inv i a12→(∀(a12':Y2),Inv (i+1) a12'→Q (rc a0 a4 a5 a12' ((i+1:Nat):Int)))→Q (wg0 (wkv big rc zo) zo a0 a4 a5 a12 (i:Int)))
 (he:∀(rc:T48) (a12:Y2),Inv cnt a12→Q (wg0 (wkv big rc zo) zo a0 a4 a5 a12 (cnt:Int)))
 (i0:Nat) (hi:i0≤cnt) (a12:Y2) (h0:Inv i0 a12):Q (x7 big a0 a4 a5 a12 (i0:Int)) :=
 idxB (fun m i=>∀(a12:Y2),Inv i a12→Q (wyc big zo m a0 a4 a5 a12 (i:Int))) (fun _ i hl ih a12 h=>hs _ i a12 hl h ih) (fun _ a12 h=>he _ a12 h) i0 hi hn a12 h0
theorem xnh {rec:T24}{k:T25}{a0:Int}{a4:Y2}{a9:Int}{a10:Int}(cnt:Nat) (Inv:T65){Q:Z4→Prop}(hn:cnt≤500000000000)
 (hs:∀(rc:T59) (i:Nat) (a5:Y5),i<cnt→Inv i a5→(∀(a5':Y5),Inv (i+1) a5'→Q (rc a0 a4 a5' a9 a10 ((i+1:Nat):Int)))→Q (wky rc (wgw rec) a0 a4 a5 a9 a10 (i:Int)))
 (he:∀(rc:T59) (a5:Y5),Inv cnt a5→Q (wky rc (wgw rec) a0 a4 a5 a9 a10 (cnt:Int)))
 (i0:Nat) (hi:i0≤cnt) (a5:Y5) (h0:Inv i0 a5):Q (wku big rec k a0 a4 a5 a9 a10 (i0:Int)) :=
 idxB (fun m i=>∀(a5:Y5),Inv i a5→Q (wyb big (wgw rec) m a0 a4 a5 a9 a10 (i:Int))) (fun _ i hl ih a5 h=>hs _ i a5 hl h ih) (fun _ a5 h=>he _ a5 h) i0 hi hn a5 h0
theorem xnj {rec:T48}{k:T32}{a0:Int}{a4:Y2}{a5:Y5}{a12:Y2}{a13:Int}(cnt:Nat) (Inv:T3){Q:Z4→Prop}(hn:cnt≤500000000000)
 (hs:∀(rc:T54) (i:Nat) (a14:Y4),i<cnt→Inv i a14→(∀(a14':Y4),Inv (i+1) a14'→Q (rc a0 a4 a5 a12 a13 a14' ((i+1:Nat):Int)))→Q (wkz rc (wgx rec) a0 a4 a5 a12 a13 a14 (i:Int)))
 (he:∀(rc:T54) (a14:Y4),Inv cnt a14→Q (wkz rc (wgx rec) a0 a4 a5 a12 a13 a14 (cnt:Int)))
 (i0:Nat) (hi:i0≤cnt) (a14:Y4) (h0:Inv i0 a14):Q (wkv big rec k a0 a4 a5 a12 a13 a14 (i0:Int)) :=
 idxB (fun m i=>∀(a14:Y4),Inv i a14→Q (wyd big (wgx rec) m a0 a4 a5 a12 a13 a14 (i:Int))) (fun _ i hl ih a14 h=>hs _ i a14 hl h ih) (fun _ a14 h=>he _ a14 h) i0 hi hn a14 h0
theorem xk6 {a0:Y4}{a1:Int}(cnt:Nat) (Inv:T10){Q:Z3→Prop}(hn:cnt≤500000000000)
 (hs:∀(rc:T97) (i:Nat),i<cnt→Inv i→(Inv (i+1)→Q (rc a0 a1 ((i+1:Nat):Int)))→Q (whl rc wa1 a0 a1 (i:Int)))
 (he:∀(rc:T97),Inv cnt→Q (whl rc wa1 a0 a1 (cnt:Int)))
 (i0:Nat) (hi:i0≤cnt) (h0:Inv i0):Q (wun big a0 a1 (i0:Int)) :=
 idxB (fun m i=>Inv i→Q (wuo big wa1 m a0 a1 (i:Int))) (fun _ i hl ih h=>hs _ i hl h ih) (fun _ h=>he _ h) i0 hi hn h0
theorem xk9 {a2:Y2}{a3:Int}(cnt:Nat) (Inv:Nat→Z0→Z5→Prop){Q:Z8→Prop}(hn:cnt≤500000000000)
 (hs:∀(rc:T29) (i:Nat) (a0:Z0) (a4:Z5),i<cnt→Inv i a0 a4→(∀(a0':Z0) (a4':Z5),Inv (i+1) a0' a4'→Q (rc a0' a2 a3 a4' ((i+1:Nat):Int)))→Q (wdc (whm big rc (yr (xo big) (wt big))) (yr (xo big) (wt big)) a0 a2 a3 a4 (i:Int)))
 (he:∀(rc:T29) (a0:Z0) (a4:Z5),Inv cnt a0 a4→Q (wdc (whm big rc (yr (xo big) (wt big))) (yr (xo big) (wt big)) a0 a2 a3 a4 (cnt:Int)))
 (i0:Nat) (hi:i0≤cnt) (a0:Z0) (a4:Z5) (h0:Inv i0 a0 a4):Q (wup big a0 a2 a3 a4 (i0:Int)) :=
 idxB (fun m i=>∀(a0:Z0) (a4:Z5),Inv i a0 a4→Q (wur big (yr (xo big) (wt big)) m a0 a2 a3 a4 (i:Int))) (fun _ i hl ih a0 a4 h=>hs _ i a0 a4 hl h ih) (fun _ a0 a4 h=>he _ a0 a4 h) i0 hi hn a0 a4 h0
theorem xla {rec:T29}{k:T68}{a2:Y2}{a3:Int}{a5:Int}(cnt:Nat) (Inv:Nat→Z0→Z5→Prop){Q:Z8→Prop}(hn:cnt≤500000000000)
 (hs:∀(rc:T66) (i:Nat) (a0:Z0) (a4:Z5),i<cnt→Inv i a0 a4→(∀(a0':Z0) (a4':Z5),Inv (i+1) a0' a4'→Q (rc a0' a2 a3 a4' a5 ((i+1:Nat):Int)))→Q (who rc (wda rec) a0 a2 a3 a4 a5 (i:Int)))
 (he:∀(rc:T66) (a0:Z0) (a4:Z5),Inv cnt a0 a4→Q (who rc (wda rec) a0 a2 a3 a4 a5 (cnt:Int)))
 (i0:Nat) (hi:i0≤cnt) (a0:Z0) (a4:Z5) (h0:Inv i0 a0 a4):Q (whm big rec k a0 a2 a3 a4 a5 (i0:Int)) :=
 idxB (fun m i=>∀(a0:Z0) (a4:Z5),Inv i a0 a4→Q (wus big (wda rec) m a0 a2 a3 a4 a5 (i:Int))) (fun _ i hl ih a0 a4 h=>hs _ i a0 a4 hl h ih) (fun _ a0 a4 h=>he _ a0 a4 h) i0 hi hn a0 a4 h0
theorem xhw {a0:Z0}{a2:Y2}{a3:Int}{a7:Y4}(cnt:Nat) (Inv:Nat→Z5→Prop){Q:Z8→Prop}(hn:cnt≤500000000000)
 (hs:∀(rc:T71) (i:Nat) (a4:Z5),i<cnt→Inv i a4→(∀(a4':Z5),Inv (i+1) a4'→Q (rc a0 a2 a3 a4' a7 ((i+1:Nat):Int)))→Q (wdb rc (yd (wt big)) a0 a2 a3 a4 a7 (i:Int)))
 (he:∀(rc:T71) (a4:Z5),Inv cnt a4→Q (wdb rc (yd (wt big)) a0 a2 a3 a4 a7 (cnt:Int)))
 (i0:Nat) (hi:i0≤cnt) (a4:Z5) (h0:Inv i0 a4):Q (xo big a0 a2 a3 a4 a7 (i0:Int)) :=
 idxB (fun m i=>∀(a4:Z5),Inv i a4→Q (wsb big (yd (wt big)) m a0 a2 a3 a4 a7 (i:Int))) (fun _ i hl ih a4 h=>hs _ i a4 hl h ih) (fun _ a4 h=>he _ a4 h) i0 hi hn a4 h0
theorem xhx {a2:Y2}(mu:Z0→Y2→Nat) (Inv:Z0→Y2→Prop){Q:Z8→Prop}
 (hs:∀(rc:T102) (a0:Z0) (a9:Y2),Inv a0 a9→(∀(a0':Z0) (a9':Y2),Inv a0' a9'→mu a0' a9'<mu a0 a9→Q (rc a0' a2 a9'))→Q (wsa rc wc9 a0 a2 a9))
 (a0:Z0) (a9:Y2) (hm:mu a0 a9≤500000000000) (h0:Inv a0 a9):Q (wt big a0 a2 a9) :=
 muR (fun m=>∀(a0:Z0) (a9:Y2),mu a0 a9<m→Inv a0 a9→Q (wsc big wc9 m a0 a2 a9)) (fun a0 a9 h2 _=>absurd h2 (Nat.not_lt_zero _)) (fun _ ih a0 a9 h2 h3=>hs _ a0 a9 h3 fun a0' a9' h4 h5=>ih a0' a9' (by omega) h4) big a0 a9 (by have:=jp;omega) h0
theorem xlb {a0:Y4}{a1:Int}(cnt:Nat) (Inv:T10){res:Option Z1}(hn:cnt≤500000000000)
 (hs:∀(rc:Y4→Int→Int→Option Z1) (i:Nat),i<cnt→Inv i→(Inv (i+1)→rc a0 a1 ((i+1:Nat):Int)=res)→whq rc wdg a0 a1 (i:Int)=res)
 (he:∀(rc:Y4→Int→Int→Option Z1),Inv cnt→whq rc wdg a0 a1 (cnt:Int)=res)
 (i0:Nat) (hi:i0≤cnt) (h0:Inv i0):wut big a0 a1 (i0:Int)=res :=
 idxB (fun m i=>Inv i→wuu big wdg m a0 a1 (i:Int)=res) (fun _ i hl ih h=>hs _ i hl h ih) (fun _ h=>he _ h) i0 hi hn h0
theorem xlc {a1:Int}{a2:Int}{a3:Y2}(cnt:Nat) (Inv:T10){res:Option Z1}(hn:cnt≤500000000000)
 (hs:∀(rc:Int→Int→Y2→Int→Option Z1) (i:Nat),i<cnt→Inv i→(Inv (i+1)→rc a1 a2 a3 ((i+1:Nat):Int)=res)→whs rc wdh a1 a2 a3 (i:Int)=res)
 (he:∀(rc:Int→Int→Y2→Int→Option Z1),Inv cnt→whs rc wdh a1 a2 a3 (cnt:Int)=res)
 (i0:Nat) (hi:i0≤cnt) (h0:Inv i0):wuv big a1 a2 a3 (i0:Int)=res :=
 idxB (fun m i=>Inv i→wuw big wdh m a1 a2 a3 (i:Int)=res) (fun _ i hl ih h=>hs _ i hl h ih) (fun _ h=>he _ h) i0 hi hn h0
theorem xle {a0:Z0}{a2:Y2}{a3:Y2}{a4:Int}{a5:Y4}(cnt:Nat) (Inv:Nat→Z5→Prop){Q:Z8→Prop}(hn:cnt≤500000000000)
 (hs:∀(rc:T13) (i:Nat) (a6:Z5),i<cnt→Inv i a6→(∀(a6':Z5),Inv (i+1) a6'→Q (rc a0 a2 a3 a4 a5 a6' ((i+1:Nat):Int)))→Q (whv rc wdj a0 a2 a3 a4 a5 a6 (i:Int)))
 (he:∀(rc:T13) (a6:Z5),Inv cnt a6→Q (whv rc wdj a0 a2 a3 a4 a5 a6 (cnt:Int)))
 (i0:Nat) (hi:i0≤cnt) (a6:Z5) (h0:Inv i0 a6):Q (wux big a0 a2 a3 a4 a5 a6 (i0:Int)) :=
 idxB (fun m i=>∀(a6:Z5),Inv i a6→Q (wuy big wdj m a0 a2 a3 a4 a5 a6 (i:Int))) (fun _ i hl ih a6 h=>hs _ i a6 hl h ih) (fun _ a6 h=>he _ a6 h) i0 hi hn a6 h0
theorem xlh {a0:Z0}{a2:Y2}{a3:Y2}{a4:Int}{a5:Y4}(cnt:Nat) (Inv:Nat→Z5→Prop){Q:Z8→Prop}(hn:cnt≤500000000000)
 (hs:∀(rc:T13) (i:Nat) (a6:Z5),i<cnt→Inv i a6→(∀(a6':Z5),Inv (i+1) a6'→Q (rc a0 a2 a3 a4 a5 a6' ((i+1:Nat):Int)))→Q (whz rc wdl a0 a2 a3 a4 a5 a6 (i:Int)))
 (he:∀(rc:T13) (a6:Z5),Inv cnt a6→Q (whz rc wdl a0 a2 a3 a4 a5 a6 (cnt:Int)))
 (i0:Nat) (hi:i0≤cnt) (a6:Z5) (h0:Inv i0 a6):Q (wuz big a0 a2 a3 a4 a5 a6 (i0:Int)) :=
 idxB (fun m i=>∀(a6:Z5),Inv i a6→Q (wu0 big wdl m a0 a2 a3 a4 a5 a6 (i:Int))) (fun _ i hl ih a6 h=>hs _ i a6 hl h ih) (fun _ a6 h=>he _ a6 h) i0 hi hn a6 h0
theorem xli {a0:Y4}{a1:Y4}(cnt:Nat) (Inv:T10){res:Option Z1}(hn:cnt≤500000000000)
 (hs:∀(rc:Y4→Y4→Int→Option Z1) (i:Nat),i<cnt→Inv i→(Inv (i+1)→rc a0 a1 ((i+1:Nat):Int)=res)→wh2 rc wdn a0 a1 (i:Int)=res)
 (he:∀(rc:Y4→Y4→Int→Option Z1),Inv cnt→wh2 rc wdn a0 a1 (cnt:Int)=res)
 (i0:Nat) (hi:i0≤cnt) (h0:Inv i0):wu4 big a0 a1 (i0:Int)=res :=
 idxB (fun m i=>Inv i→wu5 big wdn m a0 a1 (i:Int)=res) (fun _ i hl ih h=>hs _ i hl h ih) (fun _ h=>he _ h) i0 hi hn h0
theorem xlj {a1:Y2}{a3:Int}(cnt:Nat) (Inv:T10){res:Option Z1}(hn:cnt≤500000000000)
 (hs:∀(rc:Y2→Int→Int→Option Z1) (i:Nat),i<cnt→Inv i→(Inv (i+1)→rc a1 a3 ((i+1:Nat):Int)=res)→wh4 rc (wdq (wag big)) a1 a3 (i:Int)=res)
 (he:∀(rc:Y2→Int→Int→Option Z1),Inv cnt→wh4 rc (wdq (wag big)) a1 a3 (cnt:Int)=res)
 (i0:Nat) (hi:i0≤cnt) (h0:Inv i0):wu6 big a1 a3 (i0:Int)=res :=
 idxB (fun m i=>Inv i→wu7 big (wdq (wag big)) m a1 a3 (i:Int)=res) (fun _ i hl ih h=>hs _ i hl h ih) (fun _ h=>he _ h) i0 hi hn h0
theorem xic {a1:Y2}{a3:Int}(cnt:Nat) (Inv:T10){res:Option Z1}(hn:cnt≤500000000000)
 (hs:∀(rc:Y2→Int→Int→Option Z1) (i:Nat),i<cnt→Inv i→(Inv (i+1)→rc a1 a3 ((i+1:Nat):Int)=res)→wai (wdo big rc xp) xp a1 a3 (i:Int)=res)
 (he:∀(rc:Y2→Int→Int→Option Z1),Inv cnt→wai (wdo big rc xp) xp a1 a3 (cnt:Int)=res)
 (i0:Nat) (hi:i0≤cnt) (h0:Inv i0):wag big a1 a3 (i0:Int)=res :=
 idxB (fun m i=>Inv i→wsd big xp m a1 a3 (i:Int)=res) (fun _ i hl ih h=>hs _ i hl h ih) (fun _ h=>he _ h) i0 hi hn h0
theorem xid {rec:Y2→Int→Int→Option Z1}{k:Option Z1}{a1:Y2}{a3:Int}{a5:Int}(cnt:Nat) (Inv:T10){res:Option Z1}(hn:cnt≤500000000000)
 (hs:∀(rc:Y2→Int→Int→Int→Option Z1) (i:Nat),i<cnt→Inv i→(Inv (i+1)→rc a1 a3 a5 ((i+1:Nat):Int)=res)→wdr rc (wah rec) a1 a3 a5 (i:Int)=res)
 (he:∀(rc:Y2→Int→Int→Int→Option Z1),Inv cnt→wdr rc (wah rec) a1 a3 a5 (cnt:Int)=res)
 (i0:Nat) (hi:i0≤cnt) (h0:Inv i0):wdo big rec k a1 a3 a5 (i0:Int)=res :=
 idxB (fun m i=>Inv i→wse big (wah rec) m a1 a3 a5 (i:Int)=res) (fun _ i hl ih h=>hs _ i hl h ih) (fun _ h=>he _ h) i0 hi hn h0
theorem xlk {a1:Y2}{a2:Y2}(cnt:Nat) (Inv:Nat→Y2→Prop){res:Z4}(hn:cnt≤500000000000)
 (hs:∀(rc:T69) (i:Nat) (a3:Y2),i<cnt→Inv i a3→(∀(a3':Y2),Inv (i+1) a3'→rc a1 a2 a3' ((i+1:Nat):Int)=res)→wdu (wh5 big rc yt) yt a1 a2 a3 (i:Int)=res)
 (he:∀(rc:T69) (a3:Y2),Inv cnt a3→wdu (wh5 big rc yt) yt a1 a2 a3 (cnt:Int)=res)
 (i0:Nat) (hi:i0≤cnt) (a3:Y2) (h0:Inv i0 a3):wu8 big a1 a2 a3 (i0:Int)=res :=
 idxB (fun m i=>∀(a3:Y2),Inv i a3→wu9 big yt m a1 a2 a3 (i:Int)=res) (fun _ i hl ih a3 h=>hs _ i a3 hl h ih) (fun _ a3 h=>he _ a3 h) i0 hi hn a3 h0
theorem xll {rec:T69}{k:T32}{a1:Y2}{a2:Y2}{a3:Y2}{a4:Int}(cnt:Nat) (Inv:T3){res:Z4}(hn:cnt≤500000000000)
 (hs:∀(rc:T72) (i:Nat) (a5:Y4),i<cnt→Inv i a5→(∀(a5':Y4),Inv (i+1) a5'→rc a1 a2 a3 a4 a5' ((i+1:Nat):Int)=res)→wh7 rc (wdt rec) a1 a2 a3 a4 a5 (i:Int)=res)
 (he:∀(rc:T72) (a5:Y4),Inv cnt a5→wh7 rc (wdt rec) a1 a2 a3 a4 a5 (cnt:Int)=res)
 (i0:Nat) (hi:i0≤cnt) (a5:Y4) (h0:Inv i0 a5):wh5 big rec k a1 a2 a3 a4 a5 (i0:Int)=res :=
 idxB (fun m i=>∀(a5:Y4),Inv i a5→wva big (wdt rec) m a1 a2 a3 a4 a5 (i:Int)=res) (fun _ i hl ih a5 h=>hs _ i a5 hl h ih) (fun _ a5 h=>he _ a5 h) i0 hi hn a5 h0
theorem xlm {a1:Y4}{a2:Y2}(cnt:Nat) (Inv:T3){res:Z7}(hn:cnt≤500000000000)
 (hs:∀(rc:T70) (i:Nat) (a5:Y4),i<cnt→Inv i a5→(∀(a5':Y4),Inv (i+1) a5'→rc a1 a2 a5' ((i+1:Nat):Int)=res)→wdz (wh8 big rc (yu (xr big))) (yu (xr big)) a1 a2 a5 (i:Int)=res)
 (he:∀(rc:T70) (a5:Y4),Inv cnt a5→wdz (wh8 big rc (yu (xr big))) (yu (xr big)) a1 a2 a5 (cnt:Int)=res)
 (i0:Nat) (hi:i0≤cnt) (a5:Y4) (h0:Inv i0 a5):wvb big a1 a2 a5 (i0:Int)=res :=
 idxB (fun m i=>∀(a5:Y4),Inv i a5→wvc big (yu (xr big)) m a1 a2 a5 (i:Int)=res) (fun _ i hl ih a5 h=>hs _ i a5 hl h ih) (fun _ a5 h=>he _ a5 h) i0 hi hn a5 h0
theorem xln {rec:T70}{k:Y2→Y4→Z7}{a1:Y4}{a2:Y2}{a5:Y4}{a6:Int}(cnt:Nat) (Inv:Nat→Bool→Prop){res:Z7}(hn:cnt≤500000000000)
 (hs:∀(rc:T60) (i:Nat) (a7:Bool),i<cnt→Inv i a7→(∀(a7':Bool),Inv (i+1) a7'→rc a1 a2 a5 a6 a7' ((i+1:Nat):Int)=res)→wia rc (wdx rec) a1 a2 a5 a6 a7 (i:Int)=res)
 (he:∀(rc:T60) (a7:Bool),Inv cnt a7→wia rc (wdx rec) a1 a2 a5 a6 a7 (cnt:Int)=res)
 (i0:Nat) (hi:i0≤cnt) (a7:Bool) (h0:Inv i0 a7):wh8 big rec k a1 a2 a5 a6 a7 (i0:Int)=res :=
 idxB (fun m i=>∀(a7:Bool),Inv i a7→wvd big (wdx rec) m a1 a2 a5 a6 a7 (i:Int)=res) (fun _ i hl ih a7 h=>hs _ i a7 hl h ih) (fun _ a7 h=>he _ a7 h) i0 hi hn a7 h0
theorem xih {a2:Y2}{a5:Y4}(cnt:Nat) (Inv:T10){res:Z7}(hn:cnt≤500000000000)
 (hs:∀(rc:T110) (i:Nat),i<cnt→Inv i→(Inv (i+1)→rc a2 a5 ((i+1:Nat):Int)=res)→wdy rc waj a2 a5 (i:Int)=res)
 (he:∀(rc:T110),Inv cnt→wdy rc waj a2 a5 (cnt:Int)=res)
 (i0:Nat) (hi:i0≤cnt) (h0:Inv i0):xr big a2 a5 (i0:Int)=res :=
 idxB (fun m i=>Inv i→wsf big waj m a2 a5 (i:Int)=res) (fun _ i hl ih h=>hs _ i hl h ih) (fun _ h=>he _ h) i0 hi hn h0
theorem xlo {a1:Y2}{a3:Y2}(cnt:Nat) (Inv:T10){res:Option Z1}(hn:cnt≤500000000000)
 (hs:∀(rc:Y2→Y2→Int→Option Z1) (i:Nat),i<cnt→Inv i→(Inv (i+1)→rc a1 a3 ((i+1:Nat):Int)=res)→wd2 (wib big rc yv) yv a1 a3 (i:Int)=res)
 (he:∀(rc:Y2→Y2→Int→Option Z1),Inv cnt→wd2 (wib big rc yv) yv a1 a3 (cnt:Int)=res)
 (i0:Nat) (hi:i0≤cnt) (h0:Inv i0):wve big a1 a3 (i0:Int)=res :=
 idxB (fun m i=>Inv i→wvf big yv m a1 a3 (i:Int)=res) (fun _ i hl ih h=>hs _ i hl h ih) (fun _ h=>he _ h) i0 hi hn h0
theorem xlp {rec:Y2→Y2→Int→Option Z1}{k:Option Z1}{a1:Y2}{a3:Y2}{a4:Int}(cnt:Nat) (Inv:T10){res:Option Z1}(hn:cnt≤500000000000)
 (hs:∀(rc:Y2→Y2→Int→Int→Option Z1) (i:Nat),i<cnt→Inv i→(Inv (i+1)→rc a1 a3 a4 ((i+1:Nat):Int)=res)→wid rc (wd1 rec) a1 a3 a4 (i:Int)=res)
 (he:∀(rc:Y2→Y2→Int→Int→Option Z1),Inv cnt→wid rc (wd1 rec) a1 a3 a4 (cnt:Int)=res)
 (i0:Nat) (hi:i0≤cnt) (h0:Inv i0):wib big rec k a1 a3 a4 (i0:Int)=res :=
 idxB (fun m i=>Inv i→wvg big (wd1 rec) m a1 a3 a4 (i:Int)=res) (fun _ i hl ih h=>hs _ i hl h ih) (fun _ h=>he _ h) i0 hi hn h0
theorem xlq {a1:Y2}{a4:Int}(cnt:Nat) (Inv:T10){Q:Z2→Prop}(hn:cnt≤500000000000)
 (hs:∀(rc:T43) (i:Nat),i<cnt→Inv i→(Inv (i+1)→Q (rc a1 a4 ((i+1:Nat):Int)))→Q (wd6 (wie big rc yw) yw a1 a4 (i:Int)))
 (he:∀(rc:T43),Inv cnt→Q (wd6 (wie big rc yw) yw a1 a4 (cnt:Int)))
 (i0:Nat) (hi:i0≤cnt) (h0:Inv i0):Q (wvh big a1 a4 (i0:Int)) :=
 idxB (fun m i=>Inv i→Q (wvi big yw m a1 a4 (i:Int))) (fun _ i hl ih h=>hs _ i hl h ih) (fun _ h=>he _ h) i0 hi hn h0
theorem xlr {rec:T43}{k:Z2}{a1:Y2}{a4:Int}{a5:Int}(cnt:Nat) (Inv:T10){Q:Z2→Prop}(hn:cnt≤500000000000)
 (hs:∀(rc:T38) (i:Nat),i<cnt→Inv i→(Inv (i+1)→Q (rc a1 a4 a5 ((i+1:Nat):Int)))→Q (wd7 (wif big rc (yx rec)) (yx rec) a1 a4 a5 (i:Int)))
 (he:∀(rc:T38),Inv cnt→Q (wd7 (wif big rc (yx rec)) (yx rec) a1 a4 a5 (cnt:Int)))
 (i0:Nat) (hi:i0≤cnt) (h0:Inv i0):Q (wie big rec k a1 a4 a5 (i0:Int)) :=
 idxB (fun m i=>Inv i→Q (wvj big (yx rec) m a1 a4 a5 (i:Int))) (fun _ i hl ih h=>hs _ i hl h ih) (fun _ h=>he _ h) i0 hi hn h0
theorem xls {rec:T38}{k:T43}{a1:Y2}{a4:Int}{a5:Int}{a6:Int}(cnt:Nat) (Inv:T10){Q:Z2→Prop}(hn:cnt≤500000000000)
 (hs:∀(rc:T77) (i:Nat),i<cnt→Inv i→(Inv (i+1)→Q (rc a1 a4 a5 a6 ((i+1:Nat):Int)))→Q (wih rc (wd5 rec) a1 a4 a5 a6 (i:Int)))
 (he:∀(rc:T77),Inv cnt→Q (wih rc (wd5 rec) a1 a4 a5 a6 (cnt:Int)))
 (i0:Nat) (hi:i0≤cnt) (h0:Inv i0):Q (wif big rec k a1 a4 a5 a6 (i0:Int)) :=
 idxB (fun m i=>Inv i→Q (wvk big (wd5 rec) m a1 a4 a5 a6 (i:Int))) (fun _ i hl ih h=>hs _ i hl h ih) (fun _ h=>he _ h) i0 hi hn h0
theorem xlt {a1:Int}{a2:Int}{a3:Int}{a4:Y2}(cnt:Nat) (Inv:T3){res:Z3}(hn:cnt≤500000000000)
 (hs:∀(rc:T61) (i:Nat) (a9:Y4),i<cnt→Inv i a9→(∀(a9':Y4),Inv (i+1) a9'→rc a1 a2 a3 a4 a9' ((i+1:Nat):Int)=res)→wij rc wd8 a1 a2 a3 a4 a9 (i:Int)=res)
 (he:∀(rc:T61) (a9:Y4),Inv cnt a9→wij rc wd8 a1 a2 a3 a4 a9 (cnt:Int)=res)
 (i0:Nat) (hi:i0≤cnt) (a9:Y4) (h0:Inv i0 a9):wvl big a1 a2 a3 a4 a9 (i0:Int)=res :=
 idxB (fun m i=>∀(a9:Y4),Inv i a9→wvm big wd8 m a1 a2 a3 a4 a9 (i:Int)=res) (fun _ i hl ih a9 h=>hs _ i a9 hl h ih) (fun _ a9 h=>he _ a9 h) i0 hi hn a9 h0
theorem xlu {a1:Y2}(cnt:Nat) (Inv:T3){res:Z3}(hn:cnt≤500000000000)
 (hs:∀(rc:T22) (i:Nat) (a3:Y4),i<cnt→Inv i a3→(∀(a3':Y4),Inv (i+1) a3'→rc a1 a3' ((i+1:Nat):Int)=res)→wil rc wd9 a1 a3 (i:Int)=res)
 (he:∀(rc:T22) (a3:Y4),Inv cnt a3→wil rc wd9 a1 a3 (cnt:Int)=res)
 (i0:Nat) (hi:i0≤cnt) (a3:Y4) (h0:Inv i0 a3):wvn big a1 a3 (i0:Int)=res :=
 idxB (fun m i=>∀(a3:Y4),Inv i a3→wvo big wd9 m a1 a3 (i:Int)=res) (fun _ i hl ih a3 h=>hs _ i a3 hl h ih) (fun _ a3 h=>he _ a3 h) i0 hi hn a3 h0
theorem xlv {a1:Y2}{a4:Int}(cnt:Nat) (Inv:T3){res:Z3}(hn:cnt≤500000000000)
 (hs:∀(rc:T62) (i:Nat) (a3:Y4),i<cnt→Inv i a3→(∀(a3':Y4),Inv (i+1) a3'→rc a1 a3' a4 ((i+1:Nat):Int)=res)→wio rc wea a1 a3 a4 (i:Int)=res)
 (he:∀(rc:T62) (a3:Y4),Inv cnt a3→wio rc wea a1 a3 a4 (cnt:Int)=res)
 (i0:Nat) (hi:i0≤cnt) (a3:Y4) (h0:Inv i0 a3):wvp big a1 a3 a4 (i0:Int)=res :=
 idxB (fun m i=>∀(a3:Y4),Inv i a3→wvq big wea m a1 a3 a4 (i:Int)=res) (fun _ i hl ih a3 h=>hs _ i a3 hl h ih) (fun _ a3 h=>he _ a3 h) i0 hi hn a3 h0
theorem xlw {a2:Y2}{a3:Y2}{a6:Y2}{a7:Y2}{a9:Int}(cnt:Nat) (Inv:T105){Q:Z14→Prop}(hn:cnt≤500000000000)
 (hs:∀(rc:T46) (i:Nat) (a5:Z0) (a8:Y4),i<cnt→Inv i a5 a8→(∀(a5':Z0) (a8':Y4),Inv (i+1) a5' a8'→Q (rc a2 a3 a5' a6 a7 a8' a9 ((i+1:Nat):Int)))→Q (wir rc wiq a2 a3 a5 a6 a7 a8 a9 (i:Int)))
 (he:∀(rc:T46) (a5:Z0) (a8:Y4),Inv cnt a5 a8→Q (wir rc wiq a2 a3 a5 a6 a7 a8 a9 (cnt:Int)))
 (i0:Nat) (hi:i0≤cnt) (a5:Z0) (a8:Y4) (h0:Inv i0 a5 a8):Q (wvr big a2 a3 a5 a6 a7 a8 a9 (i0:Int)) :=
 idxB (fun m i=>∀(a5:Z0) (a8:Y4),Inv i a5 a8→Q (wvs big wiq m a2 a3 a5 a6 a7 a8 a9 (i:Int))) (fun _ i hl ih a5 a8 h=>hs _ i a5 a8 hl h ih) (fun _ a5 a8 h=>he _ a5 a8 h) i0 hi hn a5 a8 h0
theorem xlx {a0:Int}{a8:Int}(cnt:Nat) (Inv:T65){res:Z13}(hn:cnt≤500000000000)
 (hs:∀(rc:T90) (i:Nat) (a3:Y5),i<cnt→Inv i a3→(∀(a3':Y5),Inv (i+1) a3'→rc a0 a3' a8 ((i+1:Nat):Int)=res)→wit rc web a0 a3 a8 (i:Int)=res)
 (he:∀(rc:T90) (a3:Y5),Inv cnt a3→wit rc web a0 a3 a8 (cnt:Int)=res)
 (i0:Nat) (hi:i0≤cnt) (a3:Y5) (h0:Inv i0 a3):wvt big a0 a3 a8 (i0:Int)=res :=
 idxB (fun m i=>∀(a3:Y5),Inv i a3→wvu big web m a0 a3 a8 (i:Int)=res) (fun _ i hl ih a3 h=>hs _ i a3 hl h ih) (fun _ a3 h=>he _ a3 h) i0 hi hn a3 h0
theorem xly {a0:Y5}{a7:Int}(cnt:Nat) (Inv:T10){res:Option Z1}(hn:cnt≤500000000000)
 (hs:∀(rc:Y5→Int→Int→Option Z1) (i:Nat),i<cnt→Inv i→(Inv (i+1)→rc a0 a7 ((i+1:Nat):Int)=res)→weg (wiw big rc yz) yz a0 a7 (i:Int)=res)
 (he:∀(rc:Y5→Int→Int→Option Z1),Inv cnt→weg (wiw big rc yz) yz a0 a7 (cnt:Int)=res)
 (i0:Nat) (hi:i0≤cnt) (h0:Inv i0):wv3 big a0 a7 (i0:Int)=res :=
 idxB (fun m i=>Inv i→wv4 big yz m a0 a7 (i:Int)=res) (fun _ i hl ih h=>hs _ i hl h ih) (fun _ h=>he _ h) i0 hi hn h0
theorem xlz {rec:Y5→Int→Int→Option Z1}{k:Option Z1}{a0:Y5}{a3:Int}{a7:Int}{a8:Int}{a20:Int}(cnt:Nat) (Inv:T10){res:Option Z1}(hn:cnt≤500000000000)
 (hs:∀(rc:Y5→Int→Int→Int→Int→Int→Option Z1) (i:Nat),i<cnt→Inv i→(Inv (i+1)→rc a0 a3 a7 a8 a20 ((i+1:Nat):Int)=res)→weh (wak big rc (x6 rec)) (x6 rec) a0 a3 a7 a8 a20 (i:Int)=res)
 (he:∀(rc:Y5→Int→Int→Int→Int→Int→Option Z1),Inv cnt→weh (wak big rc (x6 rec)) (x6 rec) a0 a3 a7 a8 a20 (cnt:Int)=res)
 (i0:Nat) (hi:i0≤cnt) (h0:Inv i0):wiw big rec k a0 a3 a7 a8 a20 (i0:Int)=res :=
 idxB (fun m i=>Inv i→wv5 big (x6 rec) m a0 a3 a7 a8 a20 (i:Int)=res) (fun _ i hl ih h=>hs _ i hl h ih) (fun _ h=>he _ h) i0 hi hn h0
theorem xiw {rec:Y5→Int→Int→Int→Int→Int→Option Z1}{k:Y5→Int→Int→Option Z1}{a0:Y5}{a3:Int}{a4:Int}{a7:Int}{a8:Int}{a20:Int}{a21:Int}{a46:Int}(cnt:Nat) (Inv:T10){res:Option Z1}(hn:cnt≤500000000000)
 (hs:∀(rc:Y5→Int→Int→Int→Int→Int→Int→Int→Int→Option Z1) (i:Nat),i<cnt→Inv i→(Inv (i+1)→rc a0 a3 a4 a7 a8 a20 a21 a46 ((i+1:Nat):Int)=res)→wef rc (wal rec) a0 a3 a4 a7 a8 a20 a21 a46 (i:Int)=res)
 (he:∀(rc:Y5→Int→Int→Int→Int→Int→Int→Int→Int→Option Z1),Inv cnt→wef rc (wal rec) a0 a3 a4 a7 a8 a20 a21 a46 (cnt:Int)=res)
 (i0:Nat) (hi:i0≤cnt) (h0:Inv i0):wak big rec k a0 a3 a4 a7 a8 a20 a21 a46 (i0:Int)=res :=
 idxB (fun m i=>Inv i→wsg big (wal rec) m a0 a3 a4 a7 a8 a20 a21 a46 (i:Int)=res) (fun _ i hl ih h=>hs _ i hl h ih) (fun _ h=>he _ h) i0 hi hn h0
theorem xl0 {a4:Int}{a18:Y3}{a19:Int}(cnt:Nat) (Inv:T65){res:Z11}(hn:cnt≤500000000000)
 (hs:∀(rc:T45) (i:Nat) (a5:Y5),i<cnt→Inv i a5→(∀(a5':Y5),Inv (i+1) a5'→rc a4 a5' a18 a19 ((i+1:Nat):Int)=res)→wem (wej big rc y5) y5 a4 a5 a18 a19 (i:Int)=res)
 (he:∀(rc:T45) (a5:Y5),Inv cnt a5→wem (wej big rc y5) y5 a4 a5 a18 a19 (cnt:Int)=res)
 (i0:Nat) (hi:i0≤cnt) (a5:Y5) (h0:Inv i0 a5):wv6 big a4 a5 a18 a19 (i0:Int)=res :=
 idxB (fun m i=>∀(a5:Y5),Inv i a5→wv7 big y5 m a4 a5 a18 a19 (i:Int)=res) (fun _ i hl ih a5 h=>hs _ i a5 hl h ih) (fun _ a5 h=>he _ a5 h) i0 hi hn a5 h0
theorem xiz {rec:T45}{k:Y5→Z11}{a4:Int}{a6:Int}{a18:Y3}{a19:Int}{a20:Int}{a29:Y4}{a30:Int}{a31:Bool}{a32:Bool}{a34:Y4}{a35:Int}(cnt:Nat) (Inv:T65){res:Z11}(hn:cnt≤500000000000)
 (hs:∀(rc:T15) (i:Nat) (a5:Y5),i<cnt→Inv i a5→(∀(a5':Y5),Inv (i+1) a5'→rc a4 a5' a6 a18 a19 a20 a29 a30 a31 a32 a34 a35 ((i+1:Nat):Int)=res)→wel rc (wam rec) a4 a5 a6 a18 a19 a20 a29 a30 a31 a32 a34 a35 (i:Int)=res)
 (he:∀(rc:T15) (a5:Y5),Inv cnt a5→wel rc (wam rec) a4 a5 a6 a18 a19 a20 a29 a30 a31 a32 a34 a35 (cnt:Int)=res)
 (i0:Nat) (hi:i0≤cnt) (a5:Y5) (h0:Inv i0 a5):wej big rec k a4 a5 a6 a18 a19 a20 a29 a30 a31 a32 a34 a35 (i0:Int)=res :=
 idxB (fun m i=>∀(a5:Y5),Inv i a5→wsh big (wam rec) m a4 a5 a6 a18 a19 a20 a29 a30 a31 a32 a34 a35 (i:Int)=res) (fun _ i hl ih a5 h=>hs _ i a5 hl h ih) (fun _ a5 h=>he _ a5 h) i0 hi hn a5 h0
theorem xl1 {a0:Y5}{a1:Y4}{a10:Y4}{a11:Int}(cnt:Nat) (Inv:T10){res:Z7}(hn:cnt≤500000000000)
 (hs:∀(rc:T49) (i:Nat),i<cnt→Inv i→(Inv (i+1)→rc a0 a1 a10 a11 ((i+1:Nat):Int)=res)→wep (wix big rc y6) y6 a0 a1 a10 a11 (i:Int)=res)
 (he:∀(rc:T49),Inv cnt→wep (wix big rc y6) y6 a0 a1 a10 a11 (cnt:Int)=res)
 (i0:Nat) (hi:i0≤cnt) (h0:Inv i0):wv8 big a0 a1 a10 a11 (i0:Int)=res :=
 idxB (fun m i=>Inv i→wv9 big y6 m a0 a1 a10 a11 (i:Int)=res) (fun _ i hl ih h=>hs _ i hl h ih) (fun _ h=>he _ h) i0 hi hn h0
theorem xl2 {rec:T49}{k:Z7}{a0:Y5}{a1:Y4}{a6:Int}{a10:Y4}{a11:Int}{a12:Int}{a16:Y4}{a17:Int}(cnt:Nat) (Inv:Nat→Bool→Prop){res:Z7}(hn:cnt≤500000000000)
 (hs:∀(rc:T27) (i:Nat) (a7:Bool),i<cnt→Inv i a7→(∀(a7':Bool),Inv (i+1) a7'→rc a0 a1 a6 a7' a10 a11 a12 a16 a17 ((i+1:Nat):Int)=res)→wiz rc (weo rec) a0 a1 a6 a7 a10 a11 a12 a16 a17 (i:Int)=res)
 (he:∀(rc:T27) (a7:Bool),Inv cnt a7→wiz rc (weo rec) a0 a1 a6 a7 a10 a11 a12 a16 a17 (cnt:Int)=res)
 (i0:Nat) (hi:i0≤cnt) (a7:Bool) (h0:Inv i0 a7):wix big rec k a0 a1 a6 a7 a10 a11 a12 a16 a17 (i0:Int)=res :=
 idxB (fun m i=>∀(a7:Bool),Inv i a7→wwa big (weo rec) m a0 a1 a6 a7 a10 a11 a12 a16 a17 (i:Int)=res) (fun _ i hl ih a7 h=>hs _ i a7 hl h ih) (fun _ a7 h=>he _ a7 h) i0 hi hn a7 h0
theorem xl3 {a1:(Y5×Z16)}{a9:Int}(cnt:Nat) (Inv:T3){res:Z3}(hn:cnt≤500000000000)
 (hs:∀(rc:T78) (i:Nat) (a5:Y4),i<cnt→Inv i a5→(∀(a5':Y4),Inv (i+1) a5'→rc a1 a5' a9 ((i+1:Nat):Int)=res)→wi1 rc weq a1 a5 a9 (i:Int)=res)
 (he:∀(rc:T78) (a5:Y4),Inv cnt a5→wi1 rc weq a1 a5 a9 (cnt:Int)=res)
 (i0:Nat) (hi:i0≤cnt) (a5:Y4) (h0:Inv i0 a5):wwb big a1 a5 a9 (i0:Int)=res :=
 idxB (fun m i=>∀(a5:Y4),Inv i a5→wwc big weq m a1 a5 a9 (i:Int)=res) (fun _ i hl ih a5 h=>hs _ i a5 hl h ih) (fun _ a5 h=>he _ a5 h) i0 hi hn a5 h0
theorem xl4 {a1:Y5}{a11:Int}(cnt:Nat) (Inv:Nat→Y3→Prop){res:Z9}(hn:cnt≤500000000000)
 (hs:∀(rc:T63) (i:Nat) (a4:Y3),i<cnt→Inv i a4→(∀(a4':Y3),Inv (i+1) a4'→rc a1 a4' a11 ((i+1:Nat):Int)=res)→wet (wi2 big rc y7) y7 a1 a4 a11 (i:Int)=res)
 (he:∀(rc:T63) (a4:Y3),Inv cnt a4→wet (wi2 big rc y7) y7 a1 a4 a11 (cnt:Int)=res)
 (i0:Nat) (hi:i0≤cnt) (a4:Y3) (h0:Inv i0 a4):wwd big a1 a4 a11 (i0:Int)=res :=
 idxB (fun m i=>∀(a4:Y3),Inv i a4→wwe big y7 m a1 a4 a11 (i:Int)=res) (fun _ i hl ih a4 h=>hs _ i a4 hl h ih) (fun _ a4 h=>he _ a4 h) i0 hi hn a4 h0
theorem xl5 {rec:T63}{k:Y3→Z9}{a1:Y5}{a4:Y3}{a5:Int}{a11:Int}{a12:Int}{a17:Int}(cnt:Nat) (Inv:T3){res:Z9}(hn:cnt≤500000000000)
 (hs:∀(rc:T42) (i:Nat) (a6:Y4),i<cnt→Inv i a6→(∀(a6':Y4),Inv (i+1) a6'→rc a1 a4 a5 a6' a11 a12 a17 ((i+1:Nat):Int)=res)→wi4 rc (wes rec) a1 a4 a5 a6 a11 a12 a17 (i:Int)=res)
 (he:∀(rc:T42) (a6:Y4),Inv cnt a6→wi4 rc (wes rec) a1 a4 a5 a6 a11 a12 a17 (cnt:Int)=res)
 (i0:Nat) (hi:i0≤cnt) (a6:Y4) (h0:Inv i0 a6):wi2 big rec k a1 a4 a5 a6 a11 a12 a17 (i0:Int)=res :=
 idxB (fun m i=>∀(a6:Y4),Inv i a6→wwf big (wes rec) m a1 a4 a5 a6 a11 a12 a17 (i:Int)=res) (fun _ i hl ih a6 h=>hs _ i a6 hl h ih) (fun _ a6 h=>he _ a6 h) i0 hi hn a6 h0
theorem xl6 {a0:Y5}{a10:Int}(cnt:Nat) (Inv:T65){res:Z13}(hn:cnt≤500000000000)
 (hs:∀(rc:T39) (i:Nat) (a3:Y5),i<cnt→Inv i a3→(∀(a3':Y5),Inv (i+1) a3'→rc a0 a3' a10 ((i+1:Nat):Int)=res)→wew (wi5 big rc y8) y8 a0 a3 a10 (i:Int)=res)
 (he:∀(rc:T39) (a3:Y5),Inv cnt a3→wew (wi5 big rc y8) y8 a0 a3 a10 (cnt:Int)=res)
 (i0:Nat) (hi:i0≤cnt) (a3:Y5) (h0:Inv i0 a3):wwg big a0 a3 a10 (i0:Int)=res :=
 idxB (fun m i=>∀(a3:Y5),Inv i a3→wwh big y8 m a0 a3 a10 (i:Int)=res) (fun _ i hl ih a3 h=>hs _ i a3 hl h ih) (fun _ a3 h=>he _ a3 h) i0 hi hn a3 h0
theorem xl7 {rec:T39}{k:Y5→Z13}{a0:Y5}{a4:Int}{a10:Int}{a11:Int}{a15:Int}(cnt:Nat) (Inv:T65){res:Z13}(hn:cnt≤500000000000)
 (hs:∀(rc:T51) (i:Nat) (a3:Y5),i<cnt→Inv i a3→(∀(a3':Y5),Inv (i+1) a3'→rc a0 a3' a4 a10 a11 a15 ((i+1:Nat):Int)=res)→wi7 rc (wev rec) a0 a3 a4 a10 a11 a15 (i:Int)=res)
 (he:∀(rc:T51) (a3:Y5),Inv cnt a3→wi7 rc (wev rec) a0 a3 a4 a10 a11 a15 (cnt:Int)=res)
 (i0:Nat) (hi:i0≤cnt) (a3:Y5) (h0:Inv i0 a3):wi5 big rec k a0 a3 a4 a10 a11 a15 (i0:Int)=res :=
 idxB (fun m i=>∀(a3:Y5),Inv i a3→wwi big (wev rec) m a0 a3 a4 a10 a11 a15 (i:Int)=res) (fun _ i hl ih a3 h=>hs _ i a3 hl h ih) (fun _ a3 h=>he _ a3 h) i0 hi hn a3 h0
theorem xl8 {a0:Y1}{a10:Int}(cnt:Nat) (Inv:T10){Q:Z10→Prop}(hn:cnt≤500000000000)
 (hs:∀(rc:T41) (i:Nat),i<cnt→Inv i→(Inv (i+1)→Q (rc a0 a10 ((i+1:Nat):Int)))→Q (we0 (wi8 big rc y9) y9 a0 a10 (i:Int)))
 (he:∀(rc:T41),Inv cnt→Q (we0 (wi8 big rc y9) y9 a0 a10 (cnt:Int)))
 (i0:Nat) (hi:i0≤cnt) (h0:Inv i0):Q (wwj big a0 a10 (i0:Int)) :=
 idxB (fun m i=>Inv i→Q (wwk big y9 m a0 a10 (i:Int))) (fun _ i hl ih h=>hs _ i hl h ih) (fun _ h=>he _ h) i0 hi hn h0
theorem xl9 {rec:T41}{k:Z10}{a0:Y1}{a3:Int}{a10:Int}{a11:Int}{a18:Int}(cnt:Nat) (Inv:T10){Q:Z10→Prop}(hn:cnt≤500000000000)
 (hs:∀(rc:T16) (i:Nat),i<cnt→Inv i→(Inv (i+1)→Q (rc a0 a3 a10 a11 a18 ((i+1:Nat):Int)))→Q (we1 (wi9 big rc (za rec)) (za rec) a0 a3 a10 a11 a18 (i:Int)))
 (he:∀(rc:T16),Inv cnt→Q (we1 (wi9 big rc (za rec)) (za rec) a0 a3 a10 a11 a18 (cnt:Int)))
 (i0:Nat) (hi:i0≤cnt) (h0:Inv i0):Q (wi8 big rec k a0 a3 a10 a11 a18 (i0:Int)) :=
 idxB (fun m i=>Inv i→Q (wwl big (za rec) m a0 a3 a10 a11 a18 (i:Int))) (fun _ i hl ih h=>hs _ i hl h ih) (fun _ h=>he _ h) i0 hi hn h0
theorem xma {rec:T16}{k:T41}{a0:Y1}{a3:Int}{a4:Int}{a10:Int}{a11:Int}{a18:Int}{a19:Int}{a26:Int}(cnt:Nat) (Inv:T10){Q:Z10→Prop}(hn:cnt≤500000000000)
 (hs:∀(rc:T31) (i:Nat),i<cnt→Inv i→(Inv (i+1)→Q (rc a0 a3 a4 a10 a11 a18 a19 a26 ((i+1:Nat):Int)))→Q (wjb rc (wez rec) a0 a3 a4 a10 a11 a18 a19 a26 (i:Int)))
 (he:∀(rc:T31),Inv cnt→Q (wjb rc (wez rec) a0 a3 a4 a10 a11 a18 a19 a26 (cnt:Int)))
 (i0:Nat) (hi:i0≤cnt) (h0:Inv i0):Q (wi9 big rec k a0 a3 a4 a10 a11 a18 a19 a26 (i0:Int)) :=
 idxB (fun m i=>Inv i→Q (wwm big (wez rec) m a0 a3 a4 a10 a11 a18 a19 a26 (i:Int))) (fun _ i hl ih h=>hs _ i hl h ih) (fun _ h=>he _ h) i0 hi hn h0
theorem xmb {a0:Y1}{a9:Int}(cnt:Nat) (Inv:T101){res:Z7}(hn:cnt≤500000000000)
 (hs:∀(rc:T40) (i:Nat) (a3:Int),i<cnt→Inv i a3→(∀(a3':Int),Inv (i+1) a3'→rc a0 a3' a9 ((i+1:Nat):Int)=res)→wjd rc we2 a0 a3 a9 (i:Int)=res)
 (he:∀(rc:T40) (a3:Int),Inv cnt a3→wjd rc we2 a0 a3 a9 (cnt:Int)=res)
 (i0:Nat) (hi:i0≤cnt) (a3:Int) (h0:Inv i0 a3):wwn big a0 a3 a9 (i0:Int)=res :=
 idxB (fun m i=>∀(a3:Int),Inv i a3→wwo big we2 m a0 a3 a9 (i:Int)=res) (fun _ i hl ih a3 h=>hs _ i a3 hl h ih) (fun _ a3 h=>he _ a3 h) i0 hi hn a3 h0
theorem xmc {a0:Y1}{a9:Int}(cnt:Nat) (Inv:T101){res:Z7}(hn:cnt≤500000000000)
 (hs:∀(rc:T40) (i:Nat) (a3:Int),i<cnt→Inv i a3→(∀(a3':Int),Inv (i+1) a3'→rc a0 a3' a9 ((i+1:Nat):Int)=res)→wjf rc we3 a0 a3 a9 (i:Int)=res)
 (he:∀(rc:T40) (a3:Int),Inv cnt a3→wjf rc we3 a0 a3 a9 (cnt:Int)=res)
 (i0:Nat) (hi:i0≤cnt) (a3:Int) (h0:Inv i0 a3):wwp big a0 a3 a9 (i0:Int)=res :=
 idxB (fun m i=>∀(a3:Int),Inv i a3→wwq big we3 m a0 a3 a9 (i:Int)=res) (fun _ i hl ih a3 h=>hs _ i a3 hl h ih) (fun _ a3 h=>he _ a3 h) i0 hi hn a3 h0
theorem xmd {a1:(Y1×(Int×Z16))}{a9:Int}(cnt:Nat) (Inv:T3){res:Z3}(hn:cnt≤500000000000)
 (hs:∀(rc:(Y1×(Int×Z16))→Y4→Int→Int→Z3) (i:Nat) (a5:Y4),i<cnt→Inv i a5→(∀(a5':Y4),Inv (i+1) a5'→rc a1 a5' a9 ((i+1:Nat):Int)=res)→wjh rc we4 a1 a5 a9 (i:Int)=res)
 (he:∀(rc:(Y1×(Int×Z16))→Y4→Int→Int→Z3) (a5:Y4),Inv cnt a5→wjh rc we4 a1 a5 a9 (cnt:Int)=res)
 (i0:Nat) (hi:i0≤cnt) (a5:Y4) (h0:Inv i0 a5):wwr big a1 a5 a9 (i0:Int)=res :=
 idxB (fun m i=>∀(a5:Y4),Inv i a5→wws big we4 m a1 a5 a9 (i:Int)=res) (fun _ i hl ih a5 h=>hs _ i a5 hl h ih) (fun _ a5 h=>he _ a5 h) i0 hi hn a5 h0
theorem xmf {a1:(Y1×Unit)}{a9:Int}(cnt:Nat) (Inv:T3){res:Z3}(hn:cnt≤500000000000)
 (hs:∀(rc:T76) (i:Nat) (a5:Y4),i<cnt→Inv i a5→(∀(a5':Y4),Inv (i+1) a5'→rc a1 a5' a9 ((i+1:Nat):Int)=res)→wjj rc we5 a1 a5 a9 (i:Int)=res)
 (he:∀(rc:T76) (a5:Y4),Inv cnt a5→wjj rc we5 a1 a5 a9 (cnt:Int)=res)
 (i0:Nat) (hi:i0≤cnt) (a5:Y4) (h0:Inv i0 a5):wwt big a1 a5 a9 (i0:Int)=res :=
 idxB (fun m i=>∀(a5:Y4),Inv i a5→wwu big we5 m a1 a5 a9 (i:Int)=res) (fun _ i hl ih a5 h=>hs _ i a5 hl h ih) (fun _ a5 h=>he _ a5 h) i0 hi hn a5 h0
theorem xmg {a0:Y5}{a1:Int}{a2:Int}{a14:Int}(cnt:Nat) (Inv:T10){res:Option Z1}(hn:cnt≤500000000000)
 (hs:∀(rc:Y5→Int→Int→Int→Int→Option Z1) (i:Nat),i<cnt→Inv i→(Inv (i+1)→rc a0 a1 a2 a14 ((i+1:Nat):Int)=res)→wjl rc we6 a0 a1 a2 a14 (i:Int)=res)
 (he:∀(rc:Y5→Int→Int→Int→Int→Option Z1),Inv cnt→wjl rc we6 a0 a1 a2 a14 (cnt:Int)=res)
 (i0:Nat) (hi:i0≤cnt) (h0:Inv i0):wwv big a0 a1 a2 a14 (i0:Int)=res :=
 idxB (fun m i=>Inv i→www big we6 m a0 a1 a2 a14 (i:Int)=res) (fun _ i hl ih h=>hs _ i hl h ih) (fun _ h=>he _ h) i0 hi hn h0
theorem xmh {a1:(Y5×(Int×Unit))}{a9:Int}(cnt:Nat) (Inv:T3){res:Z3}(hn:cnt≤500000000000)
 (hs:∀(rc:(Y5×(Int×Unit))→Y4→Int→Int→Z3) (i:Nat) (a5:Y4),i<cnt→Inv i a5→(∀(a5':Y4),Inv (i+1) a5'→rc a1 a5' a9 ((i+1:Nat):Int)=res)→wjn rc we7 a1 a5 a9 (i:Int)=res)
 (he:∀(rc:(Y5×(Int×Unit))→Y4→Int→Int→Z3) (a5:Y4),Inv cnt a5→wjn rc we7 a1 a5 a9 (cnt:Int)=res)
 (i0:Nat) (hi:i0≤cnt) (a5:Y4) (h0:Inv i0 a5):wwx big a1 a5 a9 (i0:Int)=res :=
 idxB (fun m i=>∀(a5:Y4),Inv i a5→wwy big we7 m a1 a5 a9 (i:Int)=res) (fun _ i hl ih a5 h=>hs _ i a5 hl h ih) (fun _ a5 h=>he _ a5 h) i0 hi hn a5 h0
theorem xmi {a0:Y1}{a10:Y4}{a11:Int}(cnt:Nat) (Inv:T101){res:Z7}(hn:cnt≤500000000000)
 (hs:∀(rc:T81) (i:Nat) (a5:Int),i<cnt→Inv i a5→(∀(a5':Int),Inv (i+1) a5'→rc a0 a5' a10 a11 ((i+1:Nat):Int)=res)→wjp rc we8 a0 a5 a10 a11 (i:Int)=res)
 (he:∀(rc:T81) (a5:Int),Inv cnt a5→wjp rc we8 a0 a5 a10 a11 (cnt:Int)=res)
 (i0:Nat) (hi:i0≤cnt) (a5:Int) (h0:Inv i0 a5):wwz big a0 a5 a10 a11 (i0:Int)=res :=
 idxB (fun m i=>∀(a5:Int),Inv i a5→ww0 big we8 m a0 a5 a10 a11 (i:Int)=res) (fun _ i hl ih a5 h=>hs _ i a5 hl h ih) (fun _ a5 h=>he _ a5 h) i0 hi hn a5 h0
theorem xmj {a2:Y4}{a8:Y1}{a9:Y1}{a11:Y4}{a12:Y4}{a53:Int}(cnt:Nat) (Inv:T3){res:Z2}(hn:cnt≤500000000000)
 (hs:∀(rc:T20) (i:Nat) (a13:Y4),i<cnt→Inv i a13→(∀(a13':Y4),Inv (i+1) a13'→rc a2 a8 a9 a11 a12 a13' a53 ((i+1:Nat):Int)=res)→wfd (wfa big rc zb) zb a2 a8 a9 a11 a12 a13 a53 (i:Int)=res)
 (he:∀(rc:T20) (a13:Y4),Inv cnt a13→wfd (wfa big rc zb) zb a2 a8 a9 a11 a12 a13 a53 (cnt:Int)=res)
 (i0:Nat) (hi:i0≤cnt) (a13:Y4) (h0:Inv i0 a13):wpb big a2 a8 a9 a11 a12 a13 a53 (i0:Int)=res :=
 idxB (fun m i=>∀(a13:Y4),Inv i a13→ww1 big zb m a2 a8 a9 a11 a12 a13 a53 (i:Int)=res) (fun _ i hl ih a13 h=>hs _ i a13 hl h ih) (fun _ a13 h=>he _ a13 h) i0 hi hn a13 h0
theorem xji {rec:T20}{k:T75}{a2:Y4}{a8:Y1}{a9:Y1}{a11:Y4}{a12:Y4}{a13:Y4}{a14:Int}{a53:Int}{a54:Int}{a59:Int}(cnt:Nat) (Inv:T3){res:Z2}(hn:cnt≤500000000000)
 (hs:∀(rc:T18) (i:Nat) (a15:Y4),i<cnt→Inv i a15→(∀(a15':Y4),Inv (i+1) a15'→rc a2 a8 a9 a11 a12 a13 a14 a15' a53 a54 a59 ((i+1:Nat):Int)=res)→wfc rc (wan rec) a2 a8 a9 a11 a12 a13 a14 a15 a53 a54 a59 (i:Int)=res)
 (he:∀(rc:T18) (a15:Y4),Inv cnt a15→wfc rc (wan rec) a2 a8 a9 a11 a12 a13 a14 a15 a53 a54 a59 (cnt:Int)=res)
 (i0:Nat) (hi:i0≤cnt) (a15:Y4) (h0:Inv i0 a15):wfa big rec k a2 a8 a9 a11 a12 a13 a14 a15 a53 a54 a59 (i0:Int)=res :=
 idxB (fun m i=>∀(a15:Y4),Inv i a15→wsi big (wan rec) m a2 a8 a9 a11 a12 a13 a14 a15 a53 a54 a59 (i:Int)=res) (fun _ i hl ih a15 h=>hs _ i a15 hl h ih) (fun _ a15 h=>he _ a15 h) i0 hi hn a15 h0
theorem xmk {a2:Y4}{a3:Y2}{a4:Y2}{a9:Y4}{a10:Y4}(cnt:Nat) (Inv:T3){res:Z2}(hn:cnt≤500000000000)
 (hs:∀(rc:T0) (i:Nat) (a8:Y4),i<cnt→Inv i a8→(∀(a8':Y4),Inv (i+1) a8'→rc a2 a3 a4 a8' a9 a10 ((i+1:Nat):Int)=res)→wfi (wff big rc zd) zd a2 a3 a4 a8 a9 a10 (i:Int)=res)
 (he:∀(rc:T0) (a8:Y4),Inv cnt a8→wfi (wff big rc zd) zd a2 a3 a4 a8 a9 a10 (cnt:Int)=res)
 (i0:Nat) (hi:i0≤cnt) (a8:Y4) (h0:Inv i0 a8):wpf big a2 a3 a4 a8 a9 a10 (i0:Int)=res :=
 idxB (fun m i=>∀(a8:Y4),Inv i a8→ww2 big zd m a2 a3 a4 a8 a9 a10 (i:Int)=res) (fun _ i hl ih a8 h=>hs _ i a8 hl h ih) (fun _ a8 h=>he _ a8 h) i0 hi hn a8 h0
theorem xjk {rec:T0}{k:T75}{a2:Y4}{a3:Y2}{a4:Y2}{a8:Y4}{a9:Y4}{a10:Y4}{a11:Int}(cnt:Nat) (Inv:T101){res:Z2}(hn:cnt≤500000000000)
 (hs:∀(rc:T4) (i:Nat) (a12:Int),i<cnt→Inv i a12→(∀(a12':Int),Inv (i+1) a12'→rc a2 a3 a4 a8 a9 a10 a11 a12' ((i+1:Nat):Int)=res)→wfh rc (wao rec) a2 a3 a4 a8 a9 a10 a11 a12 (i:Int)=res)
 (he:∀(rc:T4) (a12:Int),Inv cnt a12→wfh rc (wao rec) a2 a3 a4 a8 a9 a10 a11 a12 (cnt:Int)=res)
 (i0:Nat) (hi:i0≤cnt) (a12:Int) (h0:Inv i0 a12):wff big rec k a2 a3 a4 a8 a9 a10 a11 a12 (i0:Int)=res :=
 idxB (fun m i=>∀(a12:Int),Inv i a12→wsj big (wao rec) m a2 a3 a4 a8 a9 a10 a11 a12 (i:Int)=res) (fun _ i hl ih a12 h=>hs _ i a12 hl h ih) (fun _ a12 h=>he _ a12 h) i0 hi hn a12 h0
theorem xml {a0:Y4}{a1:Y4}(cnt:Nat) (Inv:T10){res:Option Z1}(hn:cnt≤500000000000)
 (hs:∀(rc:Y4→Y4→Int→Option Z1) (i:Nat),i<cnt→Inv i→(Inv (i+1)→rc a0 a1 ((i+1:Nat):Int)=res)→wjr rc wfj a0 a1 (i:Int)=res)
 (he:∀(rc:Y4→Y4→Int→Option Z1),Inv cnt→wjr rc wfj a0 a1 (cnt:Int)=res)
 (i0:Nat) (hi:i0≤cnt) (h0:Inv i0):ww3 big a0 a1 (i0:Int)=res :=
 idxB (fun m i=>Inv i→ww4 big wfj m a0 a1 (i:Int)=res) (fun _ i hl ih h=>hs _ i hl h ih) (fun _ h=>he _ h) i0 hi hn h0
theorem xmm {a0:Y1}{a1:Y1}{a2:Y4}{a47:Int}(cnt:Nat) (Inv:T10){res:Option Z1}(hn:cnt≤500000000000)
 (hs:∀(rc:Y1→Y1→Y4→Int→Int→Option Z1) (i:Nat),i<cnt→Inv i→(Inv (i+1)→rc a0 a1 a2 a47 ((i+1:Nat):Int)=res)→wfm (wjs big rc ze) ze a0 a1 a2 a47 (i:Int)=res)
 (he:∀(rc:Y1→Y1→Y4→Int→Int→Option Z1),Inv cnt→wfm (wjs big rc ze) ze a0 a1 a2 a47 (cnt:Int)=res)
 (i0:Nat) (hi:i0≤cnt) (h0:Inv i0):ww5 big a0 a1 a2 a47 (i0:Int)=res :=
 idxB (fun m i=>Inv i→ww6 big ze m a0 a1 a2 a47 (i:Int)=res) (fun _ i hl ih h=>hs _ i hl h ih) (fun _ h=>he _ h) i0 hi hn h0
theorem xmn {rec:Y1→Y1→Y4→Int→Int→Option Z1}{k:Option Z1}{a0:Y1}{a1:Y1}{a2:Y4}{a7:Int}{a47:Int}{a48:Int}{a52:Int}(cnt:Nat) (Inv:T10){res:Option Z1}(hn:cnt≤500000000000)
 (hs:∀(rc:Y1→Y1→Y4→Int→Int→Int→Int→Int→Option Z1) (i:Nat),i<cnt→Inv i→(Inv (i+1)→rc a0 a1 a2 a7 a47 a48 a52 ((i+1:Nat):Int)=res)→wju rc (wfl rec) a0 a1 a2 a7 a47 a48 a52 (i:Int)=res)
 (he:∀(rc:Y1→Y1→Y4→Int→Int→Int→Int→Int→Option Z1),Inv cnt→wju rc (wfl rec) a0 a1 a2 a7 a47 a48 a52 (cnt:Int)=res)
 (i0:Nat) (hi:i0≤cnt) (h0:Inv i0):wjs big rec k a0 a1 a2 a7 a47 a48 a52 (i0:Int)=res :=
 idxB (fun m i=>Inv i→ww7 big (wfl rec) m a0 a1 a2 a7 a47 a48 a52 (i:Int)=res) (fun _ i hl ih h=>hs _ i hl h ih) (fun _ h=>he _ h) i0 hi hn h0
theorem xmp {a2:Y4}{a8:Y1}{a9:Y1}{a35:Y4}{a36:Int}(cnt:Nat) (Inv:T3){res:Z2}(hn:cnt≤500000000000)
 (hs:∀(rc:T14) (i:Nat) (a11:Y4),i<cnt→Inv i a11→(∀(a11':Y4),Inv (i+1) a11'→rc a2 a8 a9 a11' a35 a36 ((i+1:Nat):Int)=res)→wfp (wjv big rc zf) zf a2 a8 a9 a11 a35 a36 (i:Int)=res)
 (he:∀(rc:T14) (a11:Y4),Inv cnt a11→wfp (wjv big rc zf) zf a2 a8 a9 a11 a35 a36 (cnt:Int)=res)
 (i0:Nat) (hi:i0≤cnt) (a11:Y4) (h0:Inv i0 a11):wpn big a2 a8 a9 a11 a35 a36 (i0:Int)=res :=
 idxB (fun m i=>∀(a11:Y4),Inv i a11→ww8 big zf m a2 a8 a9 a11 a35 a36 (i:Int)=res) (fun _ i hl ih a11 h=>hs _ i a11 hl h ih) (fun _ a11 h=>he _ a11 h) i0 hi hn a11 h0
theorem xmq {rec:T14}{k:T75}{a2:Y4}{a8:Y1}{a9:Y1}{a11:Y4}{a13:Int}{a35:Y4}{a36:Int}{a37:Int}{a42:Y4}{a43:Int}(cnt:Nat) (Inv:T10){res:Z2}(hn:cnt≤500000000000)
 (hs:∀(rc:T23) (i:Nat),i<cnt→Inv i→(Inv (i+1)→rc a2 a8 a9 a11 a13 a35 a36 a37 a42 a43 ((i+1:Nat):Int)=res)→wpr (wfo rec) rc a2 a8 a9 a11 a13 a35 a36 a37 a42 a43 (i:Int)=res)
 (he:∀(rc:T23),Inv cnt→wpr (wfo rec) rc a2 a8 a9 a11 a13 a35 a36 a37 a42 a43 (cnt:Int)=res)
 (i0:Nat) (hi:i0≤cnt) (h0:Inv i0):wjv big rec k a2 a8 a9 a11 a13 a35 a36 a37 a42 a43 (i0:Int)=res :=
 idxB (fun m i=>Inv i→ww9 big (wfo rec) m a2 a8 a9 a11 a13 a35 a36 a37 a42 a43 (i:Int)=res) (fun _ i hl ih h=>hs _ i hl h ih) (fun _ h=>he _ h) i0 hi hn h0
theorem xmr {a1:Y2}(cnt:Nat) (Inv:T3){res:Z3}(hn:cnt≤500000000000)
 (hs:∀(rc:T22) (i:Nat) (a3:Y4),i<cnt→Inv i a3→(∀(a3':Y4),Inv (i+1) a3'→rc a1 a3' ((i+1:Nat):Int)=res)→wfs (wjx big rc zg) zg a1 a3 (i:Int)=res)
 (he:∀(rc:T22) (a3:Y4),Inv cnt a3→wfs (wjx big rc zg) zg a1 a3 (cnt:Int)=res)
 (i0:Nat) (hi:i0≤cnt) (a3:Y4) (h0:Inv i0 a3):wxa big a1 a3 (i0:Int)=res :=
 idxB (fun m i=>∀(a3:Y4),Inv i a3→wxb big zg m a1 a3 (i:Int)=res) (fun _ i hl ih a3 h=>hs _ i a3 hl h ih) (fun _ a3 h=>he _ a3 h) i0 hi hn a3 h0
theorem xms {rec:T22}{k:T35}{a1:Y2}{a3:Y4}{a4:Int}(cnt:Nat) (Inv:T101){res:Z3}(hn:cnt≤500000000000)
 (hs:∀(rc:T82) (i:Nat) (a5:Int),i<cnt→Inv i a5→(∀(a5':Int),Inv (i+1) a5'→rc a1 a3 a4 a5' ((i+1:Nat):Int)=res)→wjz rc (wfr rec) a1 a3 a4 a5 (i:Int)=res)
 (he:∀(rc:T82) (a5:Int),Inv cnt a5→wjz rc (wfr rec) a1 a3 a4 a5 (cnt:Int)=res)
 (i0:Nat) (hi:i0≤cnt) (a5:Int) (h0:Inv i0 a5):wjx big rec k a1 a3 a4 a5 (i0:Int)=res :=
 idxB (fun m i=>∀(a5:Int),Inv i a5→wxc big (wfr rec) m a1 a3 a4 a5 (i:Int)=res) (fun _ i hl ih a5 h=>hs _ i a5 hl h ih) (fun _ a5 h=>he _ a5 h) i0 hi hn a5 h0
theorem xmt {a1:Y2}{a2:Y2}{a3:Y4}(cnt:Nat) (Inv:Nat→Y2→Prop){res:Z4}(hn:cnt≤500000000000)
 (hs:∀(rc:T52) (i:Nat) (a4:Y2),i<cnt→Inv i a4→(∀(a4':Y2),Inv (i+1) a4'→rc a1 a2 a3 a4' ((i+1:Nat):Int)=res)→wfv (wj0 big rc zh) zh a1 a2 a3 a4 (i:Int)=res)
 (he:∀(rc:T52) (a4:Y2),Inv cnt a4→wfv (wj0 big rc zh) zh a1 a2 a3 a4 (cnt:Int)=res)
 (i0:Nat) (hi:i0≤cnt) (a4:Y2) (h0:Inv i0 a4):wpw big a1 a2 a3 a4 (i0:Int)=res :=
 idxB (fun m i=>∀(a4:Y2),Inv i a4→wxd big zh m a1 a2 a3 a4 (i:Int)=res) (fun _ i hl ih a4 h=>hs _ i a4 hl h ih) (fun _ a4 h=>he _ a4 h) i0 hi hn a4 h0
theorem xmu {rec:T52}{k:T32}{a1:Y2}{a2:Y2}{a3:Y4}{a4:Y2}{a5:Int}(cnt:Nat) (Inv:T3){res:Z4}(hn:cnt≤500000000000)
 (hs:∀(rc:T55) (i:Nat) (a6:Y4),i<cnt→Inv i a6→(∀(a6':Y4),Inv (i+1) a6'→rc a1 a2 a3 a4 a5 a6' ((i+1:Nat):Int)=res)→wj2 rc (wfu rec) a1 a2 a3 a4 a5 a6 (i:Int)=res)
 (he:∀(rc:T55) (a6:Y4),Inv cnt a6→wj2 rc (wfu rec) a1 a2 a3 a4 a5 a6 (cnt:Int)=res)
 (i0:Nat) (hi:i0≤cnt) (a6:Y4) (h0:Inv i0 a6):wj0 big rec k a1 a2 a3 a4 a5 a6 (i0:Int)=res :=
 idxB (fun m i=>∀(a6:Y4),Inv i a6→wxe big (wfu rec) m a1 a2 a3 a4 a5 a6 (i:Int)=res) (fun _ i hl ih a6 h=>hs _ i a6 hl h ih) (fun _ a6 h=>he _ a6 h) i0 hi hn a6 h0
theorem xmv {a5:Y2}{a8:Int}{a9:Y2}(cnt:Nat) (Inv:T105){Q:Z6→Prop}(hn:cnt≤500000000000)
 (hs:∀(rc:T73) (i:Nat) (a0:Z0) (a7:Y4),i<cnt→Inv i a0 a7→(∀(a0':Z0) (a7':Y4),Inv (i+1) a0' a7'→Q (rc a0' a5 a7' a8 a9 ((i+1:Nat):Int)))→Q (wj4 rc (wfz (war big)) a0 a5 a7 a8 a9 (i:Int)))
 (he:∀(rc:T73) (a0:Z0) (a7:Y4),Inv cnt a0 a7→Q (wj4 rc (wfz (war big)) a0 a5 a7 a8 a9 (cnt:Int)))
 (i0:Nat) (hi:i0≤cnt) (a0:Z0) (a7:Y4) (h0:Inv i0 a0 a7):Q (wp0 big a0 a5 a7 a8 a9 (i0:Int)) :=
 idxB (fun m i=>∀(a0:Z0) (a7:Y4),Inv i a0 a7→Q (wxf big (wfz (war big)) m a0 a5 a7 a8 a9 (i:Int))) (fun _ i hl ih a0 a7 h=>hs _ i a0 a7 hl h ih) (fun _ a0 a7 h=>he _ a0 a7 h) i0 hi hn a0 a7 h0
theorem xjw {a0:Z0}{a8:Int}{a9:Y2}{a11:Y2}(cnt:Nat) (Inv:T3){Q:Z6→Prop}(hn:cnt≤500000000000)
 (hs:∀(rc:T8) (i:Nat) (a7:Y4),i<cnt→Inv i a7→(∀(a7':Y4),Inv (i+1) a7'→Q (rc a0 a7' a8 a9 a11 ((i+1:Nat):Int)))→Q (wat (wfw big rc xt) xt a0 a7 a8 a9 a11 (i:Int)))
 (he:∀(rc:T8) (a7:Y4),Inv cnt a7→Q (wat (wfw big rc xt) xt a0 a7 a8 a9 a11 (cnt:Int)))
 (i0:Nat) (hi:i0≤cnt) (a7:Y4) (h0:Inv i0 a7):Q (war big a0 a7 a8 a9 a11 (i0:Int)) :=
 idxB (fun m i=>∀(a7:Y4),Inv i a7→Q (wsk big xt m a0 a7 a8 a9 a11 (i:Int))) (fun _ i hl ih a7 h=>hs _ i a7 hl h ih) (fun _ a7 h=>he _ a7 h) i0 hi hn a7 h0
theorem xjx {rec:T8}{k:T111}{a0:Z0}{a8:Int}{a9:Y2}{a11:Y2}{a12:Int}(cnt:Nat) (Inv:T3){Q:Z6→Prop}(hn:cnt≤500000000000)
 (hs:∀(rc:T12) (i:Nat) (a7:Y4),i<cnt→Inv i a7→(∀(a7':Y4),Inv (i+1) a7'→Q (rc a0 a7' a8 a9 a11 a12 ((i+1:Nat):Int)))→Q (wau (wfx big rc (xu rec)) (xu rec) a0 a7 a8 a9 a11 a12 (i:Int)))
 (he:∀(rc:T12) (a7:Y4),Inv cnt a7→Q (wau (wfx big rc (xu rec)) (xu rec) a0 a7 a8 a9 a11 a12 (cnt:Int)))
 (i0:Nat) (hi:i0≤cnt) (a7:Y4) (h0:Inv i0 a7):Q (wfw big rec k a0 a7 a8 a9 a11 a12 (i0:Int)) :=
 idxB (fun m i=>∀(a7:Y4),Inv i a7→Q (wsl big (xu rec) m a0 a7 a8 a9 a11 a12 (i:Int))) (fun _ i hl ih a7 h=>hs _ i a7 hl h ih) (fun _ a7 h=>he _ a7 h) i0 hi hn a7 h0
theorem xjy {rec:T12}{k:T8}{a0:Z0}{a8:Int}{a9:Y2}{a11:Y2}{a12:Int}{a13:Int}(cnt:Nat) (Inv:T3){Q:Z6→Prop}(hn:cnt≤500000000000)
 (hs:∀(rc:T44) (i:Nat) (a7:Y4),i<cnt→Inv i a7→(∀(a7':Y4),Inv (i+1) a7'→Q (rc a0 a7' a8 a9 a11 a12 a13 ((i+1:Nat):Int)))→Q (wf0 rc (was rec) a0 a7 a8 a9 a11 a12 a13 (i:Int)))
 (he:∀(rc:T44) (a7:Y4),Inv cnt a7→Q (wf0 rc (was rec) a0 a7 a8 a9 a11 a12 a13 (cnt:Int)))
 (i0:Nat) (hi:i0≤cnt) (a7:Y4) (h0:Inv i0 a7):Q (wfx big rec k a0 a7 a8 a9 a11 a12 a13 (i0:Int)) :=
 idxB (fun m i=>∀(a7:Y4),Inv i a7→Q (wsm big (was rec) m a0 a7 a8 a9 a11 a12 a13 (i:Int))) (fun _ i hl ih a7 h=>hs _ i a7 hl h ih) (fun _ a7 h=>he _ a7 h) i0 hi hn a7 h0
theorem xmw {a2:Y4}{a7:Y2}{a8:Y2}(cnt:Nat) (Inv:T10){Q:Option Z1→Prop}(hn:cnt≤500000000000)
 (hs:∀(rc:Y4→Y2→Y2→Int→Option Z1) (i:Nat),i<cnt→Inv i→(Inv (i+1)→Q (rc a2 a7 a8 ((i+1:Nat):Int)))→Q (wf3 (wj5 big rc wbu) wbu a2 a7 a8 (i:Int)))
 (he:∀(rc:Y4→Y2→Y2→Int→Option Z1),Inv cnt→Q (wf3 (wj5 big rc wbu) wbu a2 a7 a8 (cnt:Int)))
 (i0:Nat) (hi:i0≤cnt) (h0:Inv i0):Q (wp2 big a2 a7 a8 (i0:Int)) :=
 idxB (fun m i=>Inv i→Q (wxg big wbu m a2 a7 a8 (i:Int))) (fun _ i hl ih h=>hs _ i hl h ih) (fun _ h=>he _ h) i0 hi hn h0
theorem xmx {rec:Y4→Y2→Y2→Int→Option Z1}{k:Option Z1}{a2:Y4}{a7:Y2}{a8:Y2}{a9:Int}(cnt:Nat) (Inv:T10){Q:Option Z1→Prop}(hn:cnt≤500000000000)
 (hs:∀(rc:Y4→Y2→Y2→Int→Int→Option Z1) (i:Nat),i<cnt→Inv i→(Inv (i+1)→Q (rc a2 a7 a8 a9 ((i+1:Nat):Int)))→Q (wj7 rc (wf2 rec) a2 a7 a8 a9 (i:Int)))
 (he:∀(rc:Y4→Y2→Y2→Int→Int→Option Z1),Inv cnt→Q (wj7 rc (wf2 rec) a2 a7 a8 a9 (cnt:Int)))
 (i0:Nat) (hi:i0≤cnt) (h0:Inv i0):Q (wj5 big rec k a2 a7 a8 a9 (i0:Int)) :=
 idxB (fun m i=>Inv i→Q (wxh big (wf2 rec) m a2 a7 a8 a9 (i:Int))) (fun _ i hl ih h=>hs _ i hl h ih) (fun _ h=>he _ h) i0 hi hn h0
theorem xmy {a2:Y4}{a3:Y2}{a4:Y2}{a9:Y4}{a10:Y4}(cnt:Nat) (Inv:T3){Q:Z2→Prop}(hn:cnt≤500000000000)
 (hs:∀(rc:T0) (i:Nat) (a8:Y4),i<cnt→Inv i a8→(∀(a8':Y4),Inv (i+1) a8'→Q (rc a2 a3 a4 a8' a9 a10 ((i+1:Nat):Int)))→Q (wf8 (wf5 big rc wbw) wbw a2 a3 a4 a8 a9 a10 (i:Int)))
 (he:∀(rc:T0) (a8:Y4),Inv cnt a8→Q (wf8 (wf5 big rc wbw) wbw a2 a3 a4 a8 a9 a10 (cnt:Int)))
 (i0:Nat) (hi:i0≤cnt) (a8:Y4) (h0:Inv i0 a8):Q (wp6 big a2 a3 a4 a8 a9 a10 (i0:Int)) :=
 idxB (fun m i=>∀(a8:Y4),Inv i a8→Q (wxi big wbw m a2 a3 a4 a8 a9 a10 (i:Int))) (fun _ i hl ih a8 h=>hs _ i a8 hl h ih) (fun _ a8 h=>he _ a8 h) i0 hi hn a8 h0
theorem xj2 {rec:T0}{k:T75}{a2:Y4}{a3:Y2}{a4:Y2}{a8:Y4}{a9:Y4}{a10:Y4}{a11:Int}(cnt:Nat) (Inv:T101){Q:Z2→Prop}(hn:cnt≤500000000000)
 (hs:∀(rc:T4) (i:Nat) (a12:Int),i<cnt→Inv i a12→(∀(a12':Int),Inv (i+1) a12'→Q (rc a2 a3 a4 a8 a9 a10 a11 a12' ((i+1:Nat):Int)))→Q (wf7 rc (wav rec) a2 a3 a4 a8 a9 a10 a11 a12 (i:Int)))
 (he:∀(rc:T4) (a12:Int),Inv cnt a12→Q (wf7 rc (wav rec) a2 a3 a4 a8 a9 a10 a11 a12 (cnt:Int)))
 (i0:Nat) (hi:i0≤cnt) (a12:Int) (h0:Inv i0 a12):Q (wf5 big rec k a2 a3 a4 a8 a9 a10 a11 a12 (i0:Int)) :=
 idxB (fun m i=>∀(a12:Int),Inv i a12→Q (wsn big (wav rec) m a2 a3 a4 a8 a9 a10 a11 a12 (i:Int))) (fun _ i hl ih a12 h=>hs _ i a12 hl h ih) (fun _ a12 h=>he _ a12 h) i0 hi hn a12 h0
theorem xmz {a4:Y2}{a5:Y2}(cnt:Nat) (Inv:T105){Q:Z6→Prop}(hn:cnt≤500000000000)
 (hs:∀(rc:T64) (i:Nat) (a0:Z0) (a7:Y4),i<cnt→Inv i a0 a7→(∀(a0':Z0) (a7':Y4),Inv (i+1) a0' a7'→Q (rc a0' a4 a5 a7' ((i+1:Nat):Int)))→Q (wj9 rc (wj8 (waw big)) a0 a4 a5 a7 (i:Int)))
 (he:∀(rc:T64) (a0:Z0) (a7:Y4),Inv cnt a0 a7→Q (wj9 rc (wj8 (waw big)) a0 a4 a5 a7 (cnt:Int)))
 (i0:Nat) (hi:i0≤cnt) (a0:Z0) (a7:Y4) (h0:Inv i0 a0 a7):Q (xck big a0 a4 a5 a7 (i0:Int)) :=
 idxB (fun m i=>∀(a0:Z0) (a7:Y4),Inv i a0 a7→Q (wqa big (wj8 (waw big)) m a0 a4 a5 a7 (i:Int))) (fun _ i hl ih a0 a7 h=>hs _ i a0 a7 hl h ih) (fun _ a0 a7 h=>he _ a0 a7 h) i0 hi hn a0 a7 h0
theorem xj3 {a0:Z0}{a4:Y2}{a5:Y2}{a9:Int}{a10:Int}{a12:Int}(cnt:Nat) (Inv:T3){Q:Z6→Prop}(hn:cnt≤500000000000)
 (hs:∀(rc:T30) (i:Nat) (a7:Y4),i<cnt→Inv i a7→(∀(a7':Y4),Inv (i+1) a7'→Q (rc a0 a4 a5 a7' a9 a10 a12 ((i+1:Nat):Int)))→Q (wga rc wf9 a0 a4 a5 a7 a9 a10 a12 (i:Int)))
 (he:∀(rc:T30) (a7:Y4),Inv cnt a7→Q (wga rc wf9 a0 a4 a5 a7 a9 a10 a12 (cnt:Int)))
 (i0:Nat) (hi:i0≤cnt) (a7:Y4) (h0:Inv i0 a7):Q (waw big a0 a4 a5 a7 a9 a10 a12 (i0:Int)) :=
 idxB (fun m i=>∀(a7:Y4),Inv i a7→Q (wma big wf9 m a0 a4 a5 a7 a9 a10 a12 (i:Int))) (fun _ i hl ih a7 h=>hs _ i a7 hl h ih) (fun _ a7 h=>he _ a7 h) i0 hi hn a7 h0
theorem xm0 {a2:Y4}{a3:Y2}{a4:Y2}(cnt:Nat) (Inv:T10){res:Option Z1}(hn:cnt≤500000000000)
 (hs:∀(rc:Y4→Y2→Y2→Int→Option Z1) (i:Nat),i<cnt→Inv i→(Inv (i+1)→rc a2 a3 a4 ((i+1:Nat):Int)=res)→wgd (wkc big rc zj) zj a2 a3 a4 (i:Int)=res)
 (he:∀(rc:Y4→Y2→Y2→Int→Option Z1),Inv cnt→wgd (wkc big rc zj) zj a2 a3 a4 (cnt:Int)=res)
 (i0:Nat) (hi:i0≤cnt) (h0:Inv i0):wxp big a2 a3 a4 (i0:Int)=res :=
 idxB (fun m i=>Inv i→wxq big zj m a2 a3 a4 (i:Int)=res) (fun _ i hl ih h=>hs _ i hl h ih) (fun _ h=>he _ h) i0 hi hn h0
theorem xm1 {rec:Y4→Y2→Y2→Int→Option Z1}{k:Option Z1}{a2:Y4}{a3:Y2}{a4:Y2}{a7:Int}(cnt:Nat) (Inv:T10){res:Option Z1}(hn:cnt≤500000000000)
 (hs:∀(rc:Y4→Y2→Y2→Int→Int→Option Z1) (i:Nat),i<cnt→Inv i→(Inv (i+1)→rc a2 a3 a4 a7 ((i+1:Nat):Int)=res)→wke rc (wgc rec) a2 a3 a4 a7 (i:Int)=res)
 (he:∀(rc:Y4→Y2→Y2→Int→Int→Option Z1),Inv cnt→wke rc (wgc rec) a2 a3 a4 a7 (cnt:Int)=res)
 (i0:Nat) (hi:i0≤cnt) (h0:Inv i0):wkc big rec k a2 a3 a4 a7 (i0:Int)=res :=
 idxB (fun m i=>Inv i→wxr big (wgc rec) m a2 a3 a4 a7 (i:Int)=res) (fun _ i hl ih h=>hs _ i hl h ih) (fun _ h=>he _ h) i0 hi hn h0
theorem xm2 {a2:Y4}{a4:Y2}{a9:Y4}{a10:Y4}(cnt:Nat) (Inv:T3){res:Z2}(hn:cnt≤500000000000)
 (hs:∀(rc:T36) (i:Nat) (a8:Y4),i<cnt→Inv i a8→(∀(a8':Y4),Inv (i+1) a8'→rc a2 a4 a8' a9 a10 ((i+1:Nat):Int)=res)→wgg (wkf big rc zk) zk a2 a4 a8 a9 a10 (i:Int)=res)
 (he:∀(rc:T36) (a8:Y4),Inv cnt a8→wgg (wkf big rc zk) zk a2 a4 a8 a9 a10 (cnt:Int)=res)
 (i0:Nat) (hi:i0≤cnt) (a8:Y4) (h0:Inv i0 a8):wqf big a2 a4 a8 a9 a10 (i0:Int)=res :=
 idxB (fun m i=>∀(a8:Y4),Inv i a8→wxs big zk m a2 a4 a8 a9 a10 (i:Int)=res) (fun _ i hl ih a8 h=>hs _ i a8 hl h ih) (fun _ a8 h=>he _ a8 h) i0 hi hn a8 h0
theorem xm3 {rec:T36}{k:T75}{a2:Y4}{a4:Y2}{a8:Y4}{a9:Y4}{a10:Y4}{a11:Int}(cnt:Nat) (Inv:T10){res:Z2}(hn:cnt≤500000000000)
 (hs:∀(rc:T37) (i:Nat),i<cnt→Inv i→(Inv (i+1)→rc a2 a4 a8 a9 a10 a11 ((i+1:Nat):Int)=res)→wqj rc (wgf rec) a2 a4 a8 a9 a10 a11 (i:Int)=res)
 (he:∀(rc:T37),Inv cnt→wqj rc (wgf rec) a2 a4 a8 a9 a10 a11 (cnt:Int)=res)
 (i0:Nat) (hi:i0≤cnt) (h0:Inv i0):wkf big rec k a2 a4 a8 a9 a10 a11 (i0:Int)=res :=
 idxB (fun m i=>Inv i→wxt big (wgf rec) m a2 a4 a8 a9 a10 a11 (i:Int)=res) (fun _ i hl ih h=>hs _ i hl h ih) (fun _ h=>he _ h) i0 hi hn h0
theorem xm5 {a0:Y1}{a10:Int}(cnt:Nat) (Inv:T3){res:Z3}(hn:cnt≤500000000000)
 (hs:∀(rc:T94) (i:Nat) (a3:Y4),i<cnt→Inv i a3→(∀(a3':Y4),Inv (i+1) a3'→rc a0 a3' a10 ((i+1:Nat):Int)=res)→wki rc wgh a0 a3 a10 (i:Int)=res)
 (he:∀(rc:T94) (a3:Y4),Inv cnt a3→wki rc wgh a0 a3 a10 (cnt:Int)=res)
 (i0:Nat) (hi:i0≤cnt) (a3:Y4) (h0:Inv i0 a3):wxu big a0 a3 a10 (i0:Int)=res :=
 idxB (fun m i=>∀(a3:Y4),Inv i a3→wxv big wgh m a0 a3 a10 (i:Int)=res) (fun _ i hl ih a3 h=>hs _ i a3 hl h ih) (fun _ a3 h=>he _ a3 h) i0 hi hn a3 h0
theorem xm6 {a0:Int}(cnt:Nat) (Inv:T3){res:Z3}(hn:cnt≤500000000000)
 (hs:∀(rc:T57) (i:Nat) (a3:Y4),i<cnt→Inv i a3→(∀(a3':Y4),Inv (i+1) a3'→rc a0 a3' ((i+1:Nat):Int)=res)→wkk rc wgi a0 a3 (i:Int)=res)
 (he:∀(rc:T57) (a3:Y4),Inv cnt a3→wkk rc wgi a0 a3 (cnt:Int)=res)
 (i0:Nat) (hi:i0≤cnt) (a3:Y4) (h0:Inv i0 a3):wxw big a0 a3 (i0:Int)=res :=
 idxB (fun m i=>∀(a3:Y4),Inv i a3→wxx big wgi m a0 a3 (i:Int)=res) (fun _ i hl ih a3 h=>hs _ i a3 hl h ih) (fun _ a3 h=>he _ a3 h) i0 hi hn a3 h0
theorem xm7 {a10:Y4}{a11:Int}(cnt:Nat) (Inv:Nat→Z12→Prop){res:Option (Z12×Unit)}(hn:cnt≤500000000000)
 (hs:∀(rc:Z12→Y4→Int→Int→Option (Z12×Unit)) (i:Nat) (a5:Z12),i<cnt→Inv i a5→(∀(a5':Z12),Inv (i+1) a5'→rc a5' a10 a11 ((i+1:Nat):Int)=res)→wkm rc wgj a5 a10 a11 (i:Int)=res)
 (he:∀(rc:Z12→Y4→Int→Int→Option (Z12×Unit)) (a5:Z12),Inv cnt a5→wkm rc wgj a5 a10 a11 (cnt:Int)=res)
 (i0:Nat) (hi:i0≤cnt) (a5:Z12) (h0:Inv i0 a5):wxy big a5 a10 a11 (i0:Int)=res :=
 idxB (fun m i=>∀(a5:Z12),Inv i a5→wxz big wgj m a5 a10 a11 (i:Int)=res) (fun _ i hl ih a5 h=>hs _ i a5 hl h ih) (fun _ a5 h=>he _ a5 h) i0 hi hn a5 h0
theorem xm8 {a7:Z12}{a8:Int}(cnt:Nat) (Inv:T3){res:Z3}(hn:cnt≤500000000000)
 (hs:∀(rc:T92) (i:Nat) (a3:Y4),i<cnt→Inv i a3→(∀(a3':Y4),Inv (i+1) a3'→rc a3' a7 a8 ((i+1:Nat):Int)=res)→wko rc wgk a3 a7 a8 (i:Int)=res)
 (he:∀(rc:T92) (a3:Y4),Inv cnt a3→wko rc wgk a3 a7 a8 (cnt:Int)=res)
 (i0:Nat) (hi:i0≤cnt) (a3:Y4) (h0:Inv i0 a3):wx0 big a3 a7 a8 (i0:Int)=res :=
 idxB (fun m i=>∀(a3:Y4),Inv i a3→wx1 big wgk m a3 a7 a8 (i:Int)=res) (fun _ i hl ih a3 h=>hs _ i a3 hl h ih) (fun _ a3 h=>he _ a3 h) i0 hi hn a3 h0
theorem xna {a0:Y1}(mu:Z12→Bool→Nat) (Inv:Z12→Bool→Prop){res:Z3}
 (hs:∀(rc:T50) (a5:Z12) (a6:Bool),Inv a5 a6→(∀(a5':Z12) (a6':Bool),Inv a5' a6'→mu a5' a6'<mu a5 a6→rc a0 a5' a6'=res)→wqv (wqq big rc wb2) wb2 a0 a5 a6=res)
 (a5:Z12) (a6:Bool) (hm:mu a5 a6≤500000000000) (h0:Inv a5 a6):wx2 big a0 a5 a6=res :=
 muR (fun m=>∀(a5:Z12) (a6:Bool),mu a5 a6<m→Inv a5 a6→wx3 big wb2 m a0 a5 a6=res) (fun a5 a6 h2 _=>absurd h2 (Nat.not_lt_zero _)) (fun _ ih a5 a6 h2 h3=>hs _ a5 a6 h3 fun a5' a6' h4 h5=>ih a5' a6' (by omega) h4) big a5 a6 (by have:=jp;omega) h0
theorem xm9 {rec:T50}{k:Z12→Z3}{a0:Y1}{a7:Y4}{a25:Int}(cnt:Nat) (Inv:T113){res:Z3}(hn:cnt≤500000000000)
 (hs:∀(rc:T5) (i:Nat) (a5:Z12) (a6:Bool),i<cnt→Inv i a5 a6→(∀(a5':Z12) (a6':Bool),Inv (i+1) a5' a6'→rc a0 a5' a6' a7 a25 ((i+1:Nat):Int)=res)→wgq (wgn big rc (zl rec)) (zl rec) a0 a5 a6 a7 a25 (i:Int)=res)
 (he:∀(rc:T5) (a5:Z12) (a6:Bool),Inv cnt a5 a6→wgq (wgn big rc (zl rec)) (zl rec) a0 a5 a6 a7 a25 (cnt:Int)=res)
 (i0:Nat) (hi:i0≤cnt) (a5:Z12) (a6:Bool) (h0:Inv i0 a5 a6):wqq big rec k a0 a5 a6 a7 a25 (i0:Int)=res :=
 idxB (fun m i=>∀(a5:Z12) (a6:Bool),Inv i a5 a6→wx4 big (zl rec) m a0 a5 a6 a7 a25 (i:Int)=res) (fun _ i hl ih a5 a6 h=>hs _ i a5 a6 hl h ih) (fun _ a5 a6 h=>he _ a5 a6 h) i0 hi hn a5 a6 h0
theorem xkc {rec:T5}{k:T50}{a0:Y1}{a7:Y4}{a9:Int}{a25:Int}{a26:Int}{a31:Int}(cnt:Nat) (Inv:T113){res:Z3}(hn:cnt≤500000000000)
 (hs:∀(rc:T2) (i:Nat) (a5:Z12) (a6:Bool),i<cnt→Inv i a5 a6→(∀(a5':Z12) (a6':Bool),Inv (i+1) a5' a6'→rc a0 a5' a6' a7 a9 a25 a26 a31 ((i+1:Nat):Int)=res)→way (wgo big rc (xw rec)) (xw rec) a0 a5 a6 a7 a9 a25 a26 a31 (i:Int)=res)
 (he:∀(rc:T2) (a5:Z12) (a6:Bool),Inv cnt a5 a6→way (wgo big rc (xw rec)) (xw rec) a0 a5 a6 a7 a9 a25 a26 a31 (cnt:Int)=res)
 (i0:Nat) (hi:i0≤cnt) (a5:Z12) (a6:Bool) (h0:Inv i0 a5 a6):wgn big rec k a0 a5 a6 a7 a9 a25 a26 a31 (i0:Int)=res :=
 idxB (fun m i=>∀(a5:Z12) (a6:Bool),Inv i a5 a6→wso big (xw rec) m a0 a5 a6 a7 a9 a25 a26 a31 (i:Int)=res) (fun _ i hl ih a5 a6 h=>hs _ i a5 a6 hl h ih) (fun _ a5 a6 h=>he _ a5 a6 h) i0 hi hn a5 a6 h0
theorem xkd {rec:T2}{k:T5}{a0:Y1}{a7:Y4}{a9:Int}{a25:Int}{a26:Int}{a31:Int}{a32:Int}{a56:Y4}{a57:Int}(cnt:Nat) (Inv:T113){res:Z3}(hn:cnt≤500000000000)
 (hs:∀(rc:T17) (i:Nat) (a5:Z12) (a6:Bool),i<cnt→Inv i a5 a6→(∀(a5':Z12) (a6':Bool),Inv (i+1) a5' a6'→rc a0 a5' a6' a7 a9 a25 a26 a31 a32 a56 a57 ((i+1:Nat):Int)=res)→waz rc (yk rec) a0 a5 a6 a7 a9 a25 a26 a31 a32 a56 a57 (i:Int)=res)
 (he:∀(rc:T17) (a5:Z12) (a6:Bool),Inv cnt a5 a6→waz rc (yk rec) a0 a5 a6 a7 a9 a25 a26 a31 a32 a56 a57 (cnt:Int)=res)
 (i0:Nat) (hi:i0≤cnt) (a5:Z12) (a6:Bool) (h0:Inv i0 a5 a6):wgo big rec k a0 a5 a6 a7 a9 a25 a26 a31 a32 a56 a57 (i0:Int)=res :=
 idxB (fun m i=>∀(a5:Z12) (a6:Bool),Inv i a5 a6→wsp big (yk rec) m a0 a5 a6 a7 a9 a25 a26 a31 a32 a56 a57 (i:Int)=res) (fun _ i hl ih a5 a6 h=>hs _ i a5 a6 hl h ih) (fun _ a5 a6 h=>he _ a5 a6 h) i0 hi hn a5 a6 h0
theorem xnb {a1:Int}{a7:Y4}{a8:Int}(cnt:Nat) (Inv:T10){res:Option Z1}(hn:cnt≤500000000000)
 (hs:∀(rc:Int→Y4→Int→Int→Option Z1) (i:Nat),i<cnt→Inv i→(Inv (i+1)→rc a1 a7 a8 ((i+1:Nat):Int)=res)→wkq rc wgr a1 a7 a8 (i:Int)=res)
 (he:∀(rc:Int→Y4→Int→Int→Option Z1),Inv cnt→wkq rc wgr a1 a7 a8 (cnt:Int)=res)
 (i0:Nat) (hi:i0≤cnt) (h0:Inv i0):wx5 big a1 a7 a8 (i0:Int)=res :=
 idxB (fun m i=>Inv i→wx6 big wgr m a1 a7 a8 (i:Int)=res) (fun _ i hl ih h=>hs _ i hl h ih) (fun _ h=>he _ h) i0 hi hn h0
theorem xnc {a1:Y4}{a11:Y4}{a12:Int}(cnt:Nat) (Inv:T3){res:Z3}(hn:cnt≤500000000000)
 (hs:∀(rc:T83) (i:Nat) (a5:Y4),i<cnt→Inv i a5→(∀(a5':Y4),Inv (i+1) a5'→rc a1 a5' a11 a12 ((i+1:Nat):Int)=res)→wks rc wgs a1 a5 a11 a12 (i:Int)=res)
 (he:∀(rc:T83) (a5:Y4),Inv cnt a5→wks rc wgs a1 a5 a11 a12 (cnt:Int)=res)
 (i0:Nat) (hi:i0≤cnt) (a5:Y4) (h0:Inv i0 a5):wx7 big a1 a5 a11 a12 (i0:Int)=res :=
 idxB (fun m i=>∀(a5:Y4),Inv i a5→wx8 big wgs m a1 a5 a11 a12 (i:Int)=res) (fun _ i hl ih a5 h=>hs _ i a5 hl h ih) (fun _ a5 h=>he _ a5 h) i0 hi hn a5 h0
theorem xhj {a1:Y4}{a7:Y4}{a8:Int}(cnt:Nat) (Inv:T10){res:Option Z1}(hn:cnt≤500000000000)
 (hs:∀(rc:Y4→Y4→Int→Int→Option Z1) (i:Nat),i<cnt→Inv i→(Inv (i+1)→rc a1 a7 a8 ((i+1:Nat):Int)=res)→wcp rc zx a1 a7 a8 (i:Int)=res)
 (he:∀(rc:Y4→Y4→Int→Int→Option Z1),Inv cnt→wcp rc zx a1 a7 a8 (cnt:Int)=res)
 (i0:Nat) (hi:i0≤cnt) (h0:Inv i0):wrq big a1 a7 a8 (i0:Int)=res :=
 idxB (fun m i=>Inv i→wrr big zx m a1 a7 a8 (i:Int)=res) (fun _ i hl ih h=>hs _ i hl h ih) (fun _ h=>he _ h) i0 hi hn h0
theorem xhk {a4:Y1}{a6:Y4}(cnt:Nat) (Inv:Nat→Y3→Prop){res:Z9}(hn:cnt≤500000000000)
 (hs:∀(rc:T99) (i:Nat) (a7:Y3),i<cnt→Inv i a7→(∀(a7':Y3),Inv (i+1) a7'→rc a4 a6 a7' ((i+1:Nat):Int)=res)→wcr rc zy a4 a6 a7 (i:Int)=res)
 (he:∀(rc:T99) (a7:Y3),Inv cnt a7→wcr rc zy a4 a6 a7 (cnt:Int)=res)
 (i0:Nat) (hi:i0≤cnt) (a7:Y3) (h0:Inv i0 a7):wld big a4 a6 a7 (i0:Int)=res :=
 idxB (fun m i=>∀(a7:Y3),Inv i a7→wrs big zy m a4 a6 a7 (i:Int)=res) (fun _ i hl ih a7 h=>hs _ i a7 hl h ih) (fun _ a7 h=>he _ a7 h) i0 hi hn a7 h0
theorem xhl {a1:Y2}(cnt:Nat) (Inv:T3){res:Z3}(hn:cnt≤500000000000)
 (hs:∀(rc:T22) (i:Nat) (a3:Y4),i<cnt→Inv i a3→(∀(a3':Y4),Inv (i+1) a3'→rc a1 a3' ((i+1:Nat):Int)=res)→wct rc zz a1 a3 (i:Int)=res)
 (he:∀(rc:T22) (a3:Y4),Inv cnt a3→wct rc zz a1 a3 (cnt:Int)=res)
 (i0:Nat) (hi:i0≤cnt) (a3:Y4) (h0:Inv i0 a3):wrt big a1 a3 (i0:Int)=res :=
 idxB (fun m i=>∀(a3:Y4),Inv i a3→wru big zz m a1 a3 (i:Int)=res) (fun _ i hl ih a3 h=>hs _ i a3 hl h ih) (fun _ a3 h=>he _ a3 h) i0 hi hn a3 h0
theorem xhm {a0:Int}(cnt:Nat) (Inv:T3){res:Z3}(hn:cnt≤500000000000)
 (hs:∀(rc:T57) (i:Nat) (a3:Y4),i<cnt→Inv i a3→(∀(a3':Y4),Inv (i+1) a3'→rc a0 a3' ((i+1:Nat):Int)=res)→wcv rc z6 a0 a3 (i:Int)=res)
 (he:∀(rc:T57) (a3:Y4),Inv cnt a3→wcv rc z6 a0 a3 (cnt:Int)=res)
 (i0:Nat) (hi:i0≤cnt) (a3:Y4) (h0:Inv i0 a3):wrv big a0 a3 (i0:Int)=res :=
 idxB (fun m i=>∀(a3:Y4),Inv i a3→wrw big z6 m a0 a3 (i:Int)=res) (fun _ i hl ih a3 h=>hs _ i a3 hl h ih) (fun _ a3 h=>he _ a3 h) i0 hi hn a3 h0
theorem xhn {a1:Y4}{a2:Y4}{a3:Y2}(cnt:Nat) (Inv:T10){res:Option Z1}(hn:cnt≤500000000000)
 (hs:∀(rc:Y4→Y4→Y2→Int→Option Z1) (i:Nat),i<cnt→Inv i→(Inv (i+1)→rc a1 a2 a3 ((i+1:Nat):Int)=res)→z9 (wcw big rc xn) xn a1 a2 a3 (i:Int)=res)
 (he:∀(rc:Y4→Y4→Y2→Int→Option Z1),Inv cnt→z9 (wcw big rc xn) xn a1 a2 a3 (cnt:Int)=res)
 (i0:Nat) (hi:i0≤cnt) (h0:Inv i0):wrx big a1 a2 a3 (i0:Int)=res :=
 idxB (fun m i=>Inv i→wry big xn m a1 a2 a3 (i:Int)=res) (fun _ i hl ih h=>hs _ i hl h ih) (fun _ h=>he _ h) i0 hi hn h0
theorem xho {rec:Y4→Y4→Y2→Int→Option Z1}{k:Option Z1}{a1:Y4}{a2:Y4}{a3:Y2}{a7:Int}(cnt:Nat) (Inv:T10){res:Option Z1}(hn:cnt≤500000000000)
 (hs:∀(rc:Y4→Y4→Y2→Int→Int→Option Z1) (i:Nat),i<cnt→Inv i→(Inv (i+1)→rc a1 a2 a3 a7 ((i+1:Nat):Int)=res)→wcy rc (z8 rec) a1 a2 a3 a7 (i:Int)=res)
 (he:∀(rc:Y4→Y4→Y2→Int→Int→Option Z1),Inv cnt→wcy rc (z8 rec) a1 a2 a3 a7 (cnt:Int)=res)
 (i0:Nat) (hi:i0≤cnt) (h0:Inv i0):wcw big rec k a1 a2 a3 a7 (i0:Int)=res :=
 idxB (fun m i=>Inv i→wrz big (z8 rec) m a1 a2 a3 a7 (i:Int)=res) (fun _ i hl ih h=>hs _ i hl h ih) (fun _ h=>he _ h) i0 hi hn h0
theorem xhp {a0:Y4}{a1:Y4}(cnt:Nat) (Inv:T10){res:Option Z1}(hn:cnt≤500000000000)
 (hs:∀(rc:Y4→Y4→Int→Option Z1) (i:Nat),i<cnt→Inv i→(Inv (i+1)→rc a0 a1 ((i+1:Nat):Int)=res)→wc0 rc waa a0 a1 (i:Int)=res)
 (he:∀(rc:Y4→Y4→Int→Option Z1),Inv cnt→wc0 rc waa a0 a1 (cnt:Int)=res)
 (i0:Nat) (hi:i0≤cnt) (h0:Inv i0):wr0 big a0 a1 (i0:Int)=res :=
 idxB (fun m i=>Inv i→wr3 big waa m a0 a1 (i:Int)=res) (fun _ i hl ih h=>hs _ i hl h ih) (fun _ h=>he _ h) i0 hi hn h0
theorem xhq {a0:Y3}{a1:Y4}(mu:Int→Nat) (Inv:Int→Prop){Q:Option Y2→Prop}
 (hs:∀(rc:Y3→Y4→Int→Option Y2) (a5:Int),Inv a5→(∀(a5':Int),Inv a5'→mu a5'<mu a5→Q (rc a0 a1 a5'))→Q (wr5 rc yc a0 a1 a5))
 (a5:Int) (hm:mu a5≤500000000000) (h0:Inv a5):Q (wr4 big a0 a1 a5) :=
 muR (fun m=>∀(a5:Int),mu a5<m→Inv a5→Q (wr6 big yc m a0 a1 a5)) (fun a5 h2 _=>absurd h2 (Nat.not_lt_zero _)) (fun _ ih a5 h2 h3=>hs _ a5 h3 fun a5' h4 h5=>ih a5' (by omega) h4) big a5 (by have:=jp;omega) h0
theorem xhr {a1:Y2}{a5:Y4}(cnt:Nat) (Inv:Nat→Y3→Prop){res:Z9}(hn:cnt≤500000000000)
 (hs:∀(rc:T100) (i:Nat) (a4:Y3),i<cnt→Inv i a4→(∀(a4':Y3),Inv (i+1) a4'→rc a1 a4' a5 ((i+1:Nat):Int)=res)→wc3 rc wab a1 a4 a5 (i:Int)=res)
 (he:∀(rc:T100) (a4:Y3),Inv cnt a4→wc3 rc wab a1 a4 a5 (cnt:Int)=res)
 (i0:Nat) (hi:i0≤cnt) (a4:Y3) (h0:Inv i0 a4):wln big a1 a4 a5 (i0:Int)=res :=
 idxB (fun m i=>∀(a4:Y3),Inv i a4→wr7 big wab m a1 a4 a5 (i:Int)=res) (fun _ i hl ih a4 h=>hs _ i a4 hl h ih) (fun _ a4 h=>he _ a4 h) i0 hi hn a4 h0
theorem xhs {a0:Y3}{a1:Y3}(cnt:Nat) (Inv:T10){res:Option Z1}(hn:cnt≤500000000000)
 (hs:∀(rc:Y3→Y3→Int→Option Z1) (i:Nat),i<cnt→Inv i→(Inv (i+1)→rc a0 a1 ((i+1:Nat):Int)=res)→wc5 rc wac a0 a1 (i:Int)=res)
 (he:∀(rc:Y3→Y3→Int→Option Z1),Inv cnt→wc5 rc wac a0 a1 (cnt:Int)=res)
 (i0:Nat) (hi:i0≤cnt) (h0:Inv i0):wr8 big a0 a1 (i0:Int)=res :=
 idxB (fun m i=>Inv i→wr9 big wac m a0 a1 (i:Int)=res) (fun _ i hl ih h=>hs _ i hl h ih) (fun _ h=>he _ h) i0 hi hn h0
end Go.Proofs.YtmebolidmeljeaaGreat
