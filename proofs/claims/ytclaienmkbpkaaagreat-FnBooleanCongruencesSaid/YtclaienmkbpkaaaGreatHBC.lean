import Derived.Test.YtclaienmkbpkaaaGreatPLib
import Derived.Test.YtclaienmkbpkaaaGreatGBC
set_option linter.unusedVariables false
namespace Go.Proofs.YtclaienmkbpkaaaGreat
open Go Go.Gx Go.Proofs
theorem xnk {a1:Int}(cnt:Nat) (Inv:Nat→Z13→Y4→Prop){Q:Z9→Prop}(hn:cnt≤500000000000)
 (hs:∀(rc:T33) (i:Nat) (a0:Z13) (a5:Y4),i<cnt→Inv i a0 a5→(∀(a0':Z13) (a5':Y4),Inv (i+1) a0' a5'→Q (rc a0' a1 a5' ((i+1:Nat):Int)))→Q (woc rc wk8 a0 a1 a5 (i:Int)))
 (he:∀(rc:T33) (a0:Z13) (a5:Y4),Inv cnt a0 a5→Q (woc rc wk8 a0 a1 a5 (cnt:Int)))
 (i0:Nat) (hi:i0≤cnt) (a0:Z13) (a5:Y4) (h0:Inv i0 a0 a5):Q (w3n big a0 a1 a5 (i0:Int)) :=
 idxB (fun m i=>∀(a0:Z13) (a5:Y4),Inv i a0 a5→Q (w3o big wk8 m a0 a1 a5 (i:Int))) (fun _ i hl ih a0 a5 h=>hs _ i a0 a5 hl h ih) (fun _ a0 a5 h=>he _ a0 a5 h) i0 hi hn a0 a5 h0
theorem xnl {a0:Int}{a1:Y4}(cnt:Nat) (Inv:T10){res:Z0}(hn:cnt≤500000000000)
 (hs:∀(rc:T90) (i:Nat),i<cnt→Inv i→(Inv (i+1)→rc a0 a1 ((i+1:Nat):Int)=res)→zq rc yq a0 a1 (i:Int)=res)
 (he:∀(rc:T90),Inv cnt→zq rc yq a0 a1 (cnt:Int)=res)
 (i0:Nat) (hi:i0≤cnt) (h0:Inv i0):wso big a0 a1 (i0:Int)=res :=
 idxB (fun m i=>Inv i→wsq big yq m a0 a1 (i:Int)=res) (fun _ i hl ih h=>hs _ i hl h ih) (fun _ h=>he _ h) i0 hi hn h0
theorem xnm {a0:Int}{a1:Y4}(cnt:Nat) (Inv:T10){Q:Z0→Prop}(hn:cnt≤500000000000)
 (hs:∀(rc:T90) (i:Nat),i<cnt→Inv i→(Inv (i+1)→Q (rc a0 a1 ((i+1:Nat):Int)))→Q (zq rc yq a0 a1 (i:Int)))
 (he:∀(rc:T90),Inv cnt→Q (zq rc yq a0 a1 (cnt:Int)))
 (i0:Nat) (hi:i0≤cnt) (h0:Inv i0):Q (wso big a0 a1 (i0:Int)) :=
 idxB (fun m i=>Inv i→Q (wsq big yq m a0 a1 (i:Int))) (fun _ i hl ih h=>hs _ i hl h ih) (fun _ h=>he _ h) i0 hi hn h0
theorem xnn {a0:Y4}{a1:Int}(cnt:Nat) (Inv:Nat→(List Bool)→Prop){Q:Z0→Prop}(hn:cnt≤500000000000)
 (hs:∀(rc:T77) (i:Nat) (a5:(List Bool)),i<cnt→Inv i a5→(∀(a5':(List Bool)),Inv (i+1) a5'→Q (rc a0 a1 a5' ((i+1:Nat):Int)))→Q (wo6 rc wld a0 a1 a5 (i:Int)))
 (he:∀(rc:T77) (a5:(List Bool)),Inv cnt a5→Q (wo6 rc wld a0 a1 a5 (cnt:Int)))
 (i0:Nat) (hi:i0≤cnt) (a5:(List Bool)) (h0:Inv i0 a5):Q (w4j big a0 a1 a5 (i0:Int)) :=
 idxB (fun m i=>∀(a5:(List Bool)),Inv i a5→Q (w4k big wld m a0 a1 a5 (i:Int))) (fun _ i hl ih a5 h=>hs _ i a5 hl h ih) (fun _ a5 h=>he _ a5 h) i0 hi hn a5 h0
theorem xno {a0:Int}{a1:Z15}{a4:Y2}(cnt:Nat) (Inv:T70){Q:Z4→Prop}(hn:cnt≤500000000000)
 (hs:∀(rc:T25) (i:Nat) (a5:Y5),i<cnt→Inv i a5→(∀(a5':Y5),Inv (i+1) a5'→Q (rc a0 a1 a4 a5' ((i+1:Nat):Int)))→Q (wpq rc (wlj (wli big)) a0 a1 a4 a5 (i:Int)))
 (he:∀(rc:T25) (a5:Y5),Inv cnt a5→Q (wpq rc (wlj (wli big)) a0 a1 a4 a5 (cnt:Int)))
 (i0:Nat) (hi:i0≤cnt) (a5:Y5) (h0:Inv i0 a5):Q (w40 big a0 a1 a4 a5 (i0:Int)) :=
 idxB (fun m i=>∀(a5:Y5),Inv i a5→Q (w41 big (wlj (wli big)) m a0 a1 a4 a5 (i:Int))) (fun _ i hl ih a5 h=>hs _ i a5 hl h ih) (fun _ a5 h=>he _ a5 h) i0 hi hn a5 h0
theorem xnp {a0:Int}{a1:Z15}{a4:Y2}(cnt:Nat) (Inv:T70){Q:Z4→Prop}(hn:cnt≤500000000000)
 (hs:∀(rc:T25) (i:Nat) (a5:Y5),i<cnt→Inv i a5→(∀(a5':Y5),Inv (i+1) a5'→Q (rc a0 a1 a4 a5' ((i+1:Nat):Int)))→Q (wpr rc (wlk (wbw big)) a0 a1 a4 a5 (i:Int)))
 (he:∀(rc:T25) (a5:Y5),Inv cnt a5→Q (wpr rc (wlk (wbw big)) a0 a1 a4 a5 (cnt:Int)))
 (i0:Nat) (hi:i0≤cnt) (a5:Y5) (h0:Inv i0 a5):Q (wli big a0 a1 a4 a5 (i0:Int)) :=
 idxB (fun m i=>∀(a5:Y5),Inv i a5→Q (w42 big (wlk (wbw big)) m a0 a1 a4 a5 (i:Int))) (fun _ i hl ih a5 h=>hs _ i a5 hl h ih) (fun _ a5 h=>he _ a5 h) i0 hi hn a5 h0
theorem xm5 {a0:Int}{a4:Y2}(cnt:Nat) (Inv:T70){Q:Z4→Prop}(hn:cnt≤500000000000)
 (hs:∀(rc:T24) (i:Nat) (a5:Y5),i<cnt→Inv i a5→(∀(a5':Y5),Inv (i+1) a5'→Q (rc a0 a4 a5' ((i+1:Nat):Int)))→Q (wf1 (wjy big rc (zi (x8 big))) (zi (x8 big)) a0 a4 a5 (i:Int)))
 (he:∀(rc:T24) (a5:Y5),Inv cnt a5→Q (wf1 (wjy big rc (zi (x8 big))) (zi (x8 big)) a0 a4 a5 (cnt:Int)))
 (i0:Nat) (hi:i0≤cnt) (a5:Y5) (h0:Inv i0 a5):Q (wbw big a0 a4 a5 (i0:Int)) :=
 idxB (fun m i=>∀(a5:Y5),Inv i a5→Q (wxc big (zi (x8 big)) m a0 a4 a5 (i:Int))) (fun _ i hl ih a5 h=>hs _ i a5 hl h ih) (fun _ a5 h=>he _ a5 h) i0 hi hn a5 h0
theorem xm6 {rec:T24}{k:T92}{a0:Int}{a4:Y2}{a9:Int}(cnt:Nat) (Inv:T70){Q:Z4→Prop}(hn:cnt≤500000000000)
 (hs:∀(rc:T23) (i:Nat) (a5:Y5),i<cnt→Inv i a5→(∀(a5':Y5),Inv (i+1) a5'→Q (rc a0 a4 a5' a9 ((i+1:Nat):Int)))→Q (wf2 (wjz big rc (zj rec)) (zj rec) a0 a4 a5 a9 (i:Int)))
 (he:∀(rc:T23) (a5:Y5),Inv cnt a5→Q (wf2 (wjz big rc (zj rec)) (zj rec) a0 a4 a5 a9 (cnt:Int)))
 (i0:Nat) (hi:i0≤cnt) (a5:Y5) (h0:Inv i0 a5):Q (wjy big rec k a0 a4 a5 a9 (i0:Int)) :=
 idxB (fun m i=>∀(a5:Y5),Inv i a5→Q (wxd big (zj rec) m a0 a4 a5 a9 (i:Int))) (fun _ i hl ih a5 h=>hs _ i a5 hl h ih) (fun _ a5 h=>he _ a5 h) i0 hi hn a5 h0
theorem xm8 {a0:Int}{a4:Y2}{a5:Y5}(cnt:Nat) (Inv:Nat→Y2→Prop){Q:Z4→Prop}(hn:cnt≤500000000000)
 (hs:∀(rc:T48) (i:Nat) (a12:Y2),i<cnt→Inv i a12→(∀(a12':Y2),Inv (i+1) a12'→Q (rc a0 a4 a5 a12' ((i+1:Nat):Int)))→Q (wf3 (wj0 big rc zk) zk a0 a4 a5 a12 (i:Int)))
 (he:∀(rc:T48) (a12:Y2),Inv cnt a12→Q (wf3 (wj0 big rc zk) zk a0 a4 a5 a12 (cnt:Int)))
 (i0:Nat) (hi:i0≤cnt) (a12:Y2) (h0:Inv i0 a12):Q (x8 big a0 a4 a5 a12 (i0:Int)) :=
 idxB (fun m i=>∀(a12:Y2),Inv i a12→Q (wxf big zk m a0 a4 a5 a12 (i:Int))) (fun _ i hl ih a12 h=>hs _ i a12 hl h ih) (fun _ a12 h=>he _ a12 h) i0 hi hn a12 h0
theorem xm7 {rec:T23}{k:T24}{a0:Int}{a4:Y2}{a9:Int}{a10:Int}(cnt:Nat) (Inv:T70){Q:Z4→Prop}(hn:cnt≤500000000000)
 (hs:∀(rc:T60) (i:Nat) (a5:Y5),i<cnt→Inv i a5→(∀(a5':Y5),Inv (i+1) a5'→Q (rc a0 a4 a5' a9 a10 ((i+1:Nat):Int)))→Q (wj3 rc (wfz rec) a0 a4 a5 a9 a10 (i:Int)))
 (he:∀(rc:T60) (a5:Y5),Inv cnt a5→Q (wj3 rc (wfz rec) a0 a4 a5 a9 a10 (cnt:Int)))
 (i0:Nat) (hi:i0≤cnt) (a5:Y5) (h0:Inv i0 a5):Q (wjz big rec k a0 a4 a5 a9 a10 (i0:Int)) :=
 idxB (fun m i=>∀(a5:Y5),Inv i a5→Q (wxe big (wfz rec) m a0 a4 a5 a9 a10 (i:Int))) (fun _ i hl ih a5 h=>hs _ i a5 hl h ih) (fun _ a5 h=>he _ a5 h) i0 hi hn a5 h0
theorem xm9 {rec:T48}{k:T53}{a0:Int}{a4:Y2}{a5:Y5}{a12:Y2}{a13:Int}(cnt:Nat) (Inv:T6){Q:Z4→Prop}(hn:cnt≤500000000000)
 (hs:∀(rc:T54) (i:Nat) (a14:Y4),i<cnt→Inv i a14→(∀(a14':Y4),Inv (i+1) a14'→Q (rc a0 a4 a5 a12 a13 a14' ((i+1:Nat):Int)))→Q (wj4 rc (wf0 rec) a0 a4 a5 a12 a13 a14 (i:Int)))
 (he:∀(rc:T54) (a14:Y4),Inv cnt a14→Q (wj4 rc (wf0 rec) a0 a4 a5 a12 a13 a14 (cnt:Int)))
 (i0:Nat) (hi:i0≤cnt) (a14:Y4) (h0:Inv i0 a14):Q (wj0 big rec k a0 a4 a5 a12 a13 a14 (i0:Int)) :=
 idxB (fun m i=>∀(a14:Y4),Inv i a14→Q (wxg big (wf0 rec) m a0 a4 a5 a12 a13 a14 (i:Int))) (fun _ i hl ih a14 h=>hs _ i a14 hl h ih) (fun _ a14 h=>he _ a14 h) i0 hi hn a14 h0
theorem xla {a0:Y4}{a1:Int}(cnt:Nat) (Inv:T10){Q:Z2→Prop}(hn:cnt≤500000000000)
 (hs:∀(rc:T52) (i:Nat),i<cnt→Inv i→(Inv (i+1)→Q (rc a0 a1 ((i+1:Nat):Int)))→Q (wgw rc wa4 a0 a1 (i:Int)))
 (he:∀(rc:T52),Inv cnt→Q (wgw rc wa4 a0 a1 (cnt:Int)))
 (i0:Nat) (hi:i0≤cnt) (h0:Inv i0):Q (wtc big a0 a1 (i0:Int)) :=
 idxB (fun m i=>Inv i→Q (wtd big wa4 m a0 a1 (i:Int))) (fun _ i hl ih h=>hs _ i hl h ih) (fun _ h=>he _ h) i0 hi hn h0
theorem xlb {a2:Y2}{a3:Int}(cnt:Nat) (Inv:Nat→Z13→Z15→Prop){Q:Z5→Prop}(hn:cnt≤500000000000)
 (hs:∀(rc:T22) (i:Nat) (a0:Z13) (a4:Z15),i<cnt→Inv i a0 a4→(∀(a0':Z13) (a4':Z15),Inv (i+1) a0' a4'→Q (rc a0' a2 a3 a4' ((i+1:Nat):Int)))→Q (wct (wgx big rc (yu (xp big) (wi big))) (yu (xp big) (wi big)) a0 a2 a3 a4 (i:Int)))
 (he:∀(rc:T22) (a0:Z13) (a4:Z15),Inv cnt a0 a4→Q (wct (wgx big rc (yu (xp big) (wi big))) (yu (xp big) (wi big)) a0 a2 a3 a4 (cnt:Int)))
 (i0:Nat) (hi:i0≤cnt) (a0:Z13) (a4:Z15) (h0:Inv i0 a0 a4):Q (wti big a0 a2 a3 a4 (i0:Int)) :=
 idxB (fun m i=>∀(a0:Z13) (a4:Z15),Inv i a0 a4→Q (wtk big (yu (xp big) (wi big)) m a0 a2 a3 a4 (i:Int))) (fun _ i hl ih a0 a4 h=>hs _ i a0 a4 hl h ih) (fun _ a0 a4 h=>he _ a0 a4 h) i0 hi hn a0 a4 h0
theorem xlc {rec:T22}{k:T57}{a2:Y2}{a3:Int}{a5:Int}(cnt:Nat) (Inv:Nat→Z13→Z15→Prop){Q:Z5→Prop}(hn:cnt≤500000000000)
 (hs:∀(rc:T59) (i:Nat) (a0:Z13) (a4:Z15),i<cnt→Inv i a0 a4→(∀(a0':Z13) (a4':Z15),Inv (i+1) a0' a4'→Q (rc a0' a2 a3 a4' a5 ((i+1:Nat):Int)))→Q (wgz rc (wcr rec) a0 a2 a3 a4 a5 (i:Int)))
 (he:∀(rc:T59) (a0:Z13) (a4:Z15),Inv cnt a0 a4→Q (wgz rc (wcr rec) a0 a2 a3 a4 a5 (cnt:Int)))
 (i0:Nat) (hi:i0≤cnt) (a0:Z13) (a4:Z15) (h0:Inv i0 a0 a4):Q (wgx big rec k a0 a2 a3 a4 a5 (i0:Int)) :=
 idxB (fun m i=>∀(a0:Z13) (a4:Z15),Inv i a0 a4→Q (wtl big (wcr rec) m a0 a2 a3 a4 a5 (i:Int))) (fun _ i hl ih a0 a4 h=>hs _ i a0 a4 hl h ih) (fun _ a0 a4 h=>he _ a0 a4 h) i0 hi hn a0 a4 h0
theorem xh7 {a0:Z13}{a2:Y2}{a3:Int}{a7:Y4}(cnt:Nat) (Inv:Nat→Z15→Prop){Q:Z5→Prop}(hn:cnt≤500000000000)
 (hs:∀(rc:T61) (i:Nat) (a4:Z15),i<cnt→Inv i a4→(∀(a4':Z15),Inv (i+1) a4'→Q (rc a0 a2 a3 a4' a7 ((i+1:Nat):Int)))→Q (wcs rc (yj (wi big)) a0 a2 a3 a4 a7 (i:Int)))
 (he:∀(rc:T61) (a4:Z15),Inv cnt a4→Q (wcs rc (yj (wi big)) a0 a2 a3 a4 a7 (cnt:Int)))
 (i0:Nat) (hi:i0≤cnt) (a4:Z15) (h0:Inv i0 a4):Q (xp big a0 a2 a3 a4 a7 (i0:Int)) :=
 idxB (fun m i=>∀(a4:Z15),Inv i a4→Q (wqr big (yj (wi big)) m a0 a2 a3 a4 a7 (i:Int))) (fun _ i hl ih a4 h=>hs _ i a4 hl h ih) (fun _ a4 h=>he _ a4 h) i0 hi hn a4 h0
theorem xh8 {a2:Y2}(mu:Z13→Y2→Nat) (Inv:Z13→Y2→Prop){Q:Z5→Prop}
 (hs:∀(rc:T114) (a0:Z13) (a9:Y2),Inv a0 a9→(∀(a0':Z13) (a9':Y2),Inv a0' a9'→mu a0' a9'<mu a0 a9→Q (rc a0' a2 a9'))→Q (wqq rc wcq a0 a2 a9))
 (a0:Z13) (a9:Y2) (hm:mu a0 a9≤500000000000) (h0:Inv a0 a9):Q (wi big a0 a2 a9) :=
 muR (fun m=>∀(a0:Z13) (a9:Y2),mu a0 a9<m→Inv a0 a9→Q (wqs big wcq m a0 a2 a9)) (fun a0 a9 h2 _=>absurd h2 (Nat.not_lt_zero _)) (fun _ ih a0 a9 h2 h3=>hs _ a0 a9 h3 fun a0' a9' h4 h5=>ih a0' a9' (by omega) h4) big a0 a9 (by have:=jp;omega) h0
theorem xld {a0:Y4}{a1:Int}(cnt:Nat) (Inv:T10){res:Z0}(hn:cnt≤500000000000)
 (hs:∀(rc:T119) (i:Nat),i<cnt→Inv i→(Inv (i+1)→rc a0 a1 ((i+1:Nat):Int)=res)→wg1 rc wdc a0 a1 (i:Int)=res)
 (he:∀(rc:T119),Inv cnt→wg1 rc wdc a0 a1 (cnt:Int)=res)
 (i0:Nat) (hi:i0≤cnt) (h0:Inv i0):wt2 big a0 a1 (i0:Int)=res :=
 idxB (fun m i=>Inv i→wt3 big wdc m a0 a1 (i:Int)=res) (fun _ i hl ih h=>hs _ i hl h ih) (fun _ h=>he _ h) i0 hi hn h0
theorem xle {a1:Int}{a2:Int}{a3:Y2}(cnt:Nat) (Inv:T10){res:Z0}(hn:cnt≤500000000000)
 (hs:∀(rc:T96) (i:Nat),i<cnt→Inv i→(Inv (i+1)→rc a1 a2 a3 ((i+1:Nat):Int)=res)→wg3 rc wdd a1 a2 a3 (i:Int)=res)
 (he:∀(rc:T96),Inv cnt→wg3 rc wdd a1 a2 a3 (cnt:Int)=res)
 (i0:Nat) (hi:i0≤cnt) (h0:Inv i0):wt4 big a1 a2 a3 (i0:Int)=res :=
 idxB (fun m i=>Inv i→wt5 big wdd m a1 a2 a3 (i:Int)=res) (fun _ i hl ih h=>hs _ i hl h ih) (fun _ h=>he _ h) i0 hi hn h0
theorem xlg {a0:Z13}{a2:Y2}{a3:Y2}{a4:Int}{a5:Y4}(cnt:Nat) (Inv:Nat→Z15→Prop){Q:Z5→Prop}(hn:cnt≤500000000000)
 (hs:∀(rc:T8) (i:Nat) (a6:Z15),i<cnt→Inv i a6→(∀(a6':Z15),Inv (i+1) a6'→Q (rc a0 a2 a3 a4 a5 a6' ((i+1:Nat):Int)))→Q (wg6 rc wdf a0 a2 a3 a4 a5 a6 (i:Int)))
 (he:∀(rc:T8) (a6:Z15),Inv cnt a6→Q (wg6 rc wdf a0 a2 a3 a4 a5 a6 (cnt:Int)))
 (i0:Nat) (hi:i0≤cnt) (a6:Z15) (h0:Inv i0 a6):Q (wt6 big a0 a2 a3 a4 a5 a6 (i0:Int)) :=
 idxB (fun m i=>∀(a6:Z15),Inv i a6→Q (wt7 big wdf m a0 a2 a3 a4 a5 a6 (i:Int))) (fun _ i hl ih a6 h=>hs _ i a6 hl h ih) (fun _ a6 h=>he _ a6 h) i0 hi hn a6 h0
theorem xlj {a0:Z13}{a2:Y2}{a3:Y2}{a4:Int}{a5:Y4}(cnt:Nat) (Inv:Nat→Z15→Prop){Q:Z5→Prop}(hn:cnt≤500000000000)
 (hs:∀(rc:T8) (i:Nat) (a6:Z15),i<cnt→Inv i a6→(∀(a6':Z15),Inv (i+1) a6'→Q (rc a0 a2 a3 a4 a5 a6' ((i+1:Nat):Int)))→Q (wha rc wdh a0 a2 a3 a4 a5 a6 (i:Int)))
 (he:∀(rc:T8) (a6:Z15),Inv cnt a6→Q (wha rc wdh a0 a2 a3 a4 a5 a6 (cnt:Int)))
 (i0:Nat) (hi:i0≤cnt) (a6:Z15) (h0:Inv i0 a6):Q (wt8 big a0 a2 a3 a4 a5 a6 (i0:Int)) :=
 idxB (fun m i=>∀(a6:Z15),Inv i a6→Q (wt9 big wdh m a0 a2 a3 a4 a5 a6 (i:Int))) (fun _ i hl ih a6 h=>hs _ i a6 hl h ih) (fun _ a6 h=>he _ a6 h) i0 hi hn a6 h0
theorem xlk {a0:Int}{a8:Int}(cnt:Nat) (Inv:T70){res:Z14}(hn:cnt≤500000000000)
 (hs:∀(rc:T95) (i:Nat) (a3:Y5),i<cnt→Inv i a3→(∀(a3':Y5),Inv (i+1) a3'→rc a0 a3' a8 ((i+1:Nat):Int)=res)→whc rc wdi a0 a3 a8 (i:Int)=res)
 (he:∀(rc:T95) (a3:Y5),Inv cnt a3→whc rc wdi a0 a3 a8 (cnt:Int)=res)
 (i0:Nat) (hi:i0≤cnt) (a3:Y5) (h0:Inv i0 a3):wua big a0 a3 a8 (i0:Int)=res :=
 idxB (fun m i=>∀(a3:Y5),Inv i a3→wub big wdi m a0 a3 a8 (i:Int)=res) (fun _ i hl ih a3 h=>hs _ i a3 hl h ih) (fun _ a3 h=>he _ a3 h) i0 hi hn a3 h0
theorem xll {a0:Y5}{a7:Int}(cnt:Nat) (Inv:T10){res:Z0}(hn:cnt≤500000000000)
 (hs:∀(rc:T41) (i:Nat),i<cnt→Inv i→(Inv (i+1)→rc a0 a7 ((i+1:Nat):Int)=res)→wdn (whf big rc yv) yv a0 a7 (i:Int)=res)
 (he:∀(rc:T41),Inv cnt→wdn (whf big rc yv) yv a0 a7 (cnt:Int)=res)
 (i0:Nat) (hi:i0≤cnt) (h0:Inv i0):wuk big a0 a7 (i0:Int)=res :=
 idxB (fun m i=>Inv i→wul big yv m a0 a7 (i:Int)=res) (fun _ i hl ih h=>hs _ i hl h ih) (fun _ h=>he _ h) i0 hi hn h0
theorem xlm {rec:T41}{k:Z0}{a0:Y5}{a3:Int}{a7:Int}{a8:Int}{a20:Int}(cnt:Nat) (Inv:T10){res:Z0}(hn:cnt≤500000000000)
 (hs:∀(rc:T15) (i:Nat),i<cnt→Inv i→(Inv (i+1)→rc a0 a3 a7 a8 a20 ((i+1:Nat):Int)=res)→wdo (wan big rc (x5 rec)) (x5 rec) a0 a3 a7 a8 a20 (i:Int)=res)
 (he:∀(rc:T15),Inv cnt→wdo (wan big rc (x5 rec)) (x5 rec) a0 a3 a7 a8 a20 (cnt:Int)=res)
 (i0:Nat) (hi:i0≤cnt) (h0:Inv i0):whf big rec k a0 a3 a7 a8 a20 (i0:Int)=res :=
 idxB (fun m i=>Inv i→wum big (x5 rec) m a0 a3 a7 a8 a20 (i:Int)=res) (fun _ i hl ih h=>hs _ i hl h ih) (fun _ h=>he _ h) i0 hi hn h0
theorem xiw {rec:T15}{k:T41}{a0:Y5}{a3:Int}{a4:Int}{a7:Int}{a8:Int}{a20:Int}{a21:Int}{a46:Int}(cnt:Nat) (Inv:T10){res:Z0}(hn:cnt≤500000000000)
 (hs:∀(rc:T31) (i:Nat),i<cnt→Inv i→(Inv (i+1)→rc a0 a3 a4 a7 a8 a20 a21 a46 ((i+1:Nat):Int)=res)→wdm rc (wao rec) a0 a3 a4 a7 a8 a20 a21 a46 (i:Int)=res)
 (he:∀(rc:T31),Inv cnt→wdm rc (wao rec) a0 a3 a4 a7 a8 a20 a21 a46 (cnt:Int)=res)
 (i0:Nat) (hi:i0≤cnt) (h0:Inv i0):wan big rec k a0 a3 a4 a7 a8 a20 a21 a46 (i0:Int)=res :=
 idxB (fun m i=>Inv i→wra big (wao rec) m a0 a3 a4 a7 a8 a20 a21 a46 (i:Int)=res) (fun _ i hl ih h=>hs _ i hl h ih) (fun _ h=>he _ h) i0 hi hn h0
theorem xln {a4:Int}{a18:Y3}{a19:Int}(cnt:Nat) (Inv:T70){res:Z11}(hn:cnt≤500000000000)
 (hs:∀(rc:T43) (i:Nat) (a5:Y5),i<cnt→Inv i a5→(∀(a5':Y5),Inv (i+1) a5'→rc a4 a5' a18 a19 ((i+1:Nat):Int)=res)→wdt (wdq big rc yw) yw a4 a5 a18 a19 (i:Int)=res)
 (he:∀(rc:T43) (a5:Y5),Inv cnt a5→wdt (wdq big rc yw) yw a4 a5 a18 a19 (cnt:Int)=res)
 (i0:Nat) (hi:i0≤cnt) (a5:Y5) (h0:Inv i0 a5):wun big a4 a5 a18 a19 (i0:Int)=res :=
 idxB (fun m i=>∀(a5:Y5),Inv i a5→wuo big yw m a4 a5 a18 a19 (i:Int)=res) (fun _ i hl ih a5 h=>hs _ i a5 hl h ih) (fun _ a5 h=>he _ a5 h) i0 hi hn a5 h0
theorem xiz {rec:T43}{k:Y5→Z11}{a4:Int}{a6:Int}{a18:Y3}{a19:Int}{a20:Int}{a29:Y4}{a30:Int}{a31:Bool}{a32:Bool}{a34:Y4}{a35:Int}(cnt:Nat) (Inv:T70){res:Z11}(hn:cnt≤500000000000)
 (hs:∀(rc:T11) (i:Nat) (a5:Y5),i<cnt→Inv i a5→(∀(a5':Y5),Inv (i+1) a5'→rc a4 a5' a6 a18 a19 a20 a29 a30 a31 a32 a34 a35 ((i+1:Nat):Int)=res)→wds rc (wap rec) a4 a5 a6 a18 a19 a20 a29 a30 a31 a32 a34 a35 (i:Int)=res)
 (he:∀(rc:T11) (a5:Y5),Inv cnt a5→wds rc (wap rec) a4 a5 a6 a18 a19 a20 a29 a30 a31 a32 a34 a35 (cnt:Int)=res)
 (i0:Nat) (hi:i0≤cnt) (a5:Y5) (h0:Inv i0 a5):wdq big rec k a4 a5 a6 a18 a19 a20 a29 a30 a31 a32 a34 a35 (i0:Int)=res :=
 idxB (fun m i=>∀(a5:Y5),Inv i a5→wrb big (wap rec) m a4 a5 a6 a18 a19 a20 a29 a30 a31 a32 a34 a35 (i:Int)=res) (fun _ i hl ih a5 h=>hs _ i a5 hl h ih) (fun _ a5 h=>he _ a5 h) i0 hi hn a5 h0
theorem xlo {a0:Y5}{a1:Y4}{a10:Y4}{a11:Int}(cnt:Nat) (Inv:T10){res:Z6}(hn:cnt≤500000000000)
 (hs:∀(rc:T49) (i:Nat),i<cnt→Inv i→(Inv (i+1)→rc a0 a1 a10 a11 ((i+1:Nat):Int)=res)→wdw (whg big rc yx) yx a0 a1 a10 a11 (i:Int)=res)
 (he:∀(rc:T49),Inv cnt→wdw (whg big rc yx) yx a0 a1 a10 a11 (cnt:Int)=res)
 (i0:Nat) (hi:i0≤cnt) (h0:Inv i0):wup big a0 a1 a10 a11 (i0:Int)=res :=
 idxB (fun m i=>Inv i→wuq big yx m a0 a1 a10 a11 (i:Int)=res) (fun _ i hl ih h=>hs _ i hl h ih) (fun _ h=>he _ h) i0 hi hn h0
theorem xlp {rec:T49}{k:Z6}{a0:Y5}{a1:Y4}{a6:Int}{a10:Y4}{a11:Int}{a12:Int}{a16:Y4}{a17:Int}(cnt:Nat) (Inv:Nat→Bool→Prop){res:Z6}(hn:cnt≤500000000000)
 (hs:∀(rc:T26) (i:Nat) (a7:Bool),i<cnt→Inv i a7→(∀(a7':Bool),Inv (i+1) a7'→rc a0 a1 a6 a7' a10 a11 a12 a16 a17 ((i+1:Nat):Int)=res)→whi rc (wdv rec) a0 a1 a6 a7 a10 a11 a12 a16 a17 (i:Int)=res)
 (he:∀(rc:T26) (a7:Bool),Inv cnt a7→whi rc (wdv rec) a0 a1 a6 a7 a10 a11 a12 a16 a17 (cnt:Int)=res)
 (i0:Nat) (hi:i0≤cnt) (a7:Bool) (h0:Inv i0 a7):whg big rec k a0 a1 a6 a7 a10 a11 a12 a16 a17 (i0:Int)=res :=
 idxB (fun m i=>∀(a7:Bool),Inv i a7→wur big (wdv rec) m a0 a1 a6 a7 a10 a11 a12 a16 a17 (i:Int)=res) (fun _ i hl ih a7 h=>hs _ i a7 hl h ih) (fun _ a7 h=>he _ a7 h) i0 hi hn a7 h0
theorem xlq {a1:(Y5×Z1)}{a9:Int}(cnt:Nat) (Inv:T6){res:Z2}(hn:cnt≤500000000000)
 (hs:∀(rc:T84) (i:Nat) (a5:Y4),i<cnt→Inv i a5→(∀(a5':Y4),Inv (i+1) a5'→rc a1 a5' a9 ((i+1:Nat):Int)=res)→whk rc wdx a1 a5 a9 (i:Int)=res)
 (he:∀(rc:T84) (a5:Y4),Inv cnt a5→whk rc wdx a1 a5 a9 (cnt:Int)=res)
 (i0:Nat) (hi:i0≤cnt) (a5:Y4) (h0:Inv i0 a5):wus big a1 a5 a9 (i0:Int)=res :=
 idxB (fun m i=>∀(a5:Y4),Inv i a5→wut big wdx m a1 a5 a9 (i:Int)=res) (fun _ i hl ih a5 h=>hs _ i a5 hl h ih) (fun _ a5 h=>he _ a5 h) i0 hi hn a5 h0
theorem xlr {a1:Y5}{a11:Int}(cnt:Nat) (Inv:T128){res:Z3}(hn:cnt≤500000000000)
 (hs:∀(rc:T62) (i:Nat) (a4:Y3),i<cnt→Inv i a4→(∀(a4':Y3),Inv (i+1) a4'→rc a1 a4' a11 ((i+1:Nat):Int)=res)→wd0 (whl big rc yz) yz a1 a4 a11 (i:Int)=res)
 (he:∀(rc:T62) (a4:Y3),Inv cnt a4→wd0 (whl big rc yz) yz a1 a4 a11 (cnt:Int)=res)
 (i0:Nat) (hi:i0≤cnt) (a4:Y3) (h0:Inv i0 a4):wuu big a1 a4 a11 (i0:Int)=res :=
 idxB (fun m i=>∀(a4:Y3),Inv i a4→wuv big yz m a1 a4 a11 (i:Int)=res) (fun _ i hl ih a4 h=>hs _ i a4 hl h ih) (fun _ a4 h=>he _ a4 h) i0 hi hn a4 h0
theorem xls {rec:T62}{k:T118}{a1:Y5}{a4:Y3}{a5:Int}{a11:Int}{a12:Int}{a17:Int}(cnt:Nat) (Inv:T6){res:Z3}(hn:cnt≤500000000000)
 (hs:∀(rc:T40) (i:Nat) (a6:Y4),i<cnt→Inv i a6→(∀(a6':Y4),Inv (i+1) a6'→rc a1 a4 a5 a6' a11 a12 a17 ((i+1:Nat):Int)=res)→whn rc (wdz rec) a1 a4 a5 a6 a11 a12 a17 (i:Int)=res)
 (he:∀(rc:T40) (a6:Y4),Inv cnt a6→whn rc (wdz rec) a1 a4 a5 a6 a11 a12 a17 (cnt:Int)=res)
 (i0:Nat) (hi:i0≤cnt) (a6:Y4) (h0:Inv i0 a6):whl big rec k a1 a4 a5 a6 a11 a12 a17 (i0:Int)=res :=
 idxB (fun m i=>∀(a6:Y4),Inv i a6→wuw big (wdz rec) m a1 a4 a5 a6 a11 a12 a17 (i:Int)=res) (fun _ i hl ih a6 h=>hs _ i a6 hl h ih) (fun _ a6 h=>he _ a6 h) i0 hi hn a6 h0
theorem xlt {a0:Y5}{a10:Int}(cnt:Nat) (Inv:T70){res:Z14}(hn:cnt≤500000000000)
 (hs:∀(rc:T34) (i:Nat) (a3:Y5),i<cnt→Inv i a3→(∀(a3':Y5),Inv (i+1) a3'→rc a0 a3' a10 ((i+1:Nat):Int)=res)→wd3 (who big rc y5) y5 a0 a3 a10 (i:Int)=res)
 (he:∀(rc:T34) (a3:Y5),Inv cnt a3→wd3 (who big rc y5) y5 a0 a3 a10 (cnt:Int)=res)
 (i0:Nat) (hi:i0≤cnt) (a3:Y5) (h0:Inv i0 a3):wux big a0 a3 a10 (i0:Int)=res :=
 idxB (fun m i=>∀(a3:Y5),Inv i a3→wuy big y5 m a0 a3 a10 (i:Int)=res) (fun _ i hl ih a3 h=>hs _ i a3 hl h ih) (fun _ a3 h=>he _ a3 h) i0 hi hn a3 h0
theorem xlu {rec:T34}{k:Y5→Z14}{a0:Y5}{a4:Int}{a10:Int}{a11:Int}{a15:Int}(cnt:Nat) (Inv:T70){res:Z14}(hn:cnt≤500000000000)
 (hs:∀(rc:T51) (i:Nat) (a3:Y5),i<cnt→Inv i a3→(∀(a3':Y5),Inv (i+1) a3'→rc a0 a3' a4 a10 a11 a15 ((i+1:Nat):Int)=res)→whq rc (wd2 rec) a0 a3 a4 a10 a11 a15 (i:Int)=res)
 (he:∀(rc:T51) (a3:Y5),Inv cnt a3→whq rc (wd2 rec) a0 a3 a4 a10 a11 a15 (cnt:Int)=res)
 (i0:Nat) (hi:i0≤cnt) (a3:Y5) (h0:Inv i0 a3):who big rec k a0 a3 a4 a10 a11 a15 (i0:Int)=res :=
 idxB (fun m i=>∀(a3:Y5),Inv i a3→wuz big (wd2 rec) m a0 a3 a4 a10 a11 a15 (i:Int)=res) (fun _ i hl ih a3 h=>hs _ i a3 hl h ih) (fun _ a3 h=>he _ a3 h) i0 hi hn a3 h0
theorem xlv {a0:Y1}{a10:Int}(cnt:Nat) (Inv:T10){Q:Z10→Prop}(hn:cnt≤500000000000)
 (hs:∀(rc:T37) (i:Nat),i<cnt→Inv i→(Inv (i+1)→Q (rc a0 a10 ((i+1:Nat):Int)))→Q (wd7 (whr big rc y6) y6 a0 a10 (i:Int)))
 (he:∀(rc:T37),Inv cnt→Q (wd7 (whr big rc y6) y6 a0 a10 (cnt:Int)))
 (i0:Nat) (hi:i0≤cnt) (h0:Inv i0):Q (wu0 big a0 a10 (i0:Int)) :=
 idxB (fun m i=>Inv i→Q (wu1 big y6 m a0 a10 (i:Int))) (fun _ i hl ih h=>hs _ i hl h ih) (fun _ h=>he _ h) i0 hi hn h0
theorem xlw {rec:T37}{k:Z10}{a0:Y1}{a3:Int}{a10:Int}{a11:Int}{a18:Int}(cnt:Nat) (Inv:T10){Q:Z10→Prop}(hn:cnt≤500000000000)
 (hs:∀(rc:T14) (i:Nat),i<cnt→Inv i→(Inv (i+1)→Q (rc a0 a3 a10 a11 a18 ((i+1:Nat):Int)))→Q (wd8 (whs big rc (y7 rec)) (y7 rec) a0 a3 a10 a11 a18 (i:Int)))
 (he:∀(rc:T14),Inv cnt→Q (wd8 (whs big rc (y7 rec)) (y7 rec) a0 a3 a10 a11 a18 (cnt:Int)))
 (i0:Nat) (hi:i0≤cnt) (h0:Inv i0):Q (whr big rec k a0 a3 a10 a11 a18 (i0:Int)) :=
 idxB (fun m i=>Inv i→Q (wu2 big (y7 rec) m a0 a3 a10 a11 a18 (i:Int))) (fun _ i hl ih h=>hs _ i hl h ih) (fun _ h=>he _ h) i0 hi hn h0
theorem xlx {rec:T14}{k:T37}{a0:Y1}{a3:Int}{a4:Int}{a10:Int}{a11:Int}{a18:Int}{a19:Int}{a26:Int}(cnt:Nat) (Inv:T10){Q:Z10→Prop}(hn:cnt≤500000000000)
 (hs:∀(rc:T30) (i:Nat),i<cnt→Inv i→(Inv (i+1)→Q (rc a0 a3 a4 a10 a11 a18 a19 a26 ((i+1:Nat):Int)))→Q (whu rc (wd6 rec) a0 a3 a4 a10 a11 a18 a19 a26 (i:Int)))
 (he:∀(rc:T30),Inv cnt→Q (whu rc (wd6 rec) a0 a3 a4 a10 a11 a18 a19 a26 (cnt:Int)))
 (i0:Nat) (hi:i0≤cnt) (h0:Inv i0):Q (whs big rec k a0 a3 a4 a10 a11 a18 a19 a26 (i0:Int)) :=
 idxB (fun m i=>Inv i→Q (wu3 big (wd6 rec) m a0 a3 a4 a10 a11 a18 a19 a26 (i:Int))) (fun _ i hl ih h=>hs _ i hl h ih) (fun _ h=>he _ h) i0 hi hn h0
theorem xly {a0:Y1}{a9:Int}(cnt:Nat) (Inv:Nat→Int→Prop){res:Z6}(hn:cnt≤500000000000)
 (hs:∀(rc:T35) (i:Nat) (a3:Int),i<cnt→Inv i a3→(∀(a3':Int),Inv (i+1) a3'→rc a0 a3' a9 ((i+1:Nat):Int)=res)→whw rc wd9 a0 a3 a9 (i:Int)=res)
 (he:∀(rc:T35) (a3:Int),Inv cnt a3→whw rc wd9 a0 a3 a9 (cnt:Int)=res)
 (i0:Nat) (hi:i0≤cnt) (a3:Int) (h0:Inv i0 a3):wu4 big a0 a3 a9 (i0:Int)=res :=
 idxB (fun m i=>∀(a3:Int),Inv i a3→wu5 big wd9 m a0 a3 a9 (i:Int)=res) (fun _ i hl ih a3 h=>hs _ i a3 hl h ih) (fun _ a3 h=>he _ a3 h) i0 hi hn a3 h0
theorem xlz {a0:Y1}{a9:Int}(cnt:Nat) (Inv:Nat→Int→Prop){res:Z6}(hn:cnt≤500000000000)
 (hs:∀(rc:T35) (i:Nat) (a3:Int),i<cnt→Inv i a3→(∀(a3':Int),Inv (i+1) a3'→rc a0 a3' a9 ((i+1:Nat):Int)=res)→why rc wea a0 a3 a9 (i:Int)=res)
 (he:∀(rc:T35) (a3:Int),Inv cnt a3→why rc wea a0 a3 a9 (cnt:Int)=res)
 (i0:Nat) (hi:i0≤cnt) (a3:Int) (h0:Inv i0 a3):wu6 big a0 a3 a9 (i0:Int)=res :=
 idxB (fun m i=>∀(a3:Int),Inv i a3→wu7 big wea m a0 a3 a9 (i:Int)=res) (fun _ i hl ih a3 h=>hs _ i a3 hl h ih) (fun _ a3 h=>he _ a3 h) i0 hi hn a3 h0
theorem xl0 {a1:(Y1×(Int×Z1))}{a9:Int}(cnt:Nat) (Inv:T6){res:Z2}(hn:cnt≤500000000000)
 (hs:∀(rc:(Y1×(Int×Z1))→Y4→Int→Int→Z2) (i:Nat) (a5:Y4),i<cnt→Inv i a5→(∀(a5':Y4),Inv (i+1) a5'→rc a1 a5' a9 ((i+1:Nat):Int)=res)→wh0 rc web a1 a5 a9 (i:Int)=res)
 (he:∀(rc:(Y1×(Int×Z1))→Y4→Int→Int→Z2) (a5:Y4),Inv cnt a5→wh0 rc web a1 a5 a9 (cnt:Int)=res)
 (i0:Nat) (hi:i0≤cnt) (a5:Y4) (h0:Inv i0 a5):wu8 big a1 a5 a9 (i0:Int)=res :=
 idxB (fun m i=>∀(a5:Y4),Inv i a5→wu9 big web m a1 a5 a9 (i:Int)=res) (fun _ i hl ih a5 h=>hs _ i a5 hl h ih) (fun _ a5 h=>he _ a5 h) i0 hi hn a5 h0
theorem xl1 {a1:(Y1×Unit)}{a9:Int}(cnt:Nat) (Inv:T6){res:Z2}(hn:cnt≤500000000000)
 (hs:∀(rc:T76) (i:Nat) (a5:Y4),i<cnt→Inv i a5→(∀(a5':Y4),Inv (i+1) a5'→rc a1 a5' a9 ((i+1:Nat):Int)=res)→wh2 rc wec a1 a5 a9 (i:Int)=res)
 (he:∀(rc:T76) (a5:Y4),Inv cnt a5→wh2 rc wec a1 a5 a9 (cnt:Int)=res)
 (i0:Nat) (hi:i0≤cnt) (a5:Y4) (h0:Inv i0 a5):wva big a1 a5 a9 (i0:Int)=res :=
 idxB (fun m i=>∀(a5:Y4),Inv i a5→wvb big wec m a1 a5 a9 (i:Int)=res) (fun _ i hl ih a5 h=>hs _ i a5 hl h ih) (fun _ a5 h=>he _ a5 h) i0 hi hn a5 h0
theorem xl2 {a0:Y1}{a10:Int}(cnt:Nat) (Inv:T6){res:Z2}(hn:cnt≤500000000000)
 (hs:∀(rc:T104) (i:Nat) (a3:Y4),i<cnt→Inv i a3→(∀(a3':Y4),Inv (i+1) a3'→rc a0 a3' a10 ((i+1:Nat):Int)=res)→wh4 rc wed a0 a3 a10 (i:Int)=res)
 (he:∀(rc:T104) (a3:Y4),Inv cnt a3→wh4 rc wed a0 a3 a10 (cnt:Int)=res)
 (i0:Nat) (hi:i0≤cnt) (a3:Y4) (h0:Inv i0 a3):wvc big a0 a3 a10 (i0:Int)=res :=
 idxB (fun m i=>∀(a3:Y4),Inv i a3→wvd big wed m a0 a3 a10 (i:Int)=res) (fun _ i hl ih a3 h=>hs _ i a3 hl h ih) (fun _ a3 h=>he _ a3 h) i0 hi hn a3 h0
theorem xl3 {a0:Y4}{a9:Int}(cnt:Nat) (Inv:T6){res:Z2}(hn:cnt≤500000000000)
 (hs:∀(rc:T16) (i:Nat) (a3:Y4),i<cnt→Inv i a3→(∀(a3':Y4),Inv (i+1) a3'→rc a0 a3' a9 ((i+1:Nat):Int)=res)→wef (wh5 big rc y8) y8 a0 a3 a9 (i:Int)=res)
 (he:∀(rc:T16) (a3:Y4),Inv cnt a3→wef (wh5 big rc y8) y8 a0 a3 a9 (cnt:Int)=res)
 (i0:Nat) (hi:i0≤cnt) (a3:Y4) (h0:Inv i0 a3):wve big a0 a3 a9 (i0:Int)=res :=
 idxB (fun m i=>∀(a3:Y4),Inv i a3→wvg big y8 m a0 a3 a9 (i:Int)=res) (fun _ i hl ih a3 h=>hs _ i a3 hl h ih) (fun _ a3 h=>he _ a3 h) i0 hi hn a3 h0
theorem xl4 {rec:T16}{k:T21}{a0:Y4}{a4:Int}{a9:Int}{a10:Int}(mu:Y4→Nat) (Inv:Y4→Prop){res:Z2}
 (hs:∀(rc:T115) (a3:Y4),Inv a3→(∀(a3':Y4),Inv a3'→mu a3'<mu a3→rc a0 a3' a4 a9 a10=res)→wvf rc (wh7 rec) a0 a3 a4 a9 a10=res)
 (a3:Y4) (hm:mu a3≤500000000000) (h0:Inv a3):wh5 big rec k a0 a3 a4 a9 a10=res :=
 muR (fun m=>∀(a3:Y4),mu a3<m→Inv a3→wvh big (wh7 rec) m a0 a3 a4 a9 a10=res) (fun a3 h2 _=>absurd h2 (Nat.not_lt_zero _)) (fun _ ih a3 h2 h3=>hs _ a3 h3 fun a3' h4 h5=>ih a3' (by omega) h4) big a3 (by have:=jp;omega) h0
theorem xl5 {a0:Y4}{a1:Y4}(cnt:Nat) (Inv:T10){res:Z0}(hn:cnt≤500000000000)
 (hs:∀(rc:T17) (i:Nat),i<cnt→Inv i→(Inv (i+1)→rc a0 a1 ((i+1:Nat):Int)=res)→wia rc weh a0 a1 (i:Int)=res)
 (he:∀(rc:T17),Inv cnt→wia rc weh a0 a1 (cnt:Int)=res)
 (i0:Nat) (hi:i0≤cnt) (h0:Inv i0):wvl big a0 a1 (i0:Int)=res :=
 idxB (fun m i=>Inv i→wvm big weh m a0 a1 (i:Int)=res) (fun _ i hl ih h=>hs _ i hl h ih) (fun _ h=>he _ h) i0 hi hn h0
theorem xl6 {a1:Y2}{a3:Int}(cnt:Nat) (Inv:T10){res:Z0}(hn:cnt≤500000000000)
 (hs:∀(rc:T29) (i:Nat),i<cnt→Inv i→(Inv (i+1)→rc a1 a3 ((i+1:Nat):Int)=res)→wic rc (wek (war big)) a1 a3 (i:Int)=res)
 (he:∀(rc:T29),Inv cnt→wic rc (wek (war big)) a1 a3 (cnt:Int)=res)
 (i0:Nat) (hi:i0≤cnt) (h0:Inv i0):wvn big a1 a3 (i0:Int)=res :=
 idxB (fun m i=>Inv i→wvo big (wek (war big)) m a1 a3 (i:Int)=res) (fun _ i hl ih h=>hs _ i hl h ih) (fun _ h=>he _ h) i0 hi hn h0
theorem xjk {a1:Y2}{a3:Int}(cnt:Nat) (Inv:T10){res:Z0}(hn:cnt≤500000000000)
 (hs:∀(rc:T29) (i:Nat),i<cnt→Inv i→(Inv (i+1)→rc a1 a3 ((i+1:Nat):Int)=res)→wau (wei big rc xr) xr a1 a3 (i:Int)=res)
 (he:∀(rc:T29),Inv cnt→wau (wei big rc xr) xr a1 a3 (cnt:Int)=res)
 (i0:Nat) (hi:i0≤cnt) (h0:Inv i0):war big a1 a3 (i0:Int)=res :=
 idxB (fun m i=>Inv i→wrc big xr m a1 a3 (i:Int)=res) (fun _ i hl ih h=>hs _ i hl h ih) (fun _ h=>he _ h) i0 hi hn h0
theorem xjl {rec:T29}{k:Z0}{a1:Y2}{a3:Int}{a5:Int}(cnt:Nat) (Inv:T10){res:Z0}(hn:cnt≤500000000000)
 (hs:∀(rc:T97) (i:Nat),i<cnt→Inv i→(Inv (i+1)→rc a1 a3 a5 ((i+1:Nat):Int)=res)→wel rc (wat rec) a1 a3 a5 (i:Int)=res)
 (he:∀(rc:T97),Inv cnt→wel rc (wat rec) a1 a3 a5 (cnt:Int)=res)
 (i0:Nat) (hi:i0≤cnt) (h0:Inv i0):wei big rec k a1 a3 a5 (i0:Int)=res :=
 idxB (fun m i=>Inv i→wrd big (wat rec) m a1 a3 a5 (i:Int)=res) (fun _ i hl ih h=>hs _ i hl h ih) (fun _ h=>he _ h) i0 hi hn h0
theorem xl7 {a1:Y2}{a2:Y2}(cnt:Nat) (Inv:Nat→Y2→Prop){res:Z4}(hn:cnt≤500000000000)
 (hs:∀(rc:T72) (i:Nat) (a3:Y2),i<cnt→Inv i a3→(∀(a3':Y2),Inv (i+1) a3'→rc a1 a2 a3' ((i+1:Nat):Int)=res)→weo (wid big rc y9) y9 a1 a2 a3 (i:Int)=res)
 (he:∀(rc:T72) (a3:Y2),Inv cnt a3→weo (wid big rc y9) y9 a1 a2 a3 (cnt:Int)=res)
 (i0:Nat) (hi:i0≤cnt) (a3:Y2) (h0:Inv i0 a3):wvp big a1 a2 a3 (i0:Int)=res :=
 idxB (fun m i=>∀(a3:Y2),Inv i a3→wvq big y9 m a1 a2 a3 (i:Int)=res) (fun _ i hl ih a3 h=>hs _ i a3 hl h ih) (fun _ a3 h=>he _ a3 h) i0 hi hn a3 h0
theorem xl8 {rec:T72}{k:T53}{a1:Y2}{a2:Y2}{a3:Y2}{a4:Int}(cnt:Nat) (Inv:T6){res:Z4}(hn:cnt≤500000000000)
 (hs:∀(rc:T74) (i:Nat) (a5:Y4),i<cnt→Inv i a5→(∀(a5':Y4),Inv (i+1) a5'→rc a1 a2 a3 a4 a5' ((i+1:Nat):Int)=res)→wif rc (wen rec) a1 a2 a3 a4 a5 (i:Int)=res)
 (he:∀(rc:T74) (a5:Y4),Inv cnt a5→wif rc (wen rec) a1 a2 a3 a4 a5 (cnt:Int)=res)
 (i0:Nat) (hi:i0≤cnt) (a5:Y4) (h0:Inv i0 a5):wid big rec k a1 a2 a3 a4 a5 (i0:Int)=res :=
 idxB (fun m i=>∀(a5:Y4),Inv i a5→wvr big (wen rec) m a1 a2 a3 a4 a5 (i:Int)=res) (fun _ i hl ih a5 h=>hs _ i a5 hl h ih) (fun _ a5 h=>he _ a5 h) i0 hi hn a5 h0
theorem xl9 {a1:Y4}{a2:Y2}(cnt:Nat) (Inv:T6){res:Z6}(hn:cnt≤500000000000)
 (hs:∀(rc:T73) (i:Nat) (a5:Y4),i<cnt→Inv i a5→(∀(a5':Y4),Inv (i+1) a5'→rc a1 a2 a5' ((i+1:Nat):Int)=res)→wet (wig big rc (za (xt big))) (za (xt big)) a1 a2 a5 (i:Int)=res)
 (he:∀(rc:T73) (a5:Y4),Inv cnt a5→wet (wig big rc (za (xt big))) (za (xt big)) a1 a2 a5 (cnt:Int)=res)
 (i0:Nat) (hi:i0≤cnt) (a5:Y4) (h0:Inv i0 a5):wvs big a1 a2 a5 (i0:Int)=res :=
 idxB (fun m i=>∀(a5:Y4),Inv i a5→wvt big (za (xt big)) m a1 a2 a5 (i:Int)=res) (fun _ i hl ih a5 h=>hs _ i a5 hl h ih) (fun _ a5 h=>he _ a5 h) i0 hi hn a5 h0
theorem xma {rec:T73}{k:Y2→Y4→Z6}{a1:Y4}{a2:Y2}{a5:Y4}{a6:Int}(cnt:Nat) (Inv:Nat→Bool→Prop){res:Z6}(hn:cnt≤500000000000)
 (hs:∀(rc:T63) (i:Nat) (a7:Bool),i<cnt→Inv i a7→(∀(a7':Bool),Inv (i+1) a7'→rc a1 a2 a5 a6 a7' ((i+1:Nat):Int)=res)→wii rc (wer rec) a1 a2 a5 a6 a7 (i:Int)=res)
 (he:∀(rc:T63) (a7:Bool),Inv cnt a7→wii rc (wer rec) a1 a2 a5 a6 a7 (cnt:Int)=res)
 (i0:Nat) (hi:i0≤cnt) (a7:Bool) (h0:Inv i0 a7):wig big rec k a1 a2 a5 a6 a7 (i0:Int)=res :=
 idxB (fun m i=>∀(a7:Bool),Inv i a7→wvu big (wer rec) m a1 a2 a5 a6 a7 (i:Int)=res) (fun _ i hl ih a7 h=>hs _ i a7 hl h ih) (fun _ a7 h=>he _ a7 h) i0 hi hn a7 h0
theorem xjp {a2:Y2}{a5:Y4}(cnt:Nat) (Inv:T10){res:Z6}(hn:cnt≤500000000000)
 (hs:∀(rc:T125) (i:Nat),i<cnt→Inv i→(Inv (i+1)→rc a2 a5 ((i+1:Nat):Int)=res)→wes rc wav a2 a5 (i:Int)=res)
 (he:∀(rc:T125),Inv cnt→wes rc wav a2 a5 (cnt:Int)=res)
 (i0:Nat) (hi:i0≤cnt) (h0:Inv i0):xt big a2 a5 (i0:Int)=res :=
 idxB (fun m i=>Inv i→wre big wav m a2 a5 (i:Int)=res) (fun _ i hl ih h=>hs _ i hl h ih) (fun _ h=>he _ h) i0 hi hn h0
theorem xmb {a1:Y2}{a3:Y2}(cnt:Nat) (Inv:T10){res:Z0}(hn:cnt≤500000000000)
 (hs:∀(rc:T64) (i:Nat),i<cnt→Inv i→(Inv (i+1)→rc a1 a3 ((i+1:Nat):Int)=res)→wew (wij big rc zb) zb a1 a3 (i:Int)=res)
 (he:∀(rc:T64),Inv cnt→wew (wij big rc zb) zb a1 a3 (cnt:Int)=res)
 (i0:Nat) (hi:i0≤cnt) (h0:Inv i0):wvv big a1 a3 (i0:Int)=res :=
 idxB (fun m i=>Inv i→wvw big zb m a1 a3 (i:Int)=res) (fun _ i hl ih h=>hs _ i hl h ih) (fun _ h=>he _ h) i0 hi hn h0
theorem xmc {rec:T64}{k:Z0}{a1:Y2}{a3:Y2}{a4:Int}(cnt:Nat) (Inv:T10){res:Z0}(hn:cnt≤500000000000)
 (hs:∀(rc:T105) (i:Nat),i<cnt→Inv i→(Inv (i+1)→rc a1 a3 a4 ((i+1:Nat):Int)=res)→wil rc (wev rec) a1 a3 a4 (i:Int)=res)
 (he:∀(rc:T105),Inv cnt→wil rc (wev rec) a1 a3 a4 (cnt:Int)=res)
 (i0:Nat) (hi:i0≤cnt) (h0:Inv i0):wij big rec k a1 a3 a4 (i0:Int)=res :=
 idxB (fun m i=>Inv i→wvx big (wev rec) m a1 a3 a4 (i:Int)=res) (fun _ i hl ih h=>hs _ i hl h ih) (fun _ h=>he _ h) i0 hi hn h0
theorem xme {a1:Y2}{a4:Int}(cnt:Nat) (Inv:T10){Q:Z8→Prop}(hn:cnt≤500000000000)
 (hs:∀(rc:T42) (i:Nat),i<cnt→Inv i→(Inv (i+1)→Q (rc a1 a4 ((i+1:Nat):Int)))→Q (we0 (wim big rc zd) zd a1 a4 (i:Int)))
 (he:∀(rc:T42),Inv cnt→Q (we0 (wim big rc zd) zd a1 a4 (cnt:Int)))
 (i0:Nat) (hi:i0≤cnt) (h0:Inv i0):Q (wvy big a1 a4 (i0:Int)) :=
 idxB (fun m i=>Inv i→Q (wvz big zd m a1 a4 (i:Int))) (fun _ i hl ih h=>hs _ i hl h ih) (fun _ h=>he _ h) i0 hi hn h0
theorem xmf {rec:T42}{k:Z8}{a1:Y2}{a4:Int}{a5:Int}(cnt:Nat) (Inv:T10){Q:Z8→Prop}(hn:cnt≤500000000000)
 (hs:∀(rc:T36) (i:Nat),i<cnt→Inv i→(Inv (i+1)→Q (rc a1 a4 a5 ((i+1:Nat):Int)))→Q (we1 (wio big rc (ze rec)) (ze rec) a1 a4 a5 (i:Int)))
 (he:∀(rc:T36),Inv cnt→Q (we1 (wio big rc (ze rec)) (ze rec) a1 a4 a5 (cnt:Int)))
 (i0:Nat) (hi:i0≤cnt) (h0:Inv i0):Q (wim big rec k a1 a4 a5 (i0:Int)) :=
 idxB (fun m i=>Inv i→Q (wv0 big (ze rec) m a1 a4 a5 (i:Int))) (fun _ i hl ih h=>hs _ i hl h ih) (fun _ h=>he _ h) i0 hi hn h0
theorem xmg {rec:T36}{k:T42}{a1:Y2}{a4:Int}{a5:Int}{a6:Int}(cnt:Nat) (Inv:T10){Q:Z8→Prop}(hn:cnt≤500000000000)
 (hs:∀(rc:T78) (i:Nat),i<cnt→Inv i→(Inv (i+1)→Q (rc a1 a4 a5 a6 ((i+1:Nat):Int)))→Q (wiq rc (wez rec) a1 a4 a5 a6 (i:Int)))
 (he:∀(rc:T78),Inv cnt→Q (wiq rc (wez rec) a1 a4 a5 a6 (cnt:Int)))
 (i0:Nat) (hi:i0≤cnt) (h0:Inv i0):Q (wio big rec k a1 a4 a5 a6 (i0:Int)) :=
 idxB (fun m i=>Inv i→Q (wv1 big (wez rec) m a1 a4 a5 a6 (i:Int))) (fun _ i hl ih h=>hs _ i hl h ih) (fun _ h=>he _ h) i0 hi hn h0
theorem xmh {a1:Int}{a2:Int}{a3:Int}{a4:Y2}(cnt:Nat) (Inv:T6){res:Z2}(hn:cnt≤500000000000)
 (hs:∀(rc:T65) (i:Nat) (a9:Y4),i<cnt→Inv i a9→(∀(a9':Y4),Inv (i+1) a9'→rc a1 a2 a3 a4 a9' ((i+1:Nat):Int)=res)→wis rc we2 a1 a2 a3 a4 a9 (i:Int)=res)
 (he:∀(rc:T65) (a9:Y4),Inv cnt a9→wis rc we2 a1 a2 a3 a4 a9 (cnt:Int)=res)
 (i0:Nat) (hi:i0≤cnt) (a9:Y4) (h0:Inv i0 a9):wv2 big a1 a2 a3 a4 a9 (i0:Int)=res :=
 idxB (fun m i=>∀(a9:Y4),Inv i a9→wv3 big we2 m a1 a2 a3 a4 a9 (i:Int)=res) (fun _ i hl ih a9 h=>hs _ i a9 hl h ih) (fun _ a9 h=>he _ a9 h) i0 hi hn a9 h0
theorem xmi {a1:Y2}(cnt:Nat) (Inv:T6){res:Z2}(hn:cnt≤500000000000)
 (hs:∀(rc:T66) (i:Nat) (a3:Y4),i<cnt→Inv i a3→(∀(a3':Y4),Inv (i+1) a3'→rc a1 a3' ((i+1:Nat):Int)=res)→wiu rc we3 a1 a3 (i:Int)=res)
 (he:∀(rc:T66) (a3:Y4),Inv cnt a3→wiu rc we3 a1 a3 (cnt:Int)=res)
 (i0:Nat) (hi:i0≤cnt) (a3:Y4) (h0:Inv i0 a3):wv4 big a1 a3 (i0:Int)=res :=
 idxB (fun m i=>∀(a3:Y4),Inv i a3→wv5 big we3 m a1 a3 (i:Int)=res) (fun _ i hl ih a3 h=>hs _ i a3 hl h ih) (fun _ a3 h=>he _ a3 h) i0 hi hn a3 h0
theorem xmj {a1:Y2}(cnt:Nat) (Inv:T6){res:Z2}(hn:cnt≤500000000000)
 (hs:∀(rc:T66) (i:Nat) (a3:Y4),i<cnt→Inv i a3→(∀(a3':Y4),Inv (i+1) a3'→rc a1 a3' ((i+1:Nat):Int)=res)→wiw rc we4 a1 a3 (i:Int)=res)
 (he:∀(rc:T66) (a3:Y4),Inv cnt a3→wiw rc we4 a1 a3 (cnt:Int)=res)
 (i0:Nat) (hi:i0≤cnt) (a3:Y4) (h0:Inv i0 a3):wv6 big a1 a3 (i0:Int)=res :=
 idxB (fun m i=>∀(a3:Y4),Inv i a3→wv7 big we4 m a1 a3 (i:Int)=res) (fun _ i hl ih a3 h=>hs _ i a3 hl h ih) (fun _ a3 h=>he _ a3 h) i0 hi hn a3 h0
theorem xmk {a1:Int}{a2:Y2}{a6:Y4}(cnt:Nat) (Inv:T6){res:Z2}(hn:cnt≤500000000000)
 (hs:∀(rc:T50) (i:Nat) (a5:Y4),i<cnt→Inv i a5→(∀(a5':Y4),Inv (i+1) a5'→rc a1 a2 a5' a6 ((i+1:Nat):Int)=res)→we7 (wix big rc zf) zf a1 a2 a5 a6 (i:Int)=res)
 (he:∀(rc:T50) (a5:Y4),Inv cnt a5→we7 (wix big rc zf) zf a1 a2 a5 a6 (cnt:Int)=res)
 (i0:Nat) (hi:i0≤cnt) (a5:Y4) (h0:Inv i0 a5):wv8 big a1 a2 a5 a6 (i0:Int)=res :=
 idxB (fun m i=>∀(a5:Y4),Inv i a5→wv9 big zf m a1 a2 a5 a6 (i:Int)=res) (fun _ i hl ih a5 h=>hs _ i a5 hl h ih) (fun _ a5 h=>he _ a5 h) i0 hi hn a5 h0
theorem xml {rec:T50}{k:T21}{a1:Int}{a2:Y2}{a5:Y4}{a6:Y4}{a7:Int}(cnt:Nat) (Inv:T10){res:Z2}(hn:cnt≤500000000000)
 (hs:∀(rc:T47) (i:Nat),i<cnt→Inv i→(Inv (i+1)→rc a1 a2 a5 a6 a7 ((i+1:Nat):Int)=res)→wiz rc (we6 rec) a1 a2 a5 a6 a7 (i:Int)=res)
 (he:∀(rc:T47),Inv cnt→wiz rc (we6 rec) a1 a2 a5 a6 a7 (cnt:Int)=res)
 (i0:Nat) (hi:i0≤cnt) (h0:Inv i0):wix big rec k a1 a2 a5 a6 a7 (i0:Int)=res :=
 idxB (fun m i=>Inv i→wwa big (we6 rec) m a1 a2 a5 a6 a7 (i:Int)=res) (fun _ i hl ih h=>hs _ i hl h ih) (fun _ h=>he _ h) i0 hi hn h0
theorem xmm {a0:Y4}{a1:Y4}(cnt:Nat) (Inv:T10){res:Z0}(hn:cnt≤500000000000)
 (hs:∀(rc:T17) (i:Nat),i<cnt→Inv i→(Inv (i+1)→rc a0 a1 ((i+1:Nat):Int)=res)→wi1 rc we8 a0 a1 (i:Int)=res)
 (he:∀(rc:T17),Inv cnt→wi1 rc we8 a0 a1 (cnt:Int)=res)
 (i0:Nat) (hi:i0≤cnt) (h0:Inv i0):wwb big a0 a1 (i0:Int)=res :=
 idxB (fun m i=>Inv i→wwc big we8 m a0 a1 (i:Int)=res) (fun _ i hl ih h=>hs _ i hl h ih) (fun _ h=>he _ h) i0 hi hn h0
theorem xmn {a1:Y4}{a12:Y4}{a13:Int}(cnt:Nat) (Inv:T10){res:Z0}(hn:cnt≤500000000000)
 (hs:∀(rc:T38) (i:Nat),i<cnt→Inv i→(Inv (i+1)→rc a1 a12 a13 ((i+1:Nat):Int)=res)→wi3 rc we9 a1 a12 a13 (i:Int)=res)
 (he:∀(rc:T38),Inv cnt→wi3 rc we9 a1 a12 a13 (cnt:Int)=res)
 (i0:Nat) (hi:i0≤cnt) (h0:Inv i0):wwd big a1 a12 a13 (i0:Int)=res :=
 idxB (fun m i=>Inv i→wwe big we9 m a1 a12 a13 (i:Int)=res) (fun _ i hl ih h=>hs _ i hl h ih) (fun _ h=>he _ h) i0 hi hn h0
theorem wwg {a1:Y4}{a6:Y1}{a20:Int}(cnt:Nat) (Inv:T10){res:Z12}(hn:cnt≤500000000000)
 (hs:∀(rc:T98) (i:Nat),i<cnt→Inv i→(Inv (i+1)→rc a1 a6 a20 ((i+1:Nat):Int)=res)→x6 rc wfa a1 a6 a20 (i:Int)=res)
 (he:∀(rc:T98),Inv cnt→x6 rc wfa a1 a6 a20 (cnt:Int)=res)
 (i0:Nat) (hi:i0≤cnt) (h0:Inv i0):wwf big a1 a6 a20 (i0:Int)=res :=
 idxB (fun m i=>Inv i→wwh big wfa m a1 a6 a20 (i:Int)=res) (fun _ i hl ih h=>hs _ i hl h ih) (fun _ h=>he _ h) i0 hi hn h0
theorem xmo {a2:Y6}{a7:Y3}{a8:Int}(cnt:Nat) (Inv:Nat→Y6→Prop){res:Option (Y6×Unit)}(hn:cnt≤500000000000)
 (hs:∀(rc:Y6→Y6→Y3→Int→Int→Option (Y6×Unit)) (i:Nat) (a3:Y6),i<cnt→Inv i a3→(∀(a3':Y6),Inv (i+1) a3'→rc a2 a3' a7 a8 ((i+1:Nat):Int)=res)→wi6 rc wfb a2 a3 a7 a8 (i:Int)=res)
 (he:∀(rc:Y6→Y6→Y3→Int→Int→Option (Y6×Unit)) (a3:Y6),Inv cnt a3→wi6 rc wfb a2 a3 a7 a8 (cnt:Int)=res)
 (i0:Nat) (hi:i0≤cnt) (a3:Y6) (h0:Inv i0 a3):wwi big a2 a3 a7 a8 (i0:Int)=res :=
 idxB (fun m i=>∀(a3:Y6),Inv i a3→wwj big wfb m a2 a3 a7 a8 (i:Int)=res) (fun _ i hl ih a3 h=>hs _ i a3 hl h ih) (fun _ a3 h=>he _ a3 h) i0 hi hn a3 h0
theorem xmq {a0:Int}(mu:Int→Int→Nat) (Inv:Int→Int→Prop){res:Z6}
 (hs:∀(rc:T101) (a1 a5:Int),Inv a1 a5→(∀(a1':Int) (a5':Int),Inv a1' a5'→mu a1' a5'<mu a1 a5→rc a0 a1' a5'=res)→wwl rc wi8 a0 a1 a5=res)
 (a1 a5:Int) (hm:mu a1 a5≤500000000000) (h0:Inv a1 a5):wwk big a0 a1 a5=res :=
 muR (fun m=>∀(a1 a5:Int),mu a1 a5<m→Inv a1 a5→wwm big wi8 m a0 a1 a5=res) (fun a1 a5 h2 _=>absurd h2 (Nat.not_lt_zero _)) (fun _ ih a1 a5 h2 h3=>hs _ a1 a5 h3 fun a1' a5' h4 h5=>ih a1' a5' (by omega) h4) big a1 a5 (by have:=jp;omega) h0
theorem xmr {a1:Y7}{a20:(List Y6)}{a21:Int}(cnt:Nat) (Inv:T10){res:Z0}(hn:cnt≤500000000000)
 (hs:∀(rc:T87) (i:Nat),i<cnt→Inv i→(Inv (i+1)→rc a1 a20 a21 ((i+1:Nat):Int)=res)→wja rc wfc a1 a20 a21 (i:Int)=res)
 (he:∀(rc:T87),Inv cnt→wja rc wfc a1 a20 a21 (cnt:Int)=res)
 (i0:Nat) (hi:i0≤cnt) (h0:Inv i0):wwn big a1 a20 a21 (i0:Int)=res :=
 idxB (fun m i=>Inv i→wwo big wfc m a1 a20 a21 (i:Int)=res) (fun _ i hl ih h=>hs _ i hl h ih) (fun _ h=>he _ h) i0 hi hn h0
theorem xms {a1:Y4}{a11:Y4}{a12:Int}(cnt:Nat) (Inv:T10){res:Z0}(hn:cnt≤500000000000)
 (hs:∀(rc:T38) (i:Nat),i<cnt→Inv i→(Inv (i+1)→rc a1 a11 a12 ((i+1:Nat):Int)=res)→wjc rc wfd a1 a11 a12 (i:Int)=res)
 (he:∀(rc:T38),Inv cnt→wjc rc wfd a1 a11 a12 (cnt:Int)=res)
 (i0:Nat) (hi:i0≤cnt) (h0:Inv i0):wwp big a1 a11 a12 (i0:Int)=res :=
 idxB (fun m i=>Inv i→wwq big wfd m a1 a11 a12 (i:Int)=res) (fun _ i hl ih h=>hs _ i hl h ih) (fun _ h=>he _ h) i0 hi hn h0
theorem xmt {a1:Int}{a2:Int}{a25:Int}(cnt:Nat) (Inv:T6){res:Z7}(hn:cnt≤500000000000)
 (hs:∀(rc:T79) (i:Nat) (a0:Y4),i<cnt→Inv i a0→(∀(a0':Y4),Inv (i+1) a0'→rc a0' a1 a2 a25 ((i+1:Nat):Int)=res)→wje rc wfe a0 a1 a2 a25 (i:Int)=res)
 (he:∀(rc:T79) (a0:Y4),Inv cnt a0→wje rc wfe a0 a1 a2 a25 (cnt:Int)=res)
 (i0:Nat) (hi:i0≤cnt) (a0:Y4) (h0:Inv i0 a0):wox big a0 a1 a2 a25 (i0:Int)=res :=
 idxB (fun m i=>∀(a0:Y4),Inv i a0→wwr big wfe m a0 a1 a2 a25 (i:Int)=res) (fun _ i hl ih a0 h=>hs _ i a0 hl h ih) (fun _ a0 h=>he _ a0 h) i0 hi hn a0 h0
theorem xch {a2:Y7}(mu:Y4→Bool→Bool→Nat) (Inv:Y4→Bool→Bool→Prop){Q:Z7→Prop}
 (hs:∀(rc:T28) (a1:Y4) (a5 a6:Bool),Inv a1 a5 a6→(∀(a1':Y4) (a5':Bool) (a6':Bool),Inv a1' a5' a6'→mu a1' a5' a6'<mu a1 a5 a6→Q (rc a1' a2 a5' a6'))→Q (wjg (woz big rc wjf) wjf a1 a2 a5 a6))
 (a1:Y4) (a5 a6:Bool) (hm:mu a1 a5 a6≤500000000000) (h0:Inv a1 a5 a6):Q (wws big a1 a2 a5 a6) :=
 muR (fun m=>∀(a1:Y4) (a5 a6:Bool),mu a1 a5 a6<m→Inv a1 a5 a6→Q (wwt big wjf m a1 a2 a5 a6)) (fun a1 a5 a6 h2 _=>absurd h2 (Nat.not_lt_zero _)) (fun _ ih a1 a5 a6 h2 h3=>hs _ a1 a5 a6 h3 fun a1' a5' a6' h4 h5=>ih a1' a5' a6' (by omega) h4) big a1 a5 a6 (by have:=jp;omega) h0
theorem xcg {rec:T28}{k:Y4→Bool→Z7}{a2:Y7}{a16:(List Y6)}{a17:Int}(cnt:Nat) (Inv:Nat→Y4→Bool→Bool→Prop){Q:Z7→Prop}(hn:cnt≤500000000000)
 (hs:∀(rc:T1) (i:Nat) (a1:Y4) (a5 a6:Bool),i<cnt→Inv i a1 a5 a6→(∀(a1':Y4) (a5':Bool) (a6':Bool),Inv (i+1) a1' a5' a6'→Q (rc a1' a2 a5' a6' a16 a17 ((i+1:Nat):Int)))→Q (zg (wfh big rc (x7 rec)) (x7 rec) a1 a2 a5 a6 a16 a17 (i:Int)))
 (he:∀(rc:T1) (a1:Y4) (a5 a6:Bool),Inv cnt a1 a5 a6→Q (zg (wfh big rc (x7 rec)) (x7 rec) a1 a2 a5 a6 a16 a17 (cnt:Int)))
 (i0:Nat) (hi:i0≤cnt) (a1:Y4) (a5 a6:Bool) (h0:Inv i0 a1 a5 a6):Q (woz big rec k a1 a2 a5 a6 a16 a17 (i0:Int)) :=
 idxB (fun m i=>∀(a1:Y4) (a5 a6:Bool),Inv i a1 a5 a6→Q (wwu big (x7 rec) m a1 a2 a5 a6 a16 a17 (i:Int))) (fun _ i hl ih a1 a5 a6 h=>hs _ i a1 a5 a6 hl h ih) (fun _ a1 a5 a6 h=>he _ a1 a5 a6 h) i0 hi hn a1 a5 a6 h0
theorem wrh {rec:T1}{k:T28}{a2:Y7}{a8:Y6}{a16:(List Y6)}{a17:Int}{a18:Int}(cnt:Nat) (Inv:Nat→Y4→Bool→Bool→Int→Prop){Q:Z7→Prop}(hn:cnt≤500000000000)
 (hs:∀(rc:T0) (i:Nat) (a1:Y4) (a5 a6:Bool) (a9:Int),i<cnt→Inv i a1 a5 a6 a9→(∀(a1':Y4) (a5':Bool) (a6':Bool) (a9':Int),Inv (i+1) a1' a5' a6' a9'→Q (rc a1' a2 a5' a6' a8 a9' ((i+1:Nat):Int) a16 a17 a18))→Q (w5 (wfi big rc (wz rec)) (wz rec) a1 a2 a5 a6 a8 a9 (i:Int) a16 a17 a18))
 (he:∀(rc:T0) (a1:Y4) (a5 a6:Bool) (a9:Int),Inv cnt a1 a5 a6 a9→Q (w5 (wfi big rc (wz rec)) (wz rec) a1 a2 a5 a6 a8 a9 (cnt:Int) a16 a17 a18))
 (i0:Nat) (hi:i0≤cnt) (a1:Y4) (a5 a6:Bool) (a9:Int) (h0:Inv i0 a1 a5 a6 a9):Q (wfh big rec k a1 a2 a5 a6 a8 a9 (i0:Int) a16 a17 a18) :=
 idxB (fun m i=>∀(a1:Y4) (a5 a6:Bool) (a9:Int),Inv i a1 a5 a6 a9→Q (wrf big (wz rec) m a1 a2 a5 a6 a8 a9 (i:Int) a16 a17 a18)) (fun _ i hl ih a1 a5 a6 a9 h=>hs _ i a1 a5 a6 a9 hl h ih) (fun _ a1 a5 a6 a9 h=>he _ a1 a5 a6 a9 h) i0 hi hn a1 a5 a6 a9 h0
theorem wri {rec:T0}{k:T1}{a2:Y7}{a8:Y6}{a9:Int}{a10:Int}{a16:(List Y6)}{a17:Int}{a18:Int}{a29:Y4}{a30:Int}(cnt:Nat) (Inv:Nat→Y4→Bool→Bool→Prop){Q:Z7→Prop}(hn:cnt≤500000000000)
 (hs:∀(rc:T9) (i:Nat) (a1:Y4) (a5 a6:Bool),i<cnt→Inv i a1 a5 a6→(∀(a1':Y4) (a5':Bool) (a6':Bool),Inv (i+1) a1' a5' a6'→Q (rc a1' a2 a5' a6' a8 a9 a10 a16 a17 a18 a29 a30 ((i+1:Nat):Int)))→Q (xf rc (xu rec) a1 a2 a5 a6 a8 a9 a10 a16 a17 a18 a29 a30 (i:Int)))
 (he:∀(rc:T9) (a1:Y4) (a5 a6:Bool),Inv cnt a1 a5 a6→Q (xf rc (xu rec) a1 a2 a5 a6 a8 a9 a10 a16 a17 a18 a29 a30 (cnt:Int)))
 (i0:Nat) (hi:i0≤cnt) (a1:Y4) (a5 a6:Bool) (h0:Inv i0 a1 a5 a6):Q (wfi big rec k a1 a2 a5 a6 a8 a9 a10 a16 a17 a18 a29 a30 (i0:Int)) :=
 idxB (fun m i=>∀(a1:Y4) (a5 a6:Bool),Inv i a1 a5 a6→Q (wrg big (xu rec) m a1 a2 a5 a6 a8 a9 a10 a16 a17 a18 a29 a30 (i:Int))) (fun _ i hl ih a1 a5 a6 h=>hs _ i a1 a5 a6 hl h ih) (fun _ a1 a5 a6 h=>he _ a1 a5 a6 h) i0 hi hn a1 a5 a6 h0
theorem xmu {a8:Int}(cnt:Nat) (Inv:T6){res:Z2}(hn:cnt≤500000000000)
 (hs:∀(rc:T52) (i:Nat) (a3:Y4),i<cnt→Inv i a3→(∀(a3':Y4),Inv (i+1) a3'→rc a3' a8 ((i+1:Nat):Int)=res)→wji rc wfk a3 a8 (i:Int)=res)
 (he:∀(rc:T52) (a3:Y4),Inv cnt a3→wji rc wfk a3 a8 (cnt:Int)=res)
 (i0:Nat) (hi:i0≤cnt) (a3:Y4) (h0:Inv i0 a3):wwv big a3 a8 (i0:Int)=res :=
 idxB (fun m i=>∀(a3:Y4),Inv i a3→www big wfk m a3 a8 (i:Int)=res) (fun _ i hl ih a3 h=>hs _ i a3 hl h ih) (fun _ a3 h=>he _ a3 h) i0 hi hn a3 h0
theorem xmw {a2:Y7}{a11:Z15}{a12:Int}(cnt:Nat) (Inv:T6){res:Z2}(hn:cnt≤500000000000)
 (hs:∀(rc:T85) (i:Nat) (a5:Y4),i<cnt→Inv i a5→(∀(a5':Y4),Inv (i+1) a5'→rc a2 a5' a11 a12 ((i+1:Nat):Int)=res)→wjk rc wfl a2 a5 a11 a12 (i:Int)=res)
 (he:∀(rc:T85) (a5:Y4),Inv cnt a5→wjk rc wfl a2 a5 a11 a12 (cnt:Int)=res)
 (i0:Nat) (hi:i0≤cnt) (a5:Y4) (h0:Inv i0 a5):wwx big a2 a5 a11 a12 (i0:Int)=res :=
 idxB (fun m i=>∀(a5:Y4),Inv i a5→wwy big wfl m a2 a5 a11 a12 (i:Int)=res) (fun _ i hl ih a5 h=>hs _ i a5 hl h ih) (fun _ a5 h=>he _ a5 h) i0 hi hn a5 h0
theorem xmx {a10:Y4}{a11:Int}(cnt:Nat) (Inv:T6){res:Z19}(hn:cnt≤500000000000)
 (hs:∀(rc:T99) (i:Nat) (a3:Y4),i<cnt→Inv i a3→(∀(a3':Y4),Inv (i+1) a3'→rc a3' a10 a11 ((i+1:Nat):Int)=res)→wjm rc wfm a3 a10 a11 (i:Int)=res)
 (he:∀(rc:T99) (a3:Y4),Inv cnt a3→wjm rc wfm a3 a10 a11 (cnt:Int)=res)
 (i0:Nat) (hi:i0≤cnt) (a3:Y4) (h0:Inv i0 a3):wwz big a3 a10 a11 (i0:Int)=res :=
 idxB (fun m i=>∀(a3:Y4),Inv i a3→ww0 big wfm m a3 a10 a11 (i:Int)=res) (fun _ i hl ih a3 h=>hs _ i a3 hl h ih) (fun _ a3 h=>he _ a3 h) i0 hi hn a3 h0
theorem xmy {a10:Y4}{a11:Int}(cnt:Nat) (Inv:T6){res:Z2}(hn:cnt≤500000000000)
 (hs:∀(rc:T16) (i:Nat) (a5:Y4),i<cnt→Inv i a5→(∀(a5':Y4),Inv (i+1) a5'→rc a5' a10 a11 ((i+1:Nat):Int)=res)→wjo rc wfn a5 a10 a11 (i:Int)=res)
 (he:∀(rc:T16) (a5:Y4),Inv cnt a5→wjo rc wfn a5 a10 a11 (cnt:Int)=res)
 (i0:Nat) (hi:i0≤cnt) (a5:Y4) (h0:Inv i0 a5):ww1 big a5 a10 a11 (i0:Int)=res :=
 idxB (fun m i=>∀(a5:Y4),Inv i a5→ww2 big wfn m a5 a10 a11 (i:Int)=res) (fun _ i hl ih a5 h=>hs _ i a5 hl h ih) (fun _ a5 h=>he _ a5 h) i0 hi hn a5 h0
theorem xmz {a1:Y7}(cnt:Nat) (Inv:T128){res:Z3}(hn:cnt≤500000000000)
 (hs:∀(rc:T68) (i:Nat) (a4:Y3),i<cnt→Inv i a4→(∀(a4':Y3),Inv (i+1) a4'→rc a1 a4' ((i+1:Nat):Int)=res)→wft (wjp big rc (zh (xg big))) (zh (xg big)) a1 a4 (i:Int)=res)
 (he:∀(rc:T68) (a4:Y3),Inv cnt a4→wft (wjp big rc (zh (xg big))) (zh (xg big)) a1 a4 (cnt:Int)=res)
 (i0:Nat) (hi:i0≤cnt) (a4:Y3) (h0:Inv i0 a4):ww3 big a1 a4 (i0:Int)=res :=
 idxB (fun m i=>∀(a4:Y3),Inv i a4→ww4 big (zh (xg big)) m a1 a4 (i:Int)=res) (fun _ i hl ih a4 h=>hs _ i a4 hl h ih) (fun _ a4 h=>he _ a4 h) i0 hi hn a4 h0
theorem xm0 {rec:T68}{k:Y7→Y3→Z3}{a1:Y7}{a5:Int}(cnt:Nat) (Inv:T128){res:Z3}(hn:cnt≤500000000000)
 (hs:∀(rc:T106) (i:Nat) (a4:Y3),i<cnt→Inv i a4→(∀(a4':Y3),Inv (i+1) a4'→rc a1 a4' a5 ((i+1:Nat):Int)=res)→wjr rc (wfr rec) a1 a4 a5 (i:Int)=res)
 (he:∀(rc:T106) (a4:Y3),Inv cnt a4→wjr rc (wfr rec) a1 a4 a5 (cnt:Int)=res)
 (i0:Nat) (hi:i0≤cnt) (a4:Y3) (h0:Inv i0 a4):wjp big rec k a1 a4 a5 (i0:Int)=res :=
 idxB (fun m i=>∀(a4:Y3),Inv i a4→ww5 big (wfr rec) m a1 a4 a5 (i:Int)=res) (fun _ i hl ih a4 h=>hs _ i a4 hl h ih) (fun _ a4 h=>he _ a4 h) i0 hi hn a4 h0
theorem xkg {a4:Y3}(cnt:Nat) (Inv:Nat→Y3→Z16→Prop){res:Z3}(hn:cnt≤500000000000)
 (hs:∀(rc:T39) (i:Nat) (a7:Y3) (a8:Z16),i<cnt→Inv i a7 a8→(∀(a7':Y3) (a8':Z16),Inv (i+1) a7' a8'→rc a4 a7' a8' ((i+1:Nat):Int)=res)→waz (wfp big rc w6) w6 a4 a7 a8 (i:Int)=res)
 (he:∀(rc:T39) (a7:Y3) (a8:Z16),Inv cnt a7 a8→waz (wfp big rc w6) w6 a4 a7 a8 (cnt:Int)=res)
 (i0:Nat) (hi:i0≤cnt) (a7:Y3) (a8:Z16) (h0:Inv i0 a7 a8):xg big a4 a7 a8 (i0:Int)=res :=
 idxB (fun m i=>∀(a7:Y3) (a8:Z16),Inv i a7 a8→wrj big w6 m a4 a7 a8 (i:Int)=res) (fun _ i hl ih a7 a8 h=>hs _ i a7 a8 hl h ih) (fun _ a7 a8 h=>he _ a7 a8 h) i0 hi hn a7 a8 h0
theorem xkh {rec:T39}{k:T118}{a4:Y3}{a9:Int}{a55:Int}(cnt:Nat) (Inv:Nat→Y3→Z16→Prop){res:Z3}(hn:cnt≤500000000000)
 (hs:∀(rc:T67) (i:Nat) (a7:Y3) (a8:Z16),i<cnt→Inv i a7 a8→(∀(a7':Y3) (a8':Z16),Inv (i+1) a7' a8'→rc a4 a7' a8' a9 a55 ((i+1:Nat):Int)=res)→wfs rc (way rec) a4 a7 a8 a9 a55 (i:Int)=res)
 (he:∀(rc:T67) (a7:Y3) (a8:Z16),Inv cnt a7 a8→wfs rc (way rec) a4 a7 a8 a9 a55 (cnt:Int)=res)
 (i0:Nat) (hi:i0≤cnt) (a7:Y3) (a8:Z16) (h0:Inv i0 a7 a8):wfp big rec k a4 a7 a8 a9 a55 (i0:Int)=res :=
 idxB (fun m i=>∀(a7:Y3) (a8:Z16),Inv i a7 a8→wrk big (way rec) m a4 a7 a8 a9 a55 (i:Int)=res) (fun _ i hl ih a7 a8 h=>hs _ i a7 a8 hl h ih) (fun _ a7 a8 h=>he _ a7 a8 h) i0 hi hn a7 a8 h0
theorem xm1 {a1:Int}(cnt:Nat) (Inv:Nat→Z13→Y4→Prop){Q:Z9→Prop}(hn:cnt≤500000000000)
 (hs:∀(rc:T33) (i:Nat) (a0:Z13) (a5:Y4),i<cnt→Inv i a0 a5→(∀(a0':Z13) (a5':Y4),Inv (i+1) a0' a5'→Q (rc a0' a1 a5' ((i+1:Nat):Int)))→Q (wju rc wjt a0 a1 a5 (i:Int)))
 (he:∀(rc:T33) (a0:Z13) (a5:Y4),Inv cnt a0 a5→Q (wju rc wjt a0 a1 a5 (cnt:Int)))
 (i0:Nat) (hi:i0≤cnt) (a0:Z13) (a5:Y4) (h0:Inv i0 a0 a5):Q (ww6 big a0 a1 a5 (i0:Int)) :=
 idxB (fun m i=>∀(a0:Z13) (a5:Y4),Inv i a0 a5→Q (ww7 big wjt m a0 a1 a5 (i:Int))) (fun _ i hl ih a0 a5 h=>hs _ i a0 a5 hl h ih) (fun _ a0 a5 h=>he _ a0 a5 h) i0 hi hn a0 a5 h0
theorem xm2 {a0:Y4}{a1:Y4}(cnt:Nat) (Inv:T10){res:Z0}(hn:cnt≤500000000000)
 (hs:∀(rc:T17) (i:Nat),i<cnt→Inv i→(Inv (i+1)→rc a0 a1 ((i+1:Nat):Int)=res)→wjw rc wfu a0 a1 (i:Int)=res)
 (he:∀(rc:T17),Inv cnt→wjw rc wfu a0 a1 (cnt:Int)=res)
 (i0:Nat) (hi:i0≤cnt) (h0:Inv i0):ww8 big a0 a1 (i0:Int)=res :=
 idxB (fun m i=>Inv i→ww9 big wfu m a0 a1 (i:Int)=res) (fun _ i hl ih h=>hs _ i hl h ih) (fun _ h=>he _ h) i0 hi hn h0
theorem xde {a1:Y4}{a2:Y2}(cnt:Nat) (Inv:T10){res:Z12}(hn:cnt≤500000000000)
 (hs:∀(rc:T122) (i:Nat),i<cnt→Inv i→(Inv (i+1)→rc a1 a2 ((i+1:Nat):Int)=res)→wbv rc wfv a1 a2 (i:Int)=res)
 (he:∀(rc:T122),Inv cnt→wbv rc wfv a1 a2 (cnt:Int)=res)
 (i0:Nat) (hi:i0≤cnt) (h0:Inv i0):wxa big a1 a2 (i0:Int)=res :=
 idxB (fun m i=>Inv i→wxb big wfv m a1 a2 (i:Int)=res) (fun _ i hl ih h=>hs _ i hl h ih) (fun _ h=>he _ h) i0 hi hn h0
theorem xhv {a3:Y2}(mu:Z13→Y4→Int→Nat) (Inv:Z13→Y4→Int→Prop){Q:Z9→Prop}
 (hs:∀(rc:T126) (a0:Z13) (a5:Y4) (a6:Int),Inv a0 a5 a6→(∀(a0':Z13) (a5':Y4) (a6':Int),Inv a0' a5' a6'→mu a0' a5' a6'<mu a0 a5 a6→Q (rc a0' a3 a5' a6'))→Q (wqa rc wke a0 a3 a5 a6))
 (a0:Z13) (a5:Y4) (a6:Int) (hm:mu a0 a5 a6≤500000000000) (h0:Inv a0 a5 a6):Q (wp9 big a0 a3 a5 a6) :=
 muR (fun m=>∀(a0:Z13) (a5:Y4) (a6:Int),mu a0 a5 a6<m→Inv a0 a5 a6→Q (wqb big wke m a0 a3 a5 a6)) (fun a0 a5 a6 h2 _=>absurd h2 (Nat.not_lt_zero _)) (fun _ ih a0 a5 a6 h2 h3=>hs _ a0 a5 a6 h3 fun a0' a5' a6' h4 h5=>ih a0' a5' a6' (by omega) h4) big a0 a5 a6 (by have:=jp;omega) h0
theorem xhw {a0:Y4}{a1:Int}(cnt:Nat) (Inv:T10){res:Z18}(hn:cnt≤500000000000)
 (hs:∀(rc:T102) (i:Nat),i<cnt→Inv i→(Inv (i+1)→rc a0 a1 ((i+1:Nat):Int)=res)→wcb rc yd a0 a1 (i:Int)=res)
 (he:∀(rc:T102),Inv cnt→wcb rc yd a0 a1 (cnt:Int)=res)
 (i0:Nat) (hi:i0≤cnt) (h0:Inv i0):wqc big a0 a1 (i0:Int)=res :=
 idxB (fun m i=>Inv i→wqd big yd m a0 a1 (i:Int)=res) (fun _ i hl ih h=>hs _ i hl h ih) (fun _ h=>he _ h) i0 hi hn h0
theorem xhx {a1:Y4}{a2:Y2}(cnt:Nat) (Inv:T6){Q:Z2→Prop}(hn:cnt≤500000000000)
 (hs:∀(rc:T112) (i:Nat) (a5:Y4),i<cnt→Inv i a5→(∀(a5':Y4),Inv (i+1) a5'→Q (rc a1 a2 a5' ((i+1:Nat):Int)))→Q (wcd rc (z6 (zz big)) a1 a2 a5 (i:Int)))
 (he:∀(rc:T112) (a5:Y4),Inv cnt a5→Q (wcd rc (z6 (zz big)) a1 a2 a5 (cnt:Int)))
 (i0:Nat) (hi:i0≤cnt) (a5:Y4) (h0:Inv i0 a5):Q (wqe big a1 a2 a5 (i0:Int)) :=
 idxB (fun m i=>∀(a5:Y4),Inv i a5→Q (wqf big (z6 (zz big)) m a1 a2 a5 (i:Int))) (fun _ i hl ih a5 h=>hs _ i a5 hl h ih) (fun _ a5 h=>he _ a5 h) i0 hi hn a5 h0
theorem xhy {a2:Y2}{a7:Y2}(cnt:Nat) (Inv:T6){Q:Z2→Prop}(hn:cnt≤500000000000)
 (hs:∀(rc:T27) (i:Nat) (a5:Y4),i<cnt→Inv i a5→(∀(a5':Y4),Inv (i+1) a5'→Q (rc a2 a5' a7 ((i+1:Nat):Int)))→Q (z7 (wa0 big rc xn) xn a2 a5 a7 (i:Int)))
 (he:∀(rc:T27) (a5:Y4),Inv cnt a5→Q (z7 (wa0 big rc xn) xn a2 a5 a7 (cnt:Int)))
 (i0:Nat) (hi:i0≤cnt) (a5:Y4) (h0:Inv i0 a5):Q (zz big a2 a5 a7 (i0:Int)) :=
 idxB (fun m i=>∀(a5:Y4),Inv i a5→Q (wqg big xn m a2 a5 a7 (i:Int))) (fun _ i hl ih a5 h=>hs _ i a5 hl h ih) (fun _ a5 h=>he _ a5 h) i0 hi hn a5 h0
theorem xer {rec:T27}{k:T21}{a2:Y2}{a7:Y2}{a8:Int}{a9:Y4}(cnt:Nat) (Inv:T6){Q:Z2→Prop}(hn:cnt≤500000000000)
 (hs:∀(rc:T19) (i:Nat) (a5:Y4),i<cnt→Inv i a5→(∀(a5':Y4),Inv (i+1) a5'→Q (rc a2 a5' a7 a8 a9 ((i+1:Nat):Int)))→Q (yh (wa1 big rc (xb rec)) (xb rec) a2 a5 a7 a8 a9 (i:Int)))
 (he:∀(rc:T19) (a5:Y4),Inv cnt a5→Q (yh (wa1 big rc (xb rec)) (xb rec) a2 a5 a7 a8 a9 (cnt:Int)))
 (i0:Nat) (hi:i0≤cnt) (a5:Y4) (h0:Inv i0 a5):Q (wa0 big rec k a2 a5 a7 a8 a9 (i0:Int)) :=
 idxB (fun m i=>∀(a5:Y4),Inv i a5→Q (wl1 big (xb rec) m a2 a5 a7 a8 a9 (i:Int))) (fun _ i hl ih a5 h=>hs _ i a5 hl h ih) (fun _ a5 h=>he _ a5 h) i0 hi hn a5 h0
theorem xes {rec:T19}{k:T27}{a2:Y2}{a7:Y2}{a8:Int}{a9:Y4}{a10:Int}(cnt:Nat) (Inv:T6){Q:Z2→Prop}(hn:cnt≤500000000000)
 (hs:∀(rc:T56) (i:Nat) (a5:Y4),i<cnt→Inv i a5→(∀(a5':Y4),Inv (i+1) a5'→Q (rc a2 a5' a7 a8 a9 a10 ((i+1:Nat):Int)))→Q (wa3 rc (yg rec) a2 a5 a7 a8 a9 a10 (i:Int)))
 (he:∀(rc:T56) (a5:Y4),Inv cnt a5→Q (wa3 rc (yg rec) a2 a5 a7 a8 a9 a10 (cnt:Int)))
 (i0:Nat) (hi:i0≤cnt) (a5:Y4) (h0:Inv i0 a5):Q (wa1 big rec k a2 a5 a7 a8 a9 a10 (i0:Int)) :=
 idxB (fun m i=>∀(a5:Y4),Inv i a5→Q (wl2 big (yg rec) m a2 a5 a7 a8 a9 a10 (i:Int))) (fun _ i hl ih a5 h=>hs _ i a5 hl h ih) (fun _ a5 h=>he _ a5 h) i0 hi hn a5 h0
theorem xhz {a1:Int}{a2:Y2}(cnt:Nat) (Inv:T6){res:Z2}(hn:cnt≤500000000000)
 (hs:∀(rc:T107) (i:Nat) (a5:Y4),i<cnt→Inv i a5→(∀(a5':Y4),Inv (i+1) a5'→rc a1 a2 a5' ((i+1:Nat):Int)=res)→wcf rc z8 a1 a2 a5 (i:Int)=res)
 (he:∀(rc:T107) (a5:Y4),Inv cnt a5→wcf rc z8 a1 a2 a5 (cnt:Int)=res)
 (i0:Nat) (hi:i0≤cnt) (a5:Y4) (h0:Inv i0 a5):wqh big a1 a2 a5 (i0:Int)=res :=
 idxB (fun m i=>∀(a5:Y4),Inv i a5→wqi big z8 m a1 a2 a5 (i:Int)=res) (fun _ i hl ih a5 h=>hs _ i a5 hl h ih) (fun _ a5 h=>he _ a5 h) i0 hi hn a5 h0
theorem xh0 {a0:Y1}{a10:Y4}{a11:Int}(cnt:Nat) (Inv:Nat→Int→Prop){res:Z6}(hn:cnt≤500000000000)
 (hs:∀(rc:T86) (i:Nat) (a5:Int),i<cnt→Inv i a5→(∀(a5':Int),Inv (i+1) a5'→rc a0 a5' a10 a11 ((i+1:Nat):Int)=res)→wch rc z9 a0 a5 a10 a11 (i:Int)=res)
 (he:∀(rc:T86) (a5:Int),Inv cnt a5→wch rc z9 a0 a5 a10 a11 (cnt:Int)=res)
 (i0:Nat) (hi:i0≤cnt) (a5:Int) (h0:Inv i0 a5):wqj big a0 a5 a10 a11 (i0:Int)=res :=
 idxB (fun m i=>∀(a5:Int),Inv i a5→wqk big z9 m a0 a5 a10 a11 (i:Int)=res) (fun _ i hl ih a5 h=>hs _ i a5 hl h ih) (fun _ a5 h=>he _ a5 h) i0 hi hn a5 h0
theorem xh2 {a1:(Y5×(Int×Unit))}{a9:Int}(cnt:Nat) (Inv:T6){res:Z2}(hn:cnt≤500000000000)
 (hs:∀(rc:(Y5×(Int×Unit))→Y4→Int→Int→Z2) (i:Nat) (a5:Y4),i<cnt→Inv i a5→(∀(a5':Y4),Inv (i+1) a5'→rc a1 a5' a9 ((i+1:Nat):Int)=res)→wcj rc waa a1 a5 a9 (i:Int)=res)
 (he:∀(rc:(Y5×(Int×Unit))→Y4→Int→Int→Z2) (a5:Y4),Inv cnt a5→wcj rc waa a1 a5 a9 (cnt:Int)=res)
 (i0:Nat) (hi:i0≤cnt) (a5:Y4) (h0:Inv i0 a5):wql big a1 a5 a9 (i0:Int)=res :=
 idxB (fun m i=>∀(a5:Y4),Inv i a5→wqm big waa m a1 a5 a9 (i:Int)=res) (fun _ i hl ih a5 h=>hs _ i a5 hl h ih) (fun _ a5 h=>he _ a5 h) i0 hi hn a5 h0
theorem xh3 {a1:Y4}{a2:Y2}(cnt:Nat) (Inv:T10){res:Z0}(hn:cnt≤500000000000)
 (hs:∀(rc:T69) (i:Nat),i<cnt→Inv i→(Inv (i+1)→rc a1 a2 ((i+1:Nat):Int)=res)→wad (wck big rc xo) xo a1 a2 (i:Int)=res)
 (he:∀(rc:T69),Inv cnt→wad (wck big rc xo) xo a1 a2 (cnt:Int)=res)
 (i0:Nat) (hi:i0≤cnt) (h0:Inv i0):wqn big a1 a2 (i0:Int)=res :=
 idxB (fun m i=>Inv i→wqo big xo m a1 a2 (i:Int)=res) (fun _ i hl ih h=>hs _ i hl h ih) (fun _ h=>he _ h) i0 hi hn h0
theorem xh4 {rec:T69}{k:Z0}{a1:Y4}{a2:Y2}{a5:Int}(cnt:Nat) (Inv:T10){res:Z0}(hn:cnt≤500000000000)
 (hs:∀(rc:T108) (i:Nat),i<cnt→Inv i→(Inv (i+1)→rc a1 a2 a5 ((i+1:Nat):Int)=res)→wcm rc (wac rec) a1 a2 a5 (i:Int)=res)
 (he:∀(rc:T108),Inv cnt→wcm rc (wac rec) a1 a2 a5 (cnt:Int)=res)
 (i0:Nat) (hi:i0≤cnt) (h0:Inv i0):wck big rec k a1 a2 a5 (i0:Int)=res :=
 idxB (fun m i=>Inv i→wqp big (wac rec) m a1 a2 a5 (i:Int)=res) (fun _ i hl ih h=>hs _ i hl h ih) (fun _ h=>he _ h) i0 hi hn h0
theorem xh9 {a0:Y5}{a1:Int}{a2:Int}{a14:Int}(cnt:Nat) (Inv:T10){res:Z0}(hn:cnt≤500000000000)
 (hs:∀(rc:T80) (i:Nat),i<cnt→Inv i→(Inv (i+1)→rc a0 a1 a2 a14 ((i+1:Nat):Int)=res)→wcv rc waf a0 a1 a2 a14 (i:Int)=res)
 (he:∀(rc:T80),Inv cnt→wcv rc waf a0 a1 a2 a14 (cnt:Int)=res)
 (i0:Nat) (hi:i0≤cnt) (h0:Inv i0):wqt big a0 a1 a2 a14 (i0:Int)=res :=
 idxB (fun m i=>Inv i→wqu big waf m a0 a1 a2 a14 (i:Int)=res) (fun _ i hl ih h=>hs _ i hl h ih) (fun _ h=>he _ h) i0 hi hn h0
theorem xia {a1:(Y5×(Int×Unit))}{a9:Int}(cnt:Nat) (Inv:T6){res:Z2}(hn:cnt≤500000000000)
 (hs:∀(rc:(Y5×(Int×Unit))→Y4→Int→Int→Z2) (i:Nat) (a5:Y4),i<cnt→Inv i a5→(∀(a5':Y4),Inv (i+1) a5'→rc a1 a5' a9 ((i+1:Nat):Int)=res)→wcx rc wag a1 a5 a9 (i:Int)=res)
 (he:∀(rc:(Y5×(Int×Unit))→Y4→Int→Int→Z2) (a5:Y4),Inv cnt a5→wcx rc wag a1 a5 a9 (cnt:Int)=res)
 (i0:Nat) (hi:i0≤cnt) (a5:Y4) (h0:Inv i0 a5):wqv big a1 a5 a9 (i0:Int)=res :=
 idxB (fun m i=>∀(a5:Y4),Inv i a5→wqw big wag m a1 a5 a9 (i:Int)=res) (fun _ i hl ih a5 h=>hs _ i a5 hl h ih) (fun _ a5 h=>he _ a5 h) i0 hi hn a5 h0
theorem xib {a4:Y1}{a19:Y4}{a20:Int}(cnt:Nat) (Inv:T128){res:Z3}(hn:cnt≤500000000000)
 (hs:∀(rc:T88) (i:Nat) (a6:Y3),i<cnt→Inv i a6→(∀(a6':Y3),Inv (i+1) a6'→rc a4 a6' a19 a20 ((i+1:Nat):Int)=res)→wcz rc wah a4 a6 a19 a20 (i:Int)=res)
 (he:∀(rc:T88) (a6:Y3),Inv cnt a6→wcz rc wah a4 a6 a19 a20 (cnt:Int)=res)
 (i0:Nat) (hi:i0≤cnt) (a6:Y3) (h0:Inv i0 a6):wqx big a4 a6 a19 a20 (i0:Int)=res :=
 idxB (fun m i=>∀(a6:Y3),Inv i a6→wqy big wah m a4 a6 a19 a20 (i:Int)=res) (fun _ i hl ih a6 h=>hs _ i a6 hl h ih) (fun _ a6 h=>he _ a6 h) i0 hi hn a6 h0
theorem xic {a1:Y2}{a4:Int}(cnt:Nat) (Inv:T6){res:Z2}(hn:cnt≤500000000000)
 (hs:∀(rc:T109) (i:Nat) (a3:Y4),i<cnt→Inv i a3→(∀(a3':Y4),Inv (i+1) a3'→rc a1 a3' a4 ((i+1:Nat):Int)=res)→wc1 rc wai a1 a3 a4 (i:Int)=res)
 (he:∀(rc:T109) (a3:Y4),Inv cnt a3→wc1 rc wai a1 a3 a4 (cnt:Int)=res)
 (i0:Nat) (hi:i0≤cnt) (a3:Y4) (h0:Inv i0 a3):wqz big a1 a3 a4 (i0:Int)=res :=
 idxB (fun m i=>∀(a3:Y4),Inv i a3→wq0 big wai m a1 a3 a4 (i:Int)=res) (fun _ i hl ih a3 h=>hs _ i a3 hl h ih) (fun _ a3 h=>he _ a3 h) i0 hi hn a3 h0
theorem xid {a0:Y4}{a1:Y4}(cnt:Nat) (Inv:T10){res:Z0}(hn:cnt≤500000000000)
 (hs:∀(rc:T17) (i:Nat),i<cnt→Inv i→(Inv (i+1)→rc a0 a1 ((i+1:Nat):Int)=res)→wc3 rc waj a0 a1 (i:Int)=res)
 (he:∀(rc:T17),Inv cnt→wc3 rc waj a0 a1 (cnt:Int)=res)
 (i0:Nat) (hi:i0≤cnt) (h0:Inv i0):wq1 big a0 a1 (i0:Int)=res :=
 idxB (fun m i=>Inv i→wq2 big waj m a0 a1 (i:Int)=res) (fun _ i hl ih h=>hs _ i hl h ih) (fun _ h=>he _ h) i0 hi hn h0
theorem xie {a0:Y3}{a1:Y4}(mu:Int→Nat) (Inv:Int→Prop){Q:Option Y2→Prop}
 (hs:∀(rc:Y3→Y4→Int→Option Y2) (a5:Int),Inv a5→(∀(a5':Int),Inv a5'→mu a5'<mu a5→Q (rc a0 a1 a5'))→Q (wq4 rc yk a0 a1 a5))
 (a5:Int) (hm:mu a5≤500000000000) (h0:Inv a5):Q (wq3 big a0 a1 a5) :=
 muR (fun m=>∀(a5:Int),mu a5<m→Inv a5→Q (wq5 big yk m a0 a1 a5)) (fun a5 h2 _=>absurd h2 (Nat.not_lt_zero _)) (fun _ ih a5 h2 h3=>hs _ a5 h3 fun a5' h4 h5=>ih a5' (by omega) h4) big a5 (by have:=jp;omega) h0
theorem xii {a1:Y2}{a5:Y4}(cnt:Nat) (Inv:T128){res:Z3}(hn:cnt≤500000000000)
 (hs:∀(rc:T113) (i:Nat) (a4:Y3),i<cnt→Inv i a4→(∀(a4':Y3),Inv (i+1) a4'→rc a1 a4' a5 ((i+1:Nat):Int)=res)→wc9 rc wal a1 a4 a5 (i:Int)=res)
 (he:∀(rc:T113) (a4:Y3),Inv cnt a4→wc9 rc wal a1 a4 a5 (cnt:Int)=res)
 (i0:Nat) (hi:i0≤cnt) (a4:Y3) (h0:Inv i0 a4):wq6 big a1 a4 a5 (i0:Int)=res :=
 idxB (fun m i=>∀(a4:Y3),Inv i a4→wq7 big wal m a1 a4 a5 (i:Int)=res) (fun _ i hl ih a4 h=>hs _ i a4 hl h ih) (fun _ a4 h=>he _ a4 h) i0 hi hn a4 h0
theorem xij {a0:Y3}{a1:Y3}(cnt:Nat) (Inv:T10){res:Z0}(hn:cnt≤500000000000)
 (hs:∀(rc:T127) (i:Nat),i<cnt→Inv i→(Inv (i+1)→rc a0 a1 ((i+1:Nat):Int)=res)→wdb rc wam a0 a1 (i:Int)=res)
 (he:∀(rc:T127),Inv cnt→wdb rc wam a0 a1 (cnt:Int)=res)
 (i0:Nat) (hi:i0≤cnt) (h0:Inv i0):wq8 big a0 a1 (i0:Int)=res :=
 idxB (fun m i=>Inv i→wq9 big wam m a0 a1 (i:Int)=res) (fun _ i hl ih h=>hs _ i hl h ih) (fun _ h=>he _ h) i0 hi hn h0
end Go.Proofs.YtclaienmkbpkaaaGreat
