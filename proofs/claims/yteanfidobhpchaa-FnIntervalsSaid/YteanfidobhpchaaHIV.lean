import Derived.Test.YteanfidobhpchaaPLib
import Derived.Test.YteanfidobhpchaaGIV
set_option linter.unusedVariables false
namespace Go.Proofs.Yteanfidobhpchaa
open Go Go.Gx Go.Proofs
theorem w48 {a1:Int}(cnt:Nat) (Inv:Nat→Z12→Y4→Prop){Q:Z15→Prop}(hn:cnt≤500000000000)
 (hs:∀(rc:T51) (i:Nat) (a0:Z12) (a5:Y4),i<cnt→Inv i a0 a5→(∀(a0':Z12) (a5':Y4),Inv (i+1) a0' a5'→Q (rc a0' a1 a5' ((i+1:Nat):Int)))→Q (wie rc wfy a0 a1 a5 (i:Int)))
 (he:∀(rc:T51) (a0:Z12) (a5:Y4),Inv cnt a0 a5→Q (wie rc wfy a0 a1 a5 (cnt:Int)))
 (i0:Nat) (hi:i0≤cnt) (a0:Z12) (a5:Y4) (h0:Inv i0 a0 a5):Q (wrs big a0 a1 a5 (i0:Int)) :=
 idxB (fun m i=>∀(a0:Z12) (a5:Y4),Inv i a0 a5→Q (wrt big wfy m a0 a1 a5 (i:Int))) (fun _ i hl ih a0 a5 h=>hs _ i a0 a5 hl h ih) (fun _ a0 a5 h=>he _ a0 a5 h) i0 hi hn a0 a5 h0
theorem w49 {a0:Int}{a1:Y4}(cnt:Nat) (Inv:T5){Q:Option Z0→Prop}(hn:cnt≤500000000000)
 (hs:∀(rc:Int→Y4→Int→Option Z0) (i:Nat),i<cnt→Inv i→(Inv (i+1)→Q (rc a0 a1 ((i+1:Nat):Int)))→Q (wi1 rc wfz a0 a1 (i:Int)))
 (he:∀(rc:Int→Y4→Int→Option Z0),Inv cnt→Q (wi1 rc wfz a0 a1 (cnt:Int)))
 (i0:Nat) (hi:i0≤cnt) (h0:Inv i0):Q (wsa big a0 a1 (i0:Int)) :=
 idxB (fun m i=>Inv i→Q (wsb big wfz m a0 a1 (i:Int))) (fun _ i hl ih h=>hs _ i hl h ih) (fun _ h=>he _ h) i0 hi hn h0
theorem w5a {a0:Y4}{a1:Int}(cnt:Nat) (Inv:Nat→(List Bool)→Prop){Q:Option Z0→Prop}(hn:cnt≤500000000000)
 (hs:∀(rc:Y4→Int→(List Bool)→Int→Option Z0) (i:Nat) (a5:(List Bool)),i<cnt→Inv i a5→(∀(a5':(List Bool)),Inv (i+1) a5'→Q (rc a0 a1 a5' ((i+1:Nat):Int)))→Q (wja rc wf0 a0 a1 a5 (i:Int)))
 (he:∀(rc:Y4→Int→(List Bool)→Int→Option Z0) (a5:(List Bool)),Inv cnt a5→Q (wja rc wf0 a0 a1 a5 (cnt:Int)))
 (i0:Nat) (hi:i0≤cnt) (a5:(List Bool)) (h0:Inv i0 a5):Q (wsi big a0 a1 a5 (i0:Int)) :=
 idxB (fun m i=>∀(a5:(List Bool)),Inv i a5→Q (wsj big wf0 m a0 a1 a5 (i:Int))) (fun _ i hl ih a5 h=>hs _ i a5 hl h ih) (fun _ a5 h=>he _ a5 h) i0 hi hn a5 h0
theorem w5b {a0:Int}{a1:Z13}{a4:Y2}(cnt:Nat) (Inv:T35){Q:T72}(hn:cnt≤500000000000)
 (hs:∀(rc:T12) (i:Nat) (a5:Y5),i<cnt→Inv i a5→(∀(a5':Y5),Inv (i+1) a5'→Q (rc a0 a1 a4 a5' ((i+1:Nat):Int)))→Q (wjm rc (wf2 (wf1 big)) a0 a1 a4 a5 (i:Int)))
 (he:∀(rc:T12) (a5:Y5),Inv cnt a5→Q (wjm rc (wf2 (wf1 big)) a0 a1 a4 a5 (cnt:Int)))
 (i0:Nat) (hi:i0≤cnt) (a5:Y5) (h0:Inv i0 a5):Q (wsm big a0 a1 a4 a5 (i0:Int)) :=
 idxB (fun m i=>∀(a5:Y5),Inv i a5→Q (wsn big (wf2 (wf1 big)) m a0 a1 a4 a5 (i:Int))) (fun _ i hl ih a5 h=>hs _ i a5 hl h ih) (fun _ a5 h=>he _ a5 h) i0 hi hn a5 h0
theorem w5c {a0:Int}{a1:Z13}{a4:Y2}(cnt:Nat) (Inv:T35){Q:T72}(hn:cnt≤500000000000)
 (hs:∀(rc:T12) (i:Nat) (a5:Y5),i<cnt→Inv i a5→(∀(a5':Y5),Inv (i+1) a5'→Q (rc a0 a1 a4 a5' ((i+1:Nat):Int)))→Q (wjn rc (wf3 (zl big)) a0 a1 a4 a5 (i:Int)))
 (he:∀(rc:T12) (a5:Y5),Inv cnt a5→Q (wjn rc (wf3 (zl big)) a0 a1 a4 a5 (cnt:Int)))
 (i0:Nat) (hi:i0≤cnt) (a5:Y5) (h0:Inv i0 a5):Q (wf1 big a0 a1 a4 a5 (i0:Int)) :=
 idxB (fun m i=>∀(a5:Y5),Inv i a5→Q (wso big (wf3 (zl big)) m a0 a1 a4 a5 (i:Int))) (fun _ i hl ih a5 h=>hs _ i a5 hl h ih) (fun _ a5 h=>he _ a5 h) i0 hi hn a5 h0
theorem w4w {a0:Int}{a4:Y2}(cnt:Nat) (Inv:T35){Q:T72}(hn:cnt≤500000000000)
 (hs:∀(rc:T11) (i:Nat) (a5:Y5),i<cnt→Inv i a5→(∀(a5':Y5),Inv (i+1) a5'→Q (rc a0 a4 a5' ((i+1:Nat):Int)))→Q (wck (wfa big rc (xy (wv big))) (xy (wv big)) a0 a4 a5 (i:Int)))
 (he:∀(rc:T11) (a5:Y5),Inv cnt a5→Q (wck (wfa big rc (xy (wv big))) (xy (wv big)) a0 a4 a5 (cnt:Int)))
 (i0:Nat) (hi:i0≤cnt) (a5:Y5) (h0:Inv i0 a5):Q (zl big a0 a4 a5 (i0:Int)) :=
 idxB (fun m i=>∀(a5:Y5),Inv i a5→Q (wn8 big (xy (wv big)) m a0 a4 a5 (i:Int))) (fun _ i hl ih a5 h=>hs _ i a5 hl h ih) (fun _ a5 h=>he _ a5 h) i0 hi hn a5 h0
theorem w4x {rec:T11}{k:T50}{a0:Int}{a4:Y2}{a9:Int}(cnt:Nat) (Inv:T35){Q:T72}(hn:cnt≤500000000000)
 (hs:∀(rc:T10) (i:Nat) (a5:Y5),i<cnt→Inv i a5→(∀(a5':Y5),Inv (i+1) a5'→Q (rc a0 a4 a5' a9 ((i+1:Nat):Int)))→Q (wcl (wfb big rc (xz rec)) (xz rec) a0 a4 a5 a9 (i:Int)))
 (he:∀(rc:T10) (a5:Y5),Inv cnt a5→Q (wcl (wfb big rc (xz rec)) (xz rec) a0 a4 a5 a9 (cnt:Int)))
 (i0:Nat) (hi:i0≤cnt) (a5:Y5) (h0:Inv i0 a5):Q (wfa big rec k a0 a4 a5 a9 (i0:Int)) :=
 idxB (fun m i=>∀(a5:Y5),Inv i a5→Q (wn9 big (xz rec) m a0 a4 a5 a9 (i:Int))) (fun _ i hl ih a5 h=>hs _ i a5 hl h ih) (fun _ a5 h=>he _ a5 h) i0 hi hn a5 h0
theorem w4z {a0:Int}{a4:Y2}{a5:Y5}(cnt:Nat) (Inv:Nat→Y2→Prop){Q:T72}(hn:cnt≤500000000000)
 (hs:∀(rc:T22) (i:Nat) (a12:Y2),i<cnt→Inv i a12→(∀(a12':Y2),Inv (i+1) a12'→Q (rc a0 a4 a5 a12' ((i+1:Nat):Int)))→Q (wcm (wfc big rc x5) x5 a0 a4 a5 a12 (i:Int)))
 (he:∀(rc:T22) (a12:Y2),Inv cnt a12→Q (wcm (wfc big rc x5) x5 a0 a4 a5 a12 (cnt:Int)))
 (i0:Nat) (hi:i0≤cnt) (a12:Y2) (h0:Inv i0 a12):Q (wv big a0 a4 a5 a12 (i0:Int)) :=
 idxB (fun m i=>∀(a12:Y2),Inv i a12→Q (wob big x5 m a0 a4 a5 a12 (i:Int))) (fun _ i hl ih a12 h=>hs _ i a12 hl h ih) (fun _ a12 h=>he _ a12 h) i0 hi hn a12 h0
theorem w4y {rec:T10}{k:T11}{a0:Int}{a4:Y2}{a9:Int}{a10:Int}(cnt:Nat) (Inv:T35){Q:T72}(hn:cnt≤500000000000)
 (hs:∀(rc:T31) (i:Nat) (a5:Y5),i<cnt→Inv i a5→(∀(a5':Y5),Inv (i+1) a5'→Q (rc a0 a4 a5' a9 a10 ((i+1:Nat):Int)))→Q (wff rc (wci rec) a0 a4 a5 a9 a10 (i:Int)))
 (he:∀(rc:T31) (a5:Y5),Inv cnt a5→Q (wff rc (wci rec) a0 a4 a5 a9 a10 (cnt:Int)))
 (i0:Nat) (hi:i0≤cnt) (a5:Y5) (h0:Inv i0 a5):Q (wfb big rec k a0 a4 a5 a9 a10 (i0:Int)) :=
 idxB (fun m i=>∀(a5:Y5),Inv i a5→Q (woa big (wci rec) m a0 a4 a5 a9 a10 (i:Int))) (fun _ i hl ih a5 h=>hs _ i a5 hl h ih) (fun _ a5 h=>he _ a5 h) i0 hi hn a5 h0
theorem w40 {rec:T22}{k:T43}{a0:Int}{a4:Y2}{a5:Y5}{a12:Y2}{a13:Int}(cnt:Nat) (Inv:T36){Q:T72}(hn:cnt≤500000000000)
 (hs:∀(rc:T26) (i:Nat) (a14:Y4),i<cnt→Inv i a14→(∀(a14':Y4),Inv (i+1) a14'→Q (rc a0 a4 a5 a12 a13 a14' ((i+1:Nat):Int)))→Q (wfg rc (wcj rec) a0 a4 a5 a12 a13 a14 (i:Int)))
 (he:∀(rc:T26) (a14:Y4),Inv cnt a14→Q (wfg rc (wcj rec) a0 a4 a5 a12 a13 a14 (cnt:Int)))
 (i0:Nat) (hi:i0≤cnt) (a14:Y4) (h0:Inv i0 a14):Q (wfc big rec k a0 a4 a5 a12 a13 a14 (i0:Int)) :=
 idxB (fun m i=>∀(a14:Y4),Inv i a14→Q (woc big (wcj rec) m a0 a4 a5 a12 a13 a14 (i:Int))) (fun _ i hl ih a14 h=>hs _ i a14 hl h ih) (fun _ a14 h=>he _ a14 h) i0 hi hn a14 h0
theorem w3b {a0:Y4}{a1:Int}(cnt:Nat) (Inv:T5){Q:Z7→Prop}(hn:cnt≤500000000000)
 (hs:∀(rc:T56) (i:Nat),i<cnt→Inv i→(Inv (i+1)→Q (rc a0 a1 ((i+1:Nat):Int)))→Q (wcx rc yo a0 a1 (i:Int)))
 (he:∀(rc:T56),Inv cnt→Q (wcx rc yo a0 a1 (cnt:Int)))
 (i0:Nat) (hi:i0≤cnt) (h0:Inv i0):Q (wlk big a0 a1 (i0:Int)) :=
 idxB (fun m i=>Inv i→Q (wll big yo m a0 a1 (i:Int))) (fun _ i hl ih h=>hs _ i hl h ih) (fun _ h=>he _ h) i0 hi hn h0
theorem w3c {a2:Y2}{a3:Int}(cnt:Nat) (Inv:Nat→Z12→Z13→Prop){Q:Z4→Prop}(hn:cnt≤500000000000)
 (hs:∀(rc:T8) (i:Nat) (a0:Z12) (a4:Z13),i<cnt→Inv i a0 a4→(∀(a0':Z12) (a4':Z13),Inv (i+1) a0' a4'→Q (rc a0' a2 a3 a4' ((i+1:Nat):Int)))→Q (z7 (wcy big rc (xe (wo big) (we big))) (xe (wo big) (we big)) a0 a2 a3 a4 (i:Int)))
 (he:∀(rc:T8) (a0:Z12) (a4:Z13),Inv cnt a0 a4→Q (z7 (wcy big rc (xe (wo big) (we big))) (xe (wo big) (we big)) a0 a2 a3 a4 (cnt:Int)))
 (i0:Nat) (hi:i0≤cnt) (a0:Z12) (a4:Z13) (h0:Inv i0 a0 a4):Q (wlm big a0 a2 a3 a4 (i0:Int)) :=
 idxB (fun m i=>∀(a0:Z12) (a4:Z13),Inv i a0 a4→Q (wlo big (xe (wo big) (we big)) m a0 a2 a3 a4 (i:Int))) (fun _ i hl ih a0 a4 h=>hs _ i a0 a4 hl h ih) (fun _ a0 a4 h=>he _ a0 a4 h) i0 hi hn a0 a4 h0
theorem w3d {rec:T8}{k:T29}{a2:Y2}{a3:Int}{a5:Int}(cnt:Nat) (Inv:Nat→Z12→Z13→Prop){Q:Z4→Prop}(hn:cnt≤500000000000)
 (hs:∀(rc:T30) (i:Nat) (a0:Z12) (a4:Z13),i<cnt→Inv i a0 a4→(∀(a0':Z12) (a4':Z13),Inv (i+1) a0' a4'→Q (rc a0' a2 a3 a4' a5 ((i+1:Nat):Int)))→Q (wc0 rc (z5 rec) a0 a2 a3 a4 a5 (i:Int)))
 (he:∀(rc:T30) (a0:Z12) (a4:Z13),Inv cnt a0 a4→Q (wc0 rc (z5 rec) a0 a2 a3 a4 a5 (cnt:Int)))
 (i0:Nat) (hi:i0≤cnt) (a0:Z12) (a4:Z13) (h0:Inv i0 a0 a4):Q (wcy big rec k a0 a2 a3 a4 a5 (i0:Int)) :=
 idxB (fun m i=>∀(a0:Z12) (a4:Z13),Inv i a0 a4→Q (wlp big (z5 rec) m a0 a2 a3 a4 a5 (i:Int))) (fun _ i hl ih a0 a4 h=>hs _ i a0 a4 hl h ih) (fun _ a0 a4 h=>he _ a0 a4 h) i0 hi hn a0 a4 h0
theorem w08 {a0:Z12}{a2:Y2}{a3:Int}{a7:Y4}(cnt:Nat) (Inv:Nat→Z13→Prop){Q:Z4→Prop}(hn:cnt≤500000000000)
 (hs:∀(rc:T32) (i:Nat) (a4:Z13),i<cnt→Inv i a4→(∀(a4':Z13),Inv (i+1) a4'→Q (rc a0 a2 a3 a4' a7 ((i+1:Nat):Int)))→Q (z6 rc (w8 (we big)) a0 a2 a3 a4 a7 (i:Int)))
 (he:∀(rc:T32) (a4:Z13),Inv cnt a4→Q (z6 rc (w8 (we big)) a0 a2 a3 a4 a7 (cnt:Int)))
 (i0:Nat) (hi:i0≤cnt) (a4:Z13) (h0:Inv i0 a4):Q (wo big a0 a2 a3 a4 a7 (i0:Int)) :=
 idxB (fun m i=>∀(a4:Z13),Inv i a4→Q (wjz big (w8 (we big)) m a0 a2 a3 a4 a7 (i:Int))) (fun _ i hl ih a4 h=>hs _ i a4 hl h ih) (fun _ a4 h=>he _ a4 h) i0 hi hn a4 h0
theorem w09 {a2:Y2}(mu:Z12→Y2→Nat) (Inv:Z12→Y2→Prop){Q:Z4→Prop}
 (hs:∀(rc:T57) (a0:Z12) (a9:Y2),Inv a0 a9→(∀(a0':Z12) (a9':Y2),Inv a0' a9'→mu a0' a9'<mu a0 a9→Q (rc a0' a2 a9'))→Q (wjy rc z4 a0 a2 a9))
 (a0:Z12) (a9:Y2) (hm:mu a0 a9≤500000000000) (h0:Inv a0 a9):Q (we big a0 a2 a9) :=
 muR (fun m=>∀(a0:Z12) (a9:Y2),mu a0 a9<m→Inv a0 a9→Q (wj0 big z4 m a0 a2 a9)) (fun a0 a9 h2 _=>absurd h2 (Nat.not_lt_zero _)) (fun _ ih a0 a9 h2 h3=>hs _ a0 a9 h3 fun a0' a9' h4 h5=>ih a0' a9' (by omega) h4) big a0 a9 (by have:=jp;omega) h0
theorem w3e {a0:Y4}{a1:Int}(cnt:Nat) (Inv:T5){res:Option Z0}(hn:cnt≤500000000000)
 (hs:∀(rc:Y4→Int→Int→Option Z0) (i:Nat),i<cnt→Inv i→(Inv (i+1)→rc a0 a1 ((i+1:Nat):Int)=res)→wc2 rc wab a0 a1 (i:Int)=res)
 (he:∀(rc:Y4→Int→Int→Option Z0),Inv cnt→wc2 rc wab a0 a1 (cnt:Int)=res)
 (i0:Nat) (hi:i0≤cnt) (h0:Inv i0):wlq big a0 a1 (i0:Int)=res :=
 idxB (fun m i=>Inv i→wlr big wab m a0 a1 (i:Int)=res) (fun _ i hl ih h=>hs _ i hl h ih) (fun _ h=>he _ h) i0 hi hn h0
theorem w3f {a1:Int}{a2:Int}{a3:Y2}(cnt:Nat) (Inv:T5){res:Option Z0}(hn:cnt≤500000000000)
 (hs:∀(rc:Int→Int→Y2→Int→Option Z0) (i:Nat),i<cnt→Inv i→(Inv (i+1)→rc a1 a2 a3 ((i+1:Nat):Int)=res)→wc4 rc wac a1 a2 a3 (i:Int)=res)
 (he:∀(rc:Int→Int→Y2→Int→Option Z0),Inv cnt→wc4 rc wac a1 a2 a3 (cnt:Int)=res)
 (i0:Nat) (hi:i0≤cnt) (h0:Inv i0):wls big a1 a2 a3 (i0:Int)=res :=
 idxB (fun m i=>Inv i→wlt big wac m a1 a2 a3 (i:Int)=res) (fun _ i hl ih h=>hs _ i hl h ih) (fun _ h=>he _ h) i0 hi hn h0
theorem w3h {a0:Z12}{a2:Y2}{a3:Y2}{a4:Int}{a5:Y4}(cnt:Nat) (Inv:Nat→Z13→Prop){Q:Z4→Prop}(hn:cnt≤500000000000)
 (hs:∀(rc:T25) (i:Nat) (a6:Z13),i<cnt→Inv i a6→(∀(a6':Z13),Inv (i+1) a6'→Q (rc a0 a2 a3 a4 a5 a6' ((i+1:Nat):Int)))→Q (wc7 rc wae a0 a2 a3 a4 a5 a6 (i:Int)))
 (he:∀(rc:T25) (a6:Z13),Inv cnt a6→Q (wc7 rc wae a0 a2 a3 a4 a5 a6 (cnt:Int)))
 (i0:Nat) (hi:i0≤cnt) (a6:Z13) (h0:Inv i0 a6):Q (wlu big a0 a2 a3 a4 a5 a6 (i0:Int)) :=
 idxB (fun m i=>∀(a6:Z13),Inv i a6→Q (wlv big wae m a0 a2 a3 a4 a5 a6 (i:Int))) (fun _ i hl ih a6 h=>hs _ i a6 hl h ih) (fun _ a6 h=>he _ a6 h) i0 hi hn a6 h0
theorem w3i {a0:Int}{a8:Int}(cnt:Nat) (Inv:T35){res:Z11}(hn:cnt≤500000000000)
 (hs:∀(rc:T52) (i:Nat) (a3:Y5),i<cnt→Inv i a3→(∀(a3':Y5),Inv (i+1) a3'→rc a0 a3' a8 ((i+1:Nat):Int)=res)→wc9 rc waf a0 a3 a8 (i:Int)=res)
 (he:∀(rc:T52) (a3:Y5),Inv cnt a3→wc9 rc waf a0 a3 a8 (cnt:Int)=res)
 (i0:Nat) (hi:i0≤cnt) (a3:Y5) (h0:Inv i0 a3):wlw big a0 a3 a8 (i0:Int)=res :=
 idxB (fun m i=>∀(a3:Y5),Inv i a3→wlx big waf m a0 a3 a8 (i:Int)=res) (fun _ i hl ih a3 h=>hs _ i a3 hl h ih) (fun _ a3 h=>he _ a3 h) i0 hi hn a3 h0
theorem w3j {a0:Y5}{a7:Int}(cnt:Nat) (Inv:T5){res:Option Z0}(hn:cnt≤500000000000)
 (hs:∀(rc:Y5→Int→Int→Option Z0) (i:Nat),i<cnt→Inv i→(Inv (i+1)→rc a0 a7 ((i+1:Nat):Int)=res)→wak (wdc big rc xf) xf a0 a7 (i:Int)=res)
 (he:∀(rc:Y5→Int→Int→Option Z0),Inv cnt→wak (wdc big rc xf) xf a0 a7 (cnt:Int)=res)
 (i0:Nat) (hi:i0≤cnt) (h0:Inv i0):wl6 big a0 a7 (i0:Int)=res :=
 idxB (fun m i=>Inv i→wl7 big xf m a0 a7 (i:Int)=res) (fun _ i hl ih h=>hs _ i hl h ih) (fun _ h=>he _ h) i0 hi hn h0
theorem w3k {rec:Y5→Int→Int→Option Z0}{k:Option Z0}{a0:Y5}{a3:Int}{a7:Int}{a8:Int}{a20:Int}(cnt:Nat) (Inv:T5){res:Option Z0}(hn:cnt≤500000000000)
 (hs:∀(rc:Y5→Int→Int→Int→Int→Int→Option Z0) (i:Nat),i<cnt→Inv i→(Inv (i+1)→rc a0 a3 a7 a8 a20 ((i+1:Nat):Int)=res)→wal (ye big rc (wu rec)) (wu rec) a0 a3 a7 a8 a20 (i:Int)=res)
 (he:∀(rc:Y5→Int→Int→Int→Int→Int→Option Z0),Inv cnt→wal (ye big rc (wu rec)) (wu rec) a0 a3 a7 a8 a20 (cnt:Int)=res)
 (i0:Nat) (hi:i0≤cnt) (h0:Inv i0):wdc big rec k a0 a3 a7 a8 a20 (i0:Int)=res :=
 idxB (fun m i=>Inv i→wl8 big (wu rec) m a0 a3 a7 a8 a20 (i:Int)=res) (fun _ i hl ih h=>hs _ i hl h ih) (fun _ h=>he _ h) i0 hi hn h0
theorem w1l {rec:Y5→Int→Int→Int→Int→Int→Option Z0}{k:Y5→Int→Int→Option Z0}{a0:Y5}{a3:Int}{a4:Int}{a7:Int}{a8:Int}{a20:Int}{a21:Int}{a46:Int}(cnt:Nat) (Inv:T5){res:Option Z0}(hn:cnt≤500000000000)
 (hs:∀(rc:Y5→Int→Int→Int→Int→Int→Int→Int→Int→Option Z0) (i:Nat),i<cnt→Inv i→(Inv (i+1)→rc a0 a3 a4 a7 a8 a20 a21 a46 ((i+1:Nat):Int)=res)→waj rc (yf rec) a0 a3 a4 a7 a8 a20 a21 a46 (i:Int)=res)
 (he:∀(rc:Y5→Int→Int→Int→Int→Int→Int→Int→Int→Option Z0),Inv cnt→waj rc (yf rec) a0 a3 a4 a7 a8 a20 a21 a46 (cnt:Int)=res)
 (i0:Nat) (hi:i0≤cnt) (h0:Inv i0):ye big rec k a0 a3 a4 a7 a8 a20 a21 a46 (i0:Int)=res :=
 idxB (fun m i=>Inv i→wj1 big (yf rec) m a0 a3 a4 a7 a8 a20 a21 a46 (i:Int)=res) (fun _ i hl ih h=>hs _ i hl h ih) (fun _ h=>he _ h) i0 hi hn h0
theorem w3l {a4:Int}{a18:Y3}{a19:Int}(cnt:Nat) (Inv:T35){res:Z9}(hn:cnt≤500000000000)
 (hs:∀(rc:T21) (i:Nat) (a5:Y5),i<cnt→Inv i a5→(∀(a5':Y5),Inv (i+1) a5'→rc a4 a5' a18 a19 ((i+1:Nat):Int)=res)→waq (wan big rc xg) xg a4 a5 a18 a19 (i:Int)=res)
 (he:∀(rc:T21) (a5:Y5),Inv cnt a5→waq (wan big rc xg) xg a4 a5 a18 a19 (cnt:Int)=res)
 (i0:Nat) (hi:i0≤cnt) (a5:Y5) (h0:Inv i0 a5):wl9 big a4 a5 a18 a19 (i0:Int)=res :=
 idxB (fun m i=>∀(a5:Y5),Inv i a5→wma big xg m a4 a5 a18 a19 (i:Int)=res) (fun _ i hl ih a5 h=>hs _ i a5 hl h ih) (fun _ a5 h=>he _ a5 h) i0 hi hn a5 h0
theorem w1o {rec:T21}{k:Y5→Z9}{a4:Int}{a6:Int}{a18:Y3}{a19:Int}{a20:Int}{a29:Y4}{a30:Int}{a31:Bool}{a32:Bool}{a34:Y4}{a35:Int}(cnt:Nat) (Inv:T35){res:Z9}(hn:cnt≤500000000000)
 (hs:∀(rc:T3) (i:Nat) (a5:Y5),i<cnt→Inv i a5→(∀(a5':Y5),Inv (i+1) a5'→rc a4 a5' a6 a18 a19 a20 a29 a30 a31 a32 a34 a35 ((i+1:Nat):Int)=res)→wap rc (yg rec) a4 a5 a6 a18 a19 a20 a29 a30 a31 a32 a34 a35 (i:Int)=res)
 (he:∀(rc:T3) (a5:Y5),Inv cnt a5→wap rc (yg rec) a4 a5 a6 a18 a19 a20 a29 a30 a31 a32 a34 a35 (cnt:Int)=res)
 (i0:Nat) (hi:i0≤cnt) (a5:Y5) (h0:Inv i0 a5):wan big rec k a4 a5 a6 a18 a19 a20 a29 a30 a31 a32 a34 a35 (i0:Int)=res :=
 idxB (fun m i=>∀(a5:Y5),Inv i a5→wj2 big (yg rec) m a4 a5 a6 a18 a19 a20 a29 a30 a31 a32 a34 a35 (i:Int)=res) (fun _ i hl ih a5 h=>hs _ i a5 hl h ih) (fun _ a5 h=>he _ a5 h) i0 hi hn a5 h0
theorem w3m {a0:Y5}{a1:Y4}{a10:Y4}{a11:Int}(cnt:Nat) (Inv:T5){res:Z5}(hn:cnt≤500000000000)
 (hs:∀(rc:T23) (i:Nat),i<cnt→Inv i→(Inv (i+1)→rc a0 a1 a10 a11 ((i+1:Nat):Int)=res)→wat (wdd big rc xh) xh a0 a1 a10 a11 (i:Int)=res)
 (he:∀(rc:T23),Inv cnt→wat (wdd big rc xh) xh a0 a1 a10 a11 (cnt:Int)=res)
 (i0:Nat) (hi:i0≤cnt) (h0:Inv i0):wmb big a0 a1 a10 a11 (i0:Int)=res :=
 idxB (fun m i=>Inv i→wmc big xh m a0 a1 a10 a11 (i:Int)=res) (fun _ i hl ih h=>hs _ i hl h ih) (fun _ h=>he _ h) i0 hi hn h0
theorem w3n {rec:T23}{k:Z5}{a0:Y5}{a1:Y4}{a6:Int}{a10:Y4}{a11:Int}{a12:Int}{a16:Y4}{a17:Int}(cnt:Nat) (Inv:Nat→Bool→Prop){res:Z5}(hn:cnt≤500000000000)
 (hs:∀(rc:T14) (i:Nat) (a7:Bool),i<cnt→Inv i a7→(∀(a7':Bool),Inv (i+1) a7'→rc a0 a1 a6 a7' a10 a11 a12 a16 a17 ((i+1:Nat):Int)=res)→wdf rc (was rec) a0 a1 a6 a7 a10 a11 a12 a16 a17 (i:Int)=res)
 (he:∀(rc:T14) (a7:Bool),Inv cnt a7→wdf rc (was rec) a0 a1 a6 a7 a10 a11 a12 a16 a17 (cnt:Int)=res)
 (i0:Nat) (hi:i0≤cnt) (a7:Bool) (h0:Inv i0 a7):wdd big rec k a0 a1 a6 a7 a10 a11 a12 a16 a17 (i0:Int)=res :=
 idxB (fun m i=>∀(a7:Bool),Inv i a7→wmd big (was rec) m a0 a1 a6 a7 a10 a11 a12 a16 a17 (i:Int)=res) (fun _ i hl ih a7 h=>hs _ i a7 hl h ih) (fun _ a7 h=>he _ a7 h) i0 hi hn a7 h0
theorem w3o {a1:(Y5×Z1)}{a9:Int}(cnt:Nat) (Inv:T36){res:Z7}(hn:cnt≤500000000000)
 (hs:∀(rc:T13) (i:Nat) (a5:Y4),i<cnt→Inv i a5→(∀(a5':Y4),Inv (i+1) a5'→rc a1 a5' a9 ((i+1:Nat):Int)=res)→wdh rc wau a1 a5 a9 (i:Int)=res)
 (he:∀(rc:T13) (a5:Y4),Inv cnt a5→wdh rc wau a1 a5 a9 (cnt:Int)=res)
 (i0:Nat) (hi:i0≤cnt) (a5:Y4) (h0:Inv i0 a5):wme big a1 a5 a9 (i0:Int)=res :=
 idxB (fun m i=>∀(a5:Y4),Inv i a5→wmf big wau m a1 a5 a9 (i:Int)=res) (fun _ i hl ih a5 h=>hs _ i a5 hl h ih) (fun _ a5 h=>he _ a5 h) i0 hi hn a5 h0
theorem w3p {a1:Y5}{a11:Int}(cnt:Nat) (Inv:T73){res:Z8}(hn:cnt≤500000000000)
 (hs:∀(rc:T33) (i:Nat) (a4:Y3),i<cnt→Inv i a4→(∀(a4':Y3),Inv (i+1) a4'→rc a1 a4' a11 ((i+1:Nat):Int)=res)→wax (wdi big rc xi) xi a1 a4 a11 (i:Int)=res)
 (he:∀(rc:T33) (a4:Y3),Inv cnt a4→wax (wdi big rc xi) xi a1 a4 a11 (cnt:Int)=res)
 (i0:Nat) (hi:i0≤cnt) (a4:Y3) (h0:Inv i0 a4):wmg big a1 a4 a11 (i0:Int)=res :=
 idxB (fun m i=>∀(a4:Y3),Inv i a4→wmh big xi m a1 a4 a11 (i:Int)=res) (fun _ i hl ih a4 h=>hs _ i a4 hl h ih) (fun _ a4 h=>he _ a4 h) i0 hi hn a4 h0
theorem w3q {rec:T33}{k:Y3→Z8}{a1:Y5}{a4:Y3}{a5:Int}{a11:Int}{a12:Int}{a17:Int}(cnt:Nat) (Inv:T36){res:Z8}(hn:cnt≤500000000000)
 (hs:∀(rc:T19) (i:Nat) (a6:Y4),i<cnt→Inv i a6→(∀(a6':Y4),Inv (i+1) a6'→rc a1 a4 a5 a6' a11 a12 a17 ((i+1:Nat):Int)=res)→wdk rc (waw rec) a1 a4 a5 a6 a11 a12 a17 (i:Int)=res)
 (he:∀(rc:T19) (a6:Y4),Inv cnt a6→wdk rc (waw rec) a1 a4 a5 a6 a11 a12 a17 (cnt:Int)=res)
 (i0:Nat) (hi:i0≤cnt) (a6:Y4) (h0:Inv i0 a6):wdi big rec k a1 a4 a5 a6 a11 a12 a17 (i0:Int)=res :=
 idxB (fun m i=>∀(a6:Y4),Inv i a6→wmi big (waw rec) m a1 a4 a5 a6 a11 a12 a17 (i:Int)=res) (fun _ i hl ih a6 h=>hs _ i a6 hl h ih) (fun _ a6 h=>he _ a6 h) i0 hi hn a6 h0
theorem w3r {a0:Y5}{a10:Int}(cnt:Nat) (Inv:T35){res:Z11}(hn:cnt≤500000000000)
 (hs:∀(rc:T17) (i:Nat) (a3:Y5),i<cnt→Inv i a3→(∀(a3':Y5),Inv (i+1) a3'→rc a0 a3' a10 ((i+1:Nat):Int)=res)→wa0 (wdl big rc xk) xk a0 a3 a10 (i:Int)=res)
 (he:∀(rc:T17) (a3:Y5),Inv cnt a3→wa0 (wdl big rc xk) xk a0 a3 a10 (cnt:Int)=res)
 (i0:Nat) (hi:i0≤cnt) (a3:Y5) (h0:Inv i0 a3):wmj big a0 a3 a10 (i0:Int)=res :=
 idxB (fun m i=>∀(a3:Y5),Inv i a3→wmk big xk m a0 a3 a10 (i:Int)=res) (fun _ i hl ih a3 h=>hs _ i a3 hl h ih) (fun _ a3 h=>he _ a3 h) i0 hi hn a3 h0
theorem w3s {rec:T17}{k:Y5→Z11}{a0:Y5}{a4:Int}{a10:Int}{a11:Int}{a15:Int}(cnt:Nat) (Inv:T35){res:Z11}(hn:cnt≤500000000000)
 (hs:∀(rc:T24) (i:Nat) (a3:Y5),i<cnt→Inv i a3→(∀(a3':Y5),Inv (i+1) a3'→rc a0 a3' a4 a10 a11 a15 ((i+1:Nat):Int)=res)→wdn rc (waz rec) a0 a3 a4 a10 a11 a15 (i:Int)=res)
 (he:∀(rc:T24) (a3:Y5),Inv cnt a3→wdn rc (waz rec) a0 a3 a4 a10 a11 a15 (cnt:Int)=res)
 (i0:Nat) (hi:i0≤cnt) (a3:Y5) (h0:Inv i0 a3):wdl big rec k a0 a3 a4 a10 a11 a15 (i0:Int)=res :=
 idxB (fun m i=>∀(a3:Y5),Inv i a3→wml big (waz rec) m a0 a3 a4 a10 a11 a15 (i:Int)=res) (fun _ i hl ih a3 h=>hs _ i a3 hl h ih) (fun _ a3 h=>he _ a3 h) i0 hi hn a3 h0
theorem w3t {a1:(Y5×Z1)}{a9:Int}(cnt:Nat) (Inv:T36){res:Z7}(hn:cnt≤500000000000)
 (hs:∀(rc:T13) (i:Nat) (a5:Y4),i<cnt→Inv i a5→(∀(a5':Y4),Inv (i+1) a5'→rc a1 a5' a9 ((i+1:Nat):Int)=res)→wdp rc wa1 a1 a5 a9 (i:Int)=res)
 (he:∀(rc:T13) (a5:Y4),Inv cnt a5→wdp rc wa1 a1 a5 a9 (cnt:Int)=res)
 (i0:Nat) (hi:i0≤cnt) (a5:Y4) (h0:Inv i0 a5):wmm big a1 a5 a9 (i0:Int)=res :=
 idxB (fun m i=>∀(a5:Y4),Inv i a5→wmn big wa1 m a1 a5 a9 (i:Int)=res) (fun _ i hl ih a5 h=>hs _ i a5 hl h ih) (fun _ a5 h=>he _ a5 h) i0 hi hn a5 h0
theorem w3u {a1:Y4}{a11:Y4}{a12:Int}(cnt:Nat) (Inv:T36){res:Z7}(hn:cnt≤500000000000)
 (hs:∀(rc:T47) (i:Nat) (a5:Y4),i<cnt→Inv i a5→(∀(a5':Y4),Inv (i+1) a5'→rc a1 a5' a11 a12 ((i+1:Nat):Int)=res)→wdr rc wa2 a1 a5 a11 a12 (i:Int)=res)
 (he:∀(rc:T47) (a5:Y4),Inv cnt a5→wdr rc wa2 a1 a5 a11 a12 (cnt:Int)=res)
 (i0:Nat) (hi:i0≤cnt) (a5:Y4) (h0:Inv i0 a5):wmo big a1 a5 a11 a12 (i0:Int)=res :=
 idxB (fun m i=>∀(a5:Y4),Inv i a5→wmp big wa2 m a1 a5 a11 a12 (i:Int)=res) (fun _ i hl ih a5 h=>hs _ i a5 hl h ih) (fun _ a5 h=>he _ a5 h) i0 hi hn a5 h0
theorem w3v {a0:Y4}{a1:Y4}(cnt:Nat) (Inv:T5){res:Option Z0}(hn:cnt≤500000000000)
 (hs:∀(rc:Y4→Y4→Int→Option Z0) (i:Nat),i<cnt→Inv i→(Inv (i+1)→rc a0 a1 ((i+1:Nat):Int)=res)→wdu rc wa4 a0 a1 (i:Int)=res)
 (he:∀(rc:Y4→Y4→Int→Option Z0),Inv cnt→wdu rc wa4 a0 a1 (cnt:Int)=res)
 (i0:Nat) (hi:i0≤cnt) (h0:Inv i0):wmt big a0 a1 (i0:Int)=res :=
 idxB (fun m i=>Inv i→wmu big wa4 m a0 a1 (i:Int)=res) (fun _ i hl ih h=>hs _ i hl h ih) (fun _ h=>he _ h) i0 hi hn h0
theorem w3w {a1:Y2}{a3:Int}(cnt:Nat) (Inv:T5){res:Option Z0}(hn:cnt≤500000000000)
 (hs:∀(rc:Y2→Int→Int→Option Z0) (i:Nat),i<cnt→Inv i→(Inv (i+1)→rc a1 a3 ((i+1:Nat):Int)=res)→wdw rc (wa7 (yi big)) a1 a3 (i:Int)=res)
 (he:∀(rc:Y2→Int→Int→Option Z0),Inv cnt→wdw rc (wa7 (yi big)) a1 a3 (cnt:Int)=res)
 (i0:Nat) (hi:i0≤cnt) (h0:Inv i0):wmv big a1 a3 (i0:Int)=res :=
 idxB (fun m i=>Inv i→wmw big (wa7 (yi big)) m a1 a3 (i:Int)=res) (fun _ i hl ih h=>hs _ i hl h ih) (fun _ h=>he _ h) i0 hi hn h0
theorem w11 {a1:Y2}{a3:Int}(cnt:Nat) (Inv:T5){res:Option Z0}(hn:cnt≤500000000000)
 (hs:∀(rc:Y2→Int→Int→Option Z0) (i:Nat),i<cnt→Inv i→(Inv (i+1)→rc a1 a3 ((i+1:Nat):Int)=res)→yl (wa5 big rc wq) wq a1 a3 (i:Int)=res)
 (he:∀(rc:Y2→Int→Int→Option Z0),Inv cnt→yl (wa5 big rc wq) wq a1 a3 (cnt:Int)=res)
 (i0:Nat) (hi:i0≤cnt) (h0:Inv i0):yi big a1 a3 (i0:Int)=res :=
 idxB (fun m i=>Inv i→wj3 big wq m a1 a3 (i:Int)=res) (fun _ i hl ih h=>hs _ i hl h ih) (fun _ h=>he _ h) i0 hi hn h0
theorem w12 {rec:Y2→Int→Int→Option Z0}{k:Option Z0}{a1:Y2}{a3:Int}{a5:Int}(cnt:Nat) (Inv:T5){res:Option Z0}(hn:cnt≤500000000000)
 (hs:∀(rc:Y2→Int→Int→Int→Option Z0) (i:Nat),i<cnt→Inv i→(Inv (i+1)→rc a1 a3 a5 ((i+1:Nat):Int)=res)→wa8 rc (yk rec) a1 a3 a5 (i:Int)=res)
 (he:∀(rc:Y2→Int→Int→Int→Option Z0),Inv cnt→wa8 rc (yk rec) a1 a3 a5 (cnt:Int)=res)
 (i0:Nat) (hi:i0≤cnt) (h0:Inv i0):wa5 big rec k a1 a3 a5 (i0:Int)=res :=
 idxB (fun m i=>Inv i→wj4 big (yk rec) m a1 a3 a5 (i:Int)=res) (fun _ i hl ih h=>hs _ i hl h ih) (fun _ h=>he _ h) i0 hi hn h0
theorem w3x {a1:Y2}{a2:Y2}(cnt:Nat) (Inv:Nat→Y2→Prop){res:Z3}(hn:cnt≤500000000000)
 (hs:∀(rc:T38) (i:Nat) (a3:Y2),i<cnt→Inv i a3→(∀(a3':Y2),Inv (i+1) a3'→rc a1 a2 a3' ((i+1:Nat):Int)=res)→wbb (wdx big rc xl) xl a1 a2 a3 (i:Int)=res)
 (he:∀(rc:T38) (a3:Y2),Inv cnt a3→wbb (wdx big rc xl) xl a1 a2 a3 (cnt:Int)=res)
 (i0:Nat) (hi:i0≤cnt) (a3:Y2) (h0:Inv i0 a3):wmx big a1 a2 a3 (i0:Int)=res :=
 idxB (fun m i=>∀(a3:Y2),Inv i a3→wmy big xl m a1 a2 a3 (i:Int)=res) (fun _ i hl ih a3 h=>hs _ i a3 hl h ih) (fun _ a3 h=>he _ a3 h) i0 hi hn a3 h0
theorem w3y {rec:T38}{k:T43}{a1:Y2}{a2:Y2}{a3:Y2}{a4:Int}(cnt:Nat) (Inv:T36){res:Z3}(hn:cnt≤500000000000)
 (hs:∀(rc:T40) (i:Nat) (a5:Y4),i<cnt→Inv i a5→(∀(a5':Y4),Inv (i+1) a5'→rc a1 a2 a3 a4 a5' ((i+1:Nat):Int)=res)→wdz rc (wba rec) a1 a2 a3 a4 a5 (i:Int)=res)
 (he:∀(rc:T40) (a5:Y4),Inv cnt a5→wdz rc (wba rec) a1 a2 a3 a4 a5 (cnt:Int)=res)
 (i0:Nat) (hi:i0≤cnt) (a5:Y4) (h0:Inv i0 a5):wdx big rec k a1 a2 a3 a4 a5 (i0:Int)=res :=
 idxB (fun m i=>∀(a5:Y4),Inv i a5→wmz big (wba rec) m a1 a2 a3 a4 a5 (i:Int)=res) (fun _ i hl ih a5 h=>hs _ i a5 hl h ih) (fun _ a5 h=>he _ a5 h) i0 hi hn a5 h0
theorem w3z {a1:Y4}{a2:Y2}(cnt:Nat) (Inv:T36){res:Z5}(hn:cnt≤500000000000)
 (hs:∀(rc:T39) (i:Nat) (a5:Y4),i<cnt→Inv i a5→(∀(a5':Y4),Inv (i+1) a5'→rc a1 a2 a5' ((i+1:Nat):Int)=res)→wbg (wd0 big rc (xm (wt big))) (xm (wt big)) a1 a2 a5 (i:Int)=res)
 (he:∀(rc:T39) (a5:Y4),Inv cnt a5→wbg (wd0 big rc (xm (wt big))) (xm (wt big)) a1 a2 a5 (cnt:Int)=res)
 (i0:Nat) (hi:i0≤cnt) (a5:Y4) (h0:Inv i0 a5):wm0 big a1 a2 a5 (i0:Int)=res :=
 idxB (fun m i=>∀(a5:Y4),Inv i a5→wm1 big (xm (wt big)) m a1 a2 a5 (i:Int)=res) (fun _ i hl ih a5 h=>hs _ i a5 hl h ih) (fun _ a5 h=>he _ a5 h) i0 hi hn a5 h0
theorem w30 {rec:T39}{k:Y2→Y4→Z5}{a1:Y4}{a2:Y2}{a5:Y4}{a6:Int}(cnt:Nat) (Inv:Nat→Bool→Prop){res:Z5}(hn:cnt≤500000000000)
 (hs:∀(rc:T34) (i:Nat) (a7:Bool),i<cnt→Inv i a7→(∀(a7':Bool),Inv (i+1) a7'→rc a1 a2 a5 a6 a7' ((i+1:Nat):Int)=res)→wd2 rc (wbe rec) a1 a2 a5 a6 a7 (i:Int)=res)
 (he:∀(rc:T34) (a7:Bool),Inv cnt a7→wd2 rc (wbe rec) a1 a2 a5 a6 a7 (cnt:Int)=res)
 (i0:Nat) (hi:i0≤cnt) (a7:Bool) (h0:Inv i0 a7):wd0 big rec k a1 a2 a5 a6 a7 (i0:Int)=res :=
 idxB (fun m i=>∀(a7:Bool),Inv i a7→wm2 big (wbe rec) m a1 a2 a5 a6 a7 (i:Int)=res) (fun _ i hl ih a7 h=>hs _ i a7 hl h ih) (fun _ a7 h=>he _ a7 h) i0 hi hn a7 h0
theorem w16 {a2:Y2}{a5:Y4}(cnt:Nat) (Inv:T5){res:Z5}(hn:cnt≤500000000000)
 (hs:∀(rc:T64) (i:Nat),i<cnt→Inv i→(Inv (i+1)→rc a2 a5 ((i+1:Nat):Int)=res)→wbf rc ym a2 a5 (i:Int)=res)
 (he:∀(rc:T64),Inv cnt→wbf rc ym a2 a5 (cnt:Int)=res)
 (i0:Nat) (hi:i0≤cnt) (h0:Inv i0):wt big a2 a5 (i0:Int)=res :=
 idxB (fun m i=>Inv i→wj5 big ym m a2 a5 (i:Int)=res) (fun _ i hl ih h=>hs _ i hl h ih) (fun _ h=>he _ h) i0 hi hn h0
theorem w31 {a1:Y2}{a3:Y2}(cnt:Nat) (Inv:T5){res:Option Z0}(hn:cnt≤500000000000)
 (hs:∀(rc:Y2→Y2→Int→Option Z0) (i:Nat),i<cnt→Inv i→(Inv (i+1)→rc a1 a3 ((i+1:Nat):Int)=res)→wbj (wd3 big rc xn) xn a1 a3 (i:Int)=res)
 (he:∀(rc:Y2→Y2→Int→Option Z0),Inv cnt→wbj (wd3 big rc xn) xn a1 a3 (cnt:Int)=res)
 (i0:Nat) (hi:i0≤cnt) (h0:Inv i0):wm3 big a1 a3 (i0:Int)=res :=
 idxB (fun m i=>Inv i→wm4 big xn m a1 a3 (i:Int)=res) (fun _ i hl ih h=>hs _ i hl h ih) (fun _ h=>he _ h) i0 hi hn h0
theorem w32 {rec:Y2→Y2→Int→Option Z0}{k:Option Z0}{a1:Y2}{a3:Y2}{a4:Int}(cnt:Nat) (Inv:T5){res:Option Z0}(hn:cnt≤500000000000)
 (hs:∀(rc:Y2→Y2→Int→Int→Option Z0) (i:Nat),i<cnt→Inv i→(Inv (i+1)→rc a1 a3 a4 ((i+1:Nat):Int)=res)→wd5 rc (wbi rec) a1 a3 a4 (i:Int)=res)
 (he:∀(rc:Y2→Y2→Int→Int→Option Z0),Inv cnt→wd5 rc (wbi rec) a1 a3 a4 (cnt:Int)=res)
 (i0:Nat) (hi:i0≤cnt) (h0:Inv i0):wd3 big rec k a1 a3 a4 (i0:Int)=res :=
 idxB (fun m i=>Inv i→wm5 big (wbi rec) m a1 a3 a4 (i:Int)=res) (fun _ i hl ih h=>hs _ i hl h ih) (fun _ h=>he _ h) i0 hi hn h0
theorem w33 {a1:Int}{a2:Int}{a3:Y2}(cnt:Nat) (Inv:T36){res:Z10}(hn:cnt≤500000000000)
 (hs:∀(rc:T9) (i:Nat) (a8:Y4),i<cnt→Inv i a8→(∀(a8':Y4),Inv (i+1) a8'→rc a1 a2 a3 a8' ((i+1:Nat):Int)=res)→wd7 rc wbk a1 a2 a3 a8 (i:Int)=res)
 (he:∀(rc:T9) (a8:Y4),Inv cnt a8→wd7 rc wbk a1 a2 a3 a8 (cnt:Int)=res)
 (i0:Nat) (hi:i0≤cnt) (a8:Y4) (h0:Inv i0 a8):wm6 big a1 a2 a3 a8 (i0:Int)=res :=
 idxB (fun m i=>∀(a8:Y4),Inv i a8→wm7 big wbk m a1 a2 a3 a8 (i:Int)=res) (fun _ i hl ih a8 h=>hs _ i a8 hl h ih) (fun _ a8 h=>he _ a8 h) i0 hi hn a8 h0
theorem w34 {a0:Y4}{a1:Y4}(cnt:Nat) (Inv:T5){res:Option Z0}(hn:cnt≤500000000000)
 (hs:∀(rc:Y4→Y4→Int→Option Z0) (i:Nat),i<cnt→Inv i→(Inv (i+1)→rc a0 a1 ((i+1:Nat):Int)=res)→wd9 rc wbl a0 a1 (i:Int)=res)
 (he:∀(rc:Y4→Y4→Int→Option Z0),Inv cnt→wd9 rc wbl a0 a1 (cnt:Int)=res)
 (i0:Nat) (hi:i0≤cnt) (h0:Inv i0):wm8 big a0 a1 (i0:Int)=res :=
 idxB (fun m i=>Inv i→wm9 big wbl m a0 a1 (i:Int)=res) (fun _ i hl ih h=>hs _ i hl h ih) (fun _ h=>he _ h) i0 hi hn h0
theorem w35 {a1:Int}{a2:Int}{a3:Y2}(cnt:Nat) (Inv:T36){res:Z10}(hn:cnt≤500000000000)
 (hs:∀(rc:T9) (i:Nat) (a8:Y4),i<cnt→Inv i a8→(∀(a8':Y4),Inv (i+1) a8'→rc a1 a2 a3 a8' ((i+1:Nat):Int)=res)→web rc wbm a1 a2 a3 a8 (i:Int)=res)
 (he:∀(rc:T9) (a8:Y4),Inv cnt a8→web rc wbm a1 a2 a3 a8 (cnt:Int)=res)
 (i0:Nat) (hi:i0≤cnt) (a8:Y4) (h0:Inv i0 a8):wna big a1 a2 a3 a8 (i0:Int)=res :=
 idxB (fun m i=>∀(a8:Y4),Inv i a8→wnb big wbm m a1 a2 a3 a8 (i:Int)=res) (fun _ i hl ih a8 h=>hs _ i a8 hl h ih) (fun _ a8 h=>he _ a8 h) i0 hi hn a8 h0
theorem w36 {a0:Y1}{a10:Int}(cnt:Nat) (Inv:T5){Q:Z6→Prop}(hn:cnt≤500000000000)
 (hs:∀(rc:T20) (i:Nat),i<cnt→Inv i→(Inv (i+1)→Q (rc a0 a10 ((i+1:Nat):Int)))→Q (wbq (wec big rc xo) xo a0 a10 (i:Int)))
 (he:∀(rc:T20),Inv cnt→Q (wbq (wec big rc xo) xo a0 a10 (cnt:Int)))
 (i0:Nat) (hi:i0≤cnt) (h0:Inv i0):Q (wnc big a0 a10 (i0:Int)) :=
 idxB (fun m i=>Inv i→Q (wnd big xo m a0 a10 (i:Int))) (fun _ i hl ih h=>hs _ i hl h ih) (fun _ h=>he _ h) i0 hi hn h0
theorem w37 {rec:T20}{k:Z6}{a0:Y1}{a3:Int}{a10:Int}{a11:Int}{a18:Int}(cnt:Nat) (Inv:T5){Q:Z6→Prop}(hn:cnt≤500000000000)
 (hs:∀(rc:T4) (i:Nat),i<cnt→Inv i→(Inv (i+1)→Q (rc a0 a3 a10 a11 a18 ((i+1:Nat):Int)))→Q (wbr (wed big rc (xp rec)) (xp rec) a0 a3 a10 a11 a18 (i:Int)))
 (he:∀(rc:T4),Inv cnt→Q (wbr (wed big rc (xp rec)) (xp rec) a0 a3 a10 a11 a18 (cnt:Int)))
 (i0:Nat) (hi:i0≤cnt) (h0:Inv i0):Q (wec big rec k a0 a3 a10 a11 a18 (i0:Int)) :=
 idxB (fun m i=>Inv i→Q (wne big (xp rec) m a0 a3 a10 a11 a18 (i:Int))) (fun _ i hl ih h=>hs _ i hl h ih) (fun _ h=>he _ h) i0 hi hn h0
theorem w38 {rec:T4}{k:T20}{a0:Y1}{a3:Int}{a4:Int}{a10:Int}{a11:Int}{a18:Int}{a19:Int}{a26:Int}(cnt:Nat) (Inv:T5){Q:Z6→Prop}(hn:cnt≤500000000000)
 (hs:∀(rc:T15) (i:Nat),i<cnt→Inv i→(Inv (i+1)→Q (rc a0 a3 a4 a10 a11 a18 a19 a26 ((i+1:Nat):Int)))→Q (wef rc (wbp rec) a0 a3 a4 a10 a11 a18 a19 a26 (i:Int)))
 (he:∀(rc:T15),Inv cnt→Q (wef rc (wbp rec) a0 a3 a4 a10 a11 a18 a19 a26 (cnt:Int)))
 (i0:Nat) (hi:i0≤cnt) (h0:Inv i0):Q (wed big rec k a0 a3 a4 a10 a11 a18 a19 a26 (i0:Int)) :=
 idxB (fun m i=>Inv i→Q (wnf big (wbp rec) m a0 a3 a4 a10 a11 a18 a19 a26 (i:Int))) (fun _ i hl ih h=>hs _ i hl h ih) (fun _ h=>he _ h) i0 hi hn h0
theorem w39 {a1:Int}{a2:Int}{a8:Y1}{a33:Int}(cnt:Nat) (Inv:T5){res:Z2}(hn:cnt≤500000000000)
 (hs:∀(rc:T44) (i:Nat),i<cnt→Inv i→(Inv (i+1)→rc a1 a2 a8 a33 ((i+1:Nat):Int)=res)→weh rc wbs a1 a2 a8 a33 (i:Int)=res)
 (he:∀(rc:T44),Inv cnt→weh rc wbs a1 a2 a8 a33 (cnt:Int)=res)
 (i0:Nat) (hi:i0≤cnt) (h0:Inv i0):wng big a1 a2 a8 a33 (i0:Int)=res :=
 idxB (fun m i=>Inv i→wnh big wbs m a1 a2 a8 a33 (i:Int)=res) (fun _ i hl ih h=>hs _ i hl h ih) (fun _ h=>he _ h) i0 hi hn h0
theorem w4b {a1:Int}{a2:Int}{a3:Y2}(cnt:Nat) (Inv:T5){res:Z2}(hn:cnt≤500000000000)
 (hs:∀(rc:T53) (i:Nat),i<cnt→Inv i→(Inv (i+1)→rc a1 a2 a3 ((i+1:Nat):Int)=res)→wej rc wbt a1 a2 a3 (i:Int)=res)
 (he:∀(rc:T53),Inv cnt→wej rc wbt a1 a2 a3 (cnt:Int)=res)
 (i0:Nat) (hi:i0≤cnt) (h0:Inv i0):wni big a1 a2 a3 (i0:Int)=res :=
 idxB (fun m i=>Inv i→wnj big wbt m a1 a2 a3 (i:Int)=res) (fun _ i hl ih h=>hs _ i hl h ih) (fun _ h=>he _ h) i0 hi hn h0
theorem w4c {a0:Y5}{a1:Int}{a2:Int}{a14:Int}(cnt:Nat) (Inv:T5){res:Option Z0}(hn:cnt≤500000000000)
 (hs:∀(rc:Y5→Int→Int→Int→Int→Option Z0) (i:Nat),i<cnt→Inv i→(Inv (i+1)→rc a0 a1 a2 a14 ((i+1:Nat):Int)=res)→wel rc wbu a0 a1 a2 a14 (i:Int)=res)
 (he:∀(rc:Y5→Int→Int→Int→Int→Option Z0),Inv cnt→wel rc wbu a0 a1 a2 a14 (cnt:Int)=res)
 (i0:Nat) (hi:i0≤cnt) (h0:Inv i0):wnk big a0 a1 a2 a14 (i0:Int)=res :=
 idxB (fun m i=>Inv i→wnl big wbu m a0 a1 a2 a14 (i:Int)=res) (fun _ i hl ih h=>hs _ i hl h ih) (fun _ h=>he _ h) i0 hi hn h0
theorem w4d {a1:Unit}{a6:Y1}{a21:Int}(cnt:Nat) (Inv:T5){res:Z2}(hn:cnt≤500000000000)
 (hs:∀(rc:T0) (i:Nat),i<cnt→Inv i→(Inv (i+1)→rc a1 a6 a21 ((i+1:Nat):Int)=res)→wbx (wem big rc xr) xr a1 a6 a21 (i:Int)=res)
 (he:∀(rc:T0),Inv cnt→wbx (wem big rc xr) xr a1 a6 a21 (cnt:Int)=res)
 (i0:Nat) (hi:i0≤cnt) (h0:Inv i0):wii big a1 a6 a21 (i0:Int)=res :=
 idxB (fun m i=>Inv i→wnm big xr m a1 a6 a21 (i:Int)=res) (fun _ i hl ih h=>hs _ i hl h ih) (fun _ h=>he _ h) i0 hi hn h0
theorem w4e {rec:T0}{k:Z2}{a1:Unit}{a6:Y1}{a8:Int}{a21:Int}{a22:Int}{a29:Int}(cnt:Nat) (Inv:T5){res:Z2}(hn:cnt≤500000000000)
 (hs:∀(rc:T1) (i:Nat),i<cnt→Inv i→(Inv (i+1)→rc a1 a6 a8 a21 a22 a29 ((i+1:Nat):Int)=res)→weo rc (wbw rec) a1 a6 a8 a21 a22 a29 (i:Int)=res)
 (he:∀(rc:T1),Inv cnt→weo rc (wbw rec) a1 a6 a8 a21 a22 a29 (cnt:Int)=res)
 (i0:Nat) (hi:i0≤cnt) (h0:Inv i0):wem big rec k a1 a6 a8 a21 a22 a29 (i0:Int)=res :=
 idxB (fun m i=>Inv i→wnn big (wbw rec) m a1 a6 a8 a21 a22 a29 (i:Int)=res) (fun _ i hl ih h=>hs _ i hl h ih) (fun _ h=>he _ h) i0 hi hn h0
theorem w4f {a1:Y2}(cnt:Nat) (Inv:T5){res:Option Z0}(hn:cnt≤500000000000)
 (hs:∀(rc:Y2→Int→Option Z0) (i:Nat),i<cnt→Inv i→(Inv (i+1)→rc a1 ((i+1:Nat):Int)=res)→wb0 (wep big rc xt) xt a1 (i:Int)=res)
 (he:∀(rc:Y2→Int→Option Z0),Inv cnt→wb0 (wep big rc xt) xt a1 (cnt:Int)=res)
 (i0:Nat) (hi:i0≤cnt) (h0:Inv i0):wno big a1 (i0:Int)=res :=
 idxB (fun m i=>Inv i→wnp big xt m a1 (i:Int)=res) (fun _ i hl ih h=>hs _ i hl h ih) (fun _ h=>he _ h) i0 hi hn h0
theorem w4g {rec:Y2→Int→Option Z0}{k:Option Z0}{a1:Y2}{a3:Int}(cnt:Nat) (Inv:T5){res:Option Z0}(hn:cnt≤500000000000)
 (hs:∀(rc:Y2→Int→Int→Option Z0) (i:Nat),i<cnt→Inv i→(Inv (i+1)→rc a1 a3 ((i+1:Nat):Int)=res)→wer rc (wbz rec) a1 a3 (i:Int)=res)
 (he:∀(rc:Y2→Int→Int→Option Z0),Inv cnt→wer rc (wbz rec) a1 a3 (cnt:Int)=res)
 (i0:Nat) (hi:i0≤cnt) (h0:Inv i0):wep big rec k a1 a3 (i0:Int)=res :=
 idxB (fun m i=>Inv i→wnq big (wbz rec) m a1 a3 (i:Int)=res) (fun _ i hl ih h=>hs _ i hl h ih) (fun _ h=>he _ h) i0 hi hn h0
theorem w4h {a1:Unit}{a6:Y1}{a21:Int}(cnt:Nat) (Inv:T5){res:Z2}(hn:cnt≤500000000000)
 (hs:∀(rc:T0) (i:Nat),i<cnt→Inv i→(Inv (i+1)→rc a1 a6 a21 ((i+1:Nat):Int)=res)→wb3 (wes big rc xu) xu a1 a6 a21 (i:Int)=res)
 (he:∀(rc:T0),Inv cnt→wb3 (wes big rc xu) xu a1 a6 a21 (cnt:Int)=res)
 (i0:Nat) (hi:i0≤cnt) (h0:Inv i0):wiq big a1 a6 a21 (i0:Int)=res :=
 idxB (fun m i=>Inv i→wnr big xu m a1 a6 a21 (i:Int)=res) (fun _ i hl ih h=>hs _ i hl h ih) (fun _ h=>he _ h) i0 hi hn h0
theorem w4i {rec:T0}{k:Z2}{a1:Unit}{a6:Y1}{a8:Int}{a21:Int}{a22:Int}{a29:Int}(cnt:Nat) (Inv:T5){res:Z2}(hn:cnt≤500000000000)
 (hs:∀(rc:T1) (i:Nat),i<cnt→Inv i→(Inv (i+1)→rc a1 a6 a8 a21 a22 a29 ((i+1:Nat):Int)=res)→weu rc (wb2 rec) a1 a6 a8 a21 a22 a29 (i:Int)=res)
 (he:∀(rc:T1),Inv cnt→weu rc (wb2 rec) a1 a6 a8 a21 a22 a29 (cnt:Int)=res)
 (i0:Nat) (hi:i0≤cnt) (h0:Inv i0):wes big rec k a1 a6 a8 a21 a22 a29 (i0:Int)=res :=
 idxB (fun m i=>Inv i→wns big (wb2 rec) m a1 a6 a8 a21 a22 a29 (i:Int)=res) (fun _ i hl ih h=>hs _ i hl h ih) (fun _ h=>he _ h) i0 hi hn h0
theorem w4j {a0:Y1}{a9:Int}(cnt:Nat) (Inv:Nat→Int→Prop){res:Z5}(hn:cnt≤500000000000)
 (hs:∀(rc:T18) (i:Nat) (a3:Int),i<cnt→Inv i a3→(∀(a3':Int),Inv (i+1) a3'→rc a0 a3' a9 ((i+1:Nat):Int)=res)→wew rc wb4 a0 a3 a9 (i:Int)=res)
 (he:∀(rc:T18) (a3:Int),Inv cnt a3→wew rc wb4 a0 a3 a9 (cnt:Int)=res)
 (i0:Nat) (hi:i0≤cnt) (a3:Int) (h0:Inv i0 a3):wnt big a0 a3 a9 (i0:Int)=res :=
 idxB (fun m i=>∀(a3:Int),Inv i a3→wnu big wb4 m a0 a3 a9 (i:Int)=res) (fun _ i hl ih a3 h=>hs _ i a3 hl h ih) (fun _ a3 h=>he _ a3 h) i0 hi hn a3 h0
theorem w4k {a0:Y1}{a9:Int}(cnt:Nat) (Inv:Nat→Int→Prop){res:Z5}(hn:cnt≤500000000000)
 (hs:∀(rc:T18) (i:Nat) (a3:Int),i<cnt→Inv i a3→(∀(a3':Int),Inv (i+1) a3'→rc a0 a3' a9 ((i+1:Nat):Int)=res)→wey rc wb5 a0 a3 a9 (i:Int)=res)
 (he:∀(rc:T18) (a3:Int),Inv cnt a3→wey rc wb5 a0 a3 a9 (cnt:Int)=res)
 (i0:Nat) (hi:i0≤cnt) (a3:Int) (h0:Inv i0 a3):wnv big a0 a3 a9 (i0:Int)=res :=
 idxB (fun m i=>∀(a3:Int),Inv i a3→wnw big wb5 m a0 a3 a9 (i:Int)=res) (fun _ i hl ih a3 h=>hs _ i a3 hl h ih) (fun _ a3 h=>he _ a3 h) i0 hi hn a3 h0
theorem w4l {a1:(Y5×(Int×Unit))}{a9:Int}(cnt:Nat) (Inv:T36){res:Z7}(hn:cnt≤500000000000)
 (hs:∀(rc:(Y5×(Int×Unit))→Y4→Int→Int→Z7) (i:Nat) (a5:Y4),i<cnt→Inv i a5→(∀(a5':Y4),Inv (i+1) a5'→rc a1 a5' a9 ((i+1:Nat):Int)=res)→we0 rc wb6 a1 a5 a9 (i:Int)=res)
 (he:∀(rc:(Y5×(Int×Unit))→Y4→Int→Int→Z7) (a5:Y4),Inv cnt a5→we0 rc wb6 a1 a5 a9 (cnt:Int)=res)
 (i0:Nat) (hi:i0≤cnt) (a5:Y4) (h0:Inv i0 a5):wnx big a1 a5 a9 (i0:Int)=res :=
 idxB (fun m i=>∀(a5:Y4),Inv i a5→wny big wb6 m a1 a5 a9 (i:Int)=res) (fun _ i hl ih a5 h=>hs _ i a5 hl h ih) (fun _ a5 h=>he _ a5 h) i0 hi hn a5 h0
theorem w4m (self_V79:Z16→Option Y2){a0:Y1}{a1:Int}{a23:Y4}{a24:Int}(cnt:Nat) (Inv:T73){res:Option Y2}(hn:cnt≤500000000000)
 (hs:∀(rc:Y1→Int→Y3→Y4→Int→Int→Option Y2) (i:Nat) (a5:Y3),i<cnt→Inv i a5→(∀(a5':Y3),Inv (i+1) a5'→rc a0 a1 a5' a23 a24 ((i+1:Nat):Int)=res)→wb9 self_V79 (we1 self_V79 big rc (xx self_V79)) (xx self_V79) a0 a1 a5 a23 a24 (i:Int)=res)
 (he:∀(rc:Y1→Int→Y3→Y4→Int→Int→Option Y2) (a5:Y3),Inv cnt a5→wb9 self_V79 (we1 self_V79 big rc (xx self_V79)) (xx self_V79) a0 a1 a5 a23 a24 (cnt:Int)=res)
 (i0:Nat) (hi:i0≤cnt) (a5:Y3) (h0:Inv i0 a5):wnz self_V79 big a0 a1 a5 a23 a24 (i0:Int)=res :=
 idxB (fun m i=>∀(a5:Y3),Inv i a5→wn0 self_V79 big (xx self_V79) m a0 a1 a5 a23 a24 (i:Int)=res) (fun _ i hl ih a5 h=>hs _ i a5 hl h ih) (fun _ a5 h=>he _ a5 h) i0 hi hn a5 h0
theorem w4n (self_V79:Z16→Option Y2){rec:Y1→Int→Y3→Y4→Int→Int→Option Y2}{k:Y3→Option Y2}{a0:Y1}{a1:Int}{a23:Y4}{a24:Int}{a25:Int}{a31:Y3}{a32:Int}(cnt:Nat) (Inv:T73){res:Option Y2}(hn:cnt≤500000000000)
 (hs:∀(rc:Y1→Int→Y3→Y4→Int→Int→Y3→Int→Int→Option Y2) (i:Nat) (a5:Y3),i<cnt→Inv i a5→(∀(a5':Y3),Inv (i+1) a5'→rc a0 a1 a5' a23 a24 a25 a31 a32 ((i+1:Nat):Int)=res)→we3 self_V79 rc (wb8 self_V79 rec) a0 a1 a5 a23 a24 a25 a31 a32 (i:Int)=res)
 (he:∀(rc:Y1→Int→Y3→Y4→Int→Int→Y3→Int→Int→Option Y2) (a5:Y3),Inv cnt a5→we3 self_V79 rc (wb8 self_V79 rec) a0 a1 a5 a23 a24 a25 a31 a32 (cnt:Int)=res)
 (i0:Nat) (hi:i0≤cnt) (a5:Y3) (h0:Inv i0 a5):we1 self_V79 big rec k a0 a1 a5 a23 a24 a25 a31 a32 (i0:Int)=res :=
 idxB (fun m i=>∀(a5:Y3),Inv i a5→wn1 self_V79 big (wb8 self_V79 rec) m a0 a1 a5 a23 a24 a25 a31 a32 (i:Int)=res) (fun _ i hl ih a5 h=>hs _ i a5 hl h ih) (fun _ a5 h=>he _ a5 h) i0 hi hn a5 h0
theorem w4p {a4:Y3}{a16:Int}(cnt:Nat) (Inv:T5){res:Z2}(hn:cnt≤500000000000)
 (hs:∀(rc:T63) (i:Nat),i<cnt→Inv i→(Inv (i+1)→rc a4 a16 ((i+1:Nat):Int)=res)→we5 rc wca a4 a16 (i:Int)=res)
 (he:∀(rc:T63),Inv cnt→we5 rc wca a4 a16 (cnt:Int)=res)
 (i0:Nat) (hi:i0≤cnt) (h0:Inv i0):wi2 big a4 a16 (i0:Int)=res :=
 idxB (fun m i=>Inv i→wn2 big wca m a4 a16 (i:Int)=res) (fun _ i hl ih h=>hs _ i hl h ih) (fun _ h=>he _ h) i0 hi hn h0
theorem w4q (self_V86:(Y2×(Y4×Unit))→Option Y2){a1:Y4}{a2:Y2}{a5:Int}(cnt:Nat) (Inv:T73){res:Option Y2}(hn:cnt≤500000000000)
 (hs:∀(rc:Y4→Y2→Int→Y3→Int→Option Y2) (i:Nat) (a6:Y3),i<cnt→Inv i a6→(∀(a6':Y3),Inv (i+1) a6'→rc a1 a2 a5 a6' ((i+1:Nat):Int)=res)→wcc self_V86 rc (wcb self_V86) a1 a2 a5 a6 (i:Int)=res)
 (he:∀(rc:Y4→Y2→Int→Y3→Int→Option Y2) (a6:Y3),Inv cnt a6→wcc self_V86 rc (wcb self_V86) a1 a2 a5 a6 (cnt:Int)=res)
 (i0:Nat) (hi:i0≤cnt) (a6:Y3) (h0:Inv i0 a6):wn3 self_V86 big a1 a2 a5 a6 (i0:Int)=res :=
 idxB (fun m i=>∀(a6:Y3),Inv i a6→wi6 self_V86 big (wcb self_V86) m a1 a2 a5 a6 (i:Int)=res) (fun _ i hl ih a6 h=>hs _ i a6 hl h ih) (fun _ a6 h=>he _ a6 h) i0 hi hn a6 h0
theorem w4r {a4:Y3}(cnt:Nat) (Inv:T5){res:Z2}(hn:cnt≤500000000000)
 (hs:∀(rc:Y3→Int→Z2) (i:Nat),i<cnt→Inv i→(Inv (i+1)→rc a4 ((i+1:Nat):Int)=res)→we7 rc wcd a4 (i:Int)=res)
 (he:∀(rc:Y3→Int→Z2),Inv cnt→we7 rc wcd a4 (cnt:Int)=res)
 (i0:Nat) (hi:i0≤cnt) (h0:Inv i0):wi7 big a4 (i0:Int)=res :=
 idxB (fun m i=>Inv i→wn5 big wcd m a4 (i:Int)=res) (fun _ i hl ih h=>hs _ i hl h ih) (fun _ h=>he _ h) i0 hi hn h0
theorem w4t {a0:Y3}{a1:Y3}(cnt:Nat) (Inv:T5){res:Option Z0}(hn:cnt≤500000000000)
 (hs:∀(rc:Y3→Y3→Int→Option Z0) (i:Nat),i<cnt→Inv i→(Inv (i+1)→rc a0 a1 ((i+1:Nat):Int)=res)→we9 rc wce a0 a1 (i:Int)=res)
 (he:∀(rc:Y3→Y3→Int→Option Z0),Inv cnt→we9 rc wce a0 a1 (cnt:Int)=res)
 (i0:Nat) (hi:i0≤cnt) (h0:Inv i0):wn6 big a0 a1 (i0:Int)=res :=
 idxB (fun m i=>Inv i→wn7 big wce m a0 a1 (i:Int)=res) (fun _ i hl ih h=>hs _ i hl h ih) (fun _ h=>he _ h) i0 hi hn h0
theorem w24 {a0:Y4}{a3:Y2}{a4:Int}{a5:Int}{a6:Y4}{a14:Bool}(cnt:Nat) (Inv:T5){res:Option Z0}(hn:cnt≤500000000000)
 (hs:∀(rc:Y4→Y2→Int→Int→Y4→Bool→Int→Option Z0) (i:Nat),i<cnt→Inv i→(Inv (i+1)→rc a0 a3 a4 a5 a6 a14 ((i+1:Nat):Int)=res)→wco rc wcn a0 a3 a4 a5 a6 a14 (i:Int)=res)
 (he:∀(rc:Y4→Y2→Int→Int→Y4→Bool→Int→Option Z0),Inv cnt→wco rc wcn a0 a3 a4 a5 a6 a14 (cnt:Int)=res)
 (i0:Nat) (hi:i0≤cnt) (h0:Inv i0):wp1 big a0 a3 a4 a5 a6 a14 (i0:Int)=res :=
 idxB (fun m i=>Inv i→wf5 big wcn m a0 a3 a4 a5 a6 a14 (i:Int)=res) (fun _ i hl ih h=>hs _ i hl h ih) (fun _ h=>he _ h) i0 hi hn h0
end Go.Proofs.Yteanfidobhpchaa
