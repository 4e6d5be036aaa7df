import Derived.Test.YtaehhdpcmfagjaaGreatPLib
import Derived.Test.YtaehhdpcmfagjaaGreatGFO
set_option linter.unusedVariables false
namespace Go.Proofs.YtaehhdpcmfagjaaGreat
open Go Go.Gx Go.Proofs
theorem xxv {a1:Int}(cnt:Nat) (Inv:Nat→Z15→Y4→Prop){Q:Z20→Prop}(hn:cnt≤500000000000)
 (hs:∀(rc:T111) (i:Nat) (a0:Z15) (a5:Y4),i<cnt→Inv i a0 a5→(∀(a0':Z15) (a5':Y4),Inv (i+1) a0' a5'→Q (rc a0' a1 a5' ((i+1:Nat):Int)))→Q (wsi rc wo6 a0 a1 a5 (i:Int)))
 (he:∀(rc:T111) (a0:Z15) (a5:Y4),Inv cnt a0 a5→Q (wsi rc wo6 a0 a1 a5 (cnt:Int)))
 (i0:Nat) (hi:i0≤cnt) (a0:Z15) (a5:Y4) (h0:Inv i0 a0 a5):Q (xbh big a0 a1 a5 (i0:Int)) :=
 idxB (fun m i=>∀(a0:Z15) (a5:Y4),Inv i a0 a5→Q (xbi big wo6 m a0 a1 a5 (i:Int))) (fun _ i hl ih a0 a5 h=>hs _ i a0 a5 hl h ih) (fun _ a0 a5 h=>he _ a0 a5 h) i0 hi hn a0 a5 h0
theorem xxw {a0:Int}{a1:Y4}(cnt:Nat) (Inv:T10){Q:Z0→Prop}(hn:cnt≤500000000000)
 (hs:∀(rc:T134) (i:Nat),i<cnt→Inv i→(Inv (i+1)→Q (rc a0 a1 ((i+1:Nat):Int)))→Q (wte rc wpc a0 a1 (i:Int)))
 (he:∀(rc:T134),Inv cnt→Q (wte rc wpc a0 a1 (cnt:Int)))
 (i0:Nat) (hi:i0≤cnt) (h0:Inv i0):Q (xcb big a0 a1 (i0:Int)) :=
 idxB (fun m i=>Inv i→Q (xcc big wpc m a0 a1 (i:Int))) (fun _ i hl ih h=>hs _ i hl h ih) (fun _ h=>he _ h) i0 hi hn h0
theorem xxx {a0:Y4}{a1:Int}(cnt:Nat) (Inv:Nat→(List Bool)→Prop){Q:Z0→Prop}(hn:cnt≤500000000000)
 (hs:∀(rc:T90) (i:Nat) (a5:(List Bool)),i<cnt→Inv i a5→(∀(a5':(List Bool)),Inv (i+1) a5'→Q (rc a0 a1 a5' ((i+1:Nat):Int)))→Q (wto rc wpf a0 a1 a5 (i:Int)))
 (he:∀(rc:T90) (a5:(List Bool)),Inv cnt a5→Q (wto rc wpf a0 a1 a5 (cnt:Int)))
 (i0:Nat) (hi:i0≤cnt) (a5:(List Bool)) (h0:Inv i0 a5):Q (xct big a0 a1 a5 (i0:Int)) :=
 idxB (fun m i=>∀(a5:(List Bool)),Inv i a5→Q (xcu big wpf m a0 a1 a5 (i:Int))) (fun _ i hl ih a5 h=>hs _ i a5 hl h ih) (fun _ a5 h=>he _ a5 h) i0 hi hn a5 h0
theorem xxy {a0:Int}{a1:Z11}{a4:Y2}(cnt:Nat) (Inv:T59){Q:Z4→Prop}(hn:cnt≤500000000000)
 (hs:∀(rc:T30) (i:Nat) (a5:Y5),i<cnt→Inv i a5→(∀(a5':Y5),Inv (i+1) a5'→Q (rc a0 a1 a4 a5' ((i+1:Nat):Int)))→Q (wt7 rc (wpk (wpj big)) a0 a1 a4 a5 (i:Int)))
 (he:∀(rc:T30) (a5:Y5),Inv cnt a5→Q (wt7 rc (wpk (wpj big)) a0 a1 a4 a5 (cnt:Int)))
 (i0:Nat) (hi:i0≤cnt) (a5:Y5) (h0:Inv i0 a5):Q (xda big a0 a1 a4 a5 (i0:Int)) :=
 idxB (fun m i=>∀(a5:Y5),Inv i a5→Q (xdb big (wpk (wpj big)) m a0 a1 a4 a5 (i:Int))) (fun _ i hl ih a5 h=>hs _ i a5 hl h ih) (fun _ a5 h=>he _ a5 h) i0 hi hn a5 h0
theorem xxz {a0:Int}{a1:Z11}{a4:Y2}(cnt:Nat) (Inv:T59){Q:Z4→Prop}(hn:cnt≤500000000000)
 (hs:∀(rc:T30) (i:Nat) (a5:Y5),i<cnt→Inv i a5→(∀(a5':Y5),Inv (i+1) a5'→Q (rc a0 a1 a4 a5' ((i+1:Nat):Int)))→Q (wt8 rc (wpl (wdk big)) a0 a1 a4 a5 (i:Int)))
 (he:∀(rc:T30) (a5:Y5),Inv cnt a5→Q (wt8 rc (wpl (wdk big)) a0 a1 a4 a5 (cnt:Int)))
 (i0:Nat) (hi:i0≤cnt) (a5:Y5) (h0:Inv i0 a5):Q (wpj big a0 a1 a4 a5 (i0:Int)) :=
 idxB (fun m i=>∀(a5:Y5),Inv i a5→Q (xdc big (wpl (wdk big)) m a0 a1 a4 a5 (i:Int))) (fun _ i hl ih a5 h=>hs _ i a5 hl h ih) (fun _ a5 h=>he _ a5 h) i0 hi hn a5 h0
theorem xxg {a0:Int}{a4:Y2}(cnt:Nat) (Inv:T59){Q:Z4→Prop}(hn:cnt≤500000000000)
 (hs:∀(rc:T29) (i:Nat) (a5:Y5),i<cnt→Inv i a5→(∀(a5':Y5),Inv (i+1) a5'→Q (rc a0 a4 a5' ((i+1:Nat):Int)))→Q (wis (wm1 big rc (wae (ye big))) (wae (ye big)) a0 a4 a5 (i:Int)))
 (he:∀(rc:T29) (a5:Y5),Inv cnt a5→Q (wis (wm1 big rc (wae (ye big))) (wae (ye big)) a0 a4 a5 (cnt:Int)))
 (i0:Nat) (hi:i0≤cnt) (a5:Y5) (h0:Inv i0 a5):Q (wdk big a0 a4 a5 (i0:Int)) :=
 idxB (fun m i=>∀(a5:Y5),Inv i a5→Q (w24 big (wae (ye big)) m a0 a4 a5 (i:Int))) (fun _ i hl ih a5 h=>hs _ i a5 hl h ih) (fun _ a5 h=>he _ a5 h) i0 hi hn a5 h0
theorem xxh {rec:T29}{k:T107}{a0:Int}{a4:Y2}{a9:Int}(cnt:Nat) (Inv:T59){Q:Z4→Prop}(hn:cnt≤500000000000)
 (hs:∀(rc:T28) (i:Nat) (a5:Y5),i<cnt→Inv i a5→(∀(a5':Y5),Inv (i+1) a5'→Q (rc a0 a4 a5' a9 ((i+1:Nat):Int)))→Q (wit (wm2 big rc (waf rec)) (waf rec) a0 a4 a5 a9 (i:Int)))
 (he:∀(rc:T28) (a5:Y5),Inv cnt a5→Q (wit (wm2 big rc (waf rec)) (waf rec) a0 a4 a5 a9 (cnt:Int)))
 (i0:Nat) (hi:i0≤cnt) (a5:Y5) (h0:Inv i0 a5):Q (wm1 big rec k a0 a4 a5 a9 (i0:Int)) :=
 idxB (fun m i=>∀(a5:Y5),Inv i a5→Q (w25 big (waf rec) m a0 a4 a5 a9 (i:Int))) (fun _ i hl ih a5 h=>hs _ i a5 hl h ih) (fun _ a5 h=>he _ a5 h) i0 hi hn a5 h0
theorem xxj {a0:Int}{a4:Y2}{a5:Y5}(cnt:Nat) (Inv:Nat→Y2→Prop){Q:Z4→Prop}(hn:cnt≤500000000000)
 (hs:∀(rc:T54) (i:Nat) (a12:Y2),i<cnt→Inv i a12→(∀(a12':Y2),Inv (i+1) a12'→Q (rc a0 a4 a5 a12' ((i+1:Nat):Int)))→Q (wiu (wm3 big rc wag) wag a0 a4 a5 a12 (i:Int)))
 (he:∀(rc:T54) (a12:Y2),Inv cnt a12→Q (wiu (wm3 big rc wag) wag a0 a4 a5 a12 (cnt:Int)))
 (i0:Nat) (hi:i0≤cnt) (a12:Y2) (h0:Inv i0 a12):Q (ye big a0 a4 a5 a12 (i0:Int)) :=
 idxB (fun m i=>∀(a12:Y2),Inv i a12→Q (w27 big wag m a0 a4 a5 a12 (i:Int))) (fun _ i hl ih a12 h=>hs _ i a12 hl h ih) (fun _ a12 h=>he _ a12 h) i0 hi hn a12 h0
theorem xxi {rec:T28}{k:T29}{a0:Int}{a4:Y2}{a9:Int}{a10:Int}(cnt:Nat) (Inv:T59){Q:Z4→Prop}(hn:cnt≤500000000000)
 (hs:∀(rc:T71) (i:Nat) (a5:Y5),i<cnt→Inv i a5→(∀(a5':Y5),Inv (i+1) a5'→Q (rc a0 a4 a5' a9 a10 ((i+1:Nat):Int)))→Q (wm6 rc (wiq rec) a0 a4 a5 a9 a10 (i:Int)))
 (he:∀(rc:T71) (a5:Y5),Inv cnt a5→Q (wm6 rc (wiq rec) a0 a4 a5 a9 a10 (cnt:Int)))
 (i0:Nat) (hi:i0≤cnt) (a5:Y5) (h0:Inv i0 a5):Q (wm2 big rec k a0 a4 a5 a9 a10 (i0:Int)) :=
 idxB (fun m i=>∀(a5:Y5),Inv i a5→Q (w26 big (wiq rec) m a0 a4 a5 a9 a10 (i:Int))) (fun _ i hl ih a5 h=>hs _ i a5 hl h ih) (fun _ a5 h=>he _ a5 h) i0 hi hn a5 h0
theorem xxk {rec:T54}{k:T52}{a0:Int}{a4:Y2}{a5:Y5}{a12:Y2}{a13:Int}(cnt:Nat) (Inv:T7){Q:Z4→Prop}(hn:cnt≤500000000000)
 (hs:∀(rc:T64) (i:Nat) (a14:Y4),i<cnt→Inv i a14→(∀(a14':Y4),Inv (i+1) a14'→Q (rc a0 a4 a5 a12 a13 a14' ((i+1:Nat):Int)))→Q (wm7 rc (wir rec) a0 a4 a5 a12 a13 a14 (i:Int)))
 (he:∀(rc:T64) (a14:Y4),Inv cnt a14→Q (wm7 rc (wir rec) a0 a4 a5 a12 a13 a14 (cnt:Int)))
 (i0:Nat) (hi:i0≤cnt) (a14:Y4) (h0:Inv i0 a14):Q (wm3 big rec k a0 a4 a5 a12 a13 a14 (i0:Int)) :=
 idxB (fun m i=>∀(a14:Y4),Inv i a14→Q (w28 big (wir rec) m a0 a4 a5 a12 a13 a14 (i:Int))) (fun _ i hl ih a14 h=>hs _ i a14 hl h ih) (fun _ a14 h=>he _ a14 h) i0 hi hn a14 h0
theorem xve {a0:Y4}{a1:Int}(cnt:Nat) (Inv:T10){Q:Z2→Prop}(hn:cnt≤500000000000)
 (hs:∀(rc:T60) (i:Nat),i<cnt→Inv i→(Inv (i+1)→Q (rc a0 a1 ((i+1:Nat):Int)))→Q (wjp rc wcn a0 a1 (i:Int)))
 (he:∀(rc:T60),Inv cnt→Q (wjp rc wcn a0 a1 (cnt:Int)))
 (i0:Nat) (hi:i0≤cnt) (h0:Inv i0):Q (wyg big a0 a1 (i0:Int)) :=
 idxB (fun m i=>Inv i→Q (wyh big wcn m a0 a1 (i:Int))) (fun _ i hl ih h=>hs _ i hl h ih) (fun _ h=>he _ h) i0 hi hn h0
theorem xvf {a2:Y2}{a3:Int}(cnt:Nat) (Inv:Nat→Z15→Z11→Prop){Q:Z7→Prop}(hn:cnt≤500000000000)
 (hs:∀(rc:T27) (i:Nat) (a0:Z15) (a4:Z11),i<cnt→Inv i a0 a4→(∀(a0':Z15) (a4':Z11),Inv (i+1) a0' a4'→Q (rc a0' a2 a3 a4' ((i+1:Nat):Int)))→Q (wep (wjq big rc (zq (xr big) (wo big))) (zq (xr big) (wo big)) a0 a2 a3 a4 (i:Int)))
 (he:∀(rc:T27) (a0:Z15) (a4:Z11),Inv cnt a0 a4→Q (wep (wjq big rc (zq (xr big) (wo big))) (zq (xr big) (wo big)) a0 a2 a3 a4 (cnt:Int)))
 (i0:Nat) (hi:i0≤cnt) (a0:Z15) (a4:Z11) (h0:Inv i0 a0 a4):Q (wyr big a0 a2 a3 a4 (i0:Int)) :=
 idxB (fun m i=>∀(a0:Z15) (a4:Z11),Inv i a0 a4→Q (wyt big (zq (xr big) (wo big)) m a0 a2 a3 a4 (i:Int))) (fun _ i hl ih a0 a4 h=>hs _ i a0 a4 hl h ih) (fun _ a0 a4 h=>he _ a0 a4 h) i0 hi hn a0 a4 h0
theorem xvg {rec:T27}{k:T68}{a2:Y2}{a3:Int}{a5:Int}(cnt:Nat) (Inv:Nat→Z15→Z11→Prop){Q:Z7→Prop}(hn:cnt≤500000000000)
 (hs:∀(rc:T70) (i:Nat) (a0:Z15) (a4:Z11),i<cnt→Inv i a0 a4→(∀(a0':Z15) (a4':Z11),Inv (i+1) a0' a4'→Q (rc a0' a2 a3 a4' a5 ((i+1:Nat):Int)))→Q (wjs rc (wen rec) a0 a2 a3 a4 a5 (i:Int)))
 (he:∀(rc:T70) (a0:Z15) (a4:Z11),Inv cnt a0 a4→Q (wjs rc (wen rec) a0 a2 a3 a4 a5 (cnt:Int)))
 (i0:Nat) (hi:i0≤cnt) (a0:Z15) (a4:Z11) (h0:Inv i0 a0 a4):Q (wjq big rec k a0 a2 a3 a4 a5 (i0:Int)) :=
 idxB (fun m i=>∀(a0:Z15) (a4:Z11),Inv i a0 a4→Q (wyu big (wen rec) m a0 a2 a3 a4 a5 (i:Int))) (fun _ i hl ih a0 a4 h=>hs _ i a0 a4 hl h ih) (fun _ a0 a4 h=>he _ a0 a4 h) i0 hi hn a0 a4 h0
theorem xrj {a0:Z15}{a2:Y2}{a3:Int}{a7:Y4}(cnt:Nat) (Inv:T110){Q:Z7→Prop}(hn:cnt≤500000000000)
 (hs:∀(rc:T72) (i:Nat) (a4:Z11),i<cnt→Inv i a4→(∀(a4':Z11),Inv (i+1) a4'→Q (rc a0 a2 a3 a4' a7 ((i+1:Nat):Int)))→Q (weo rc (yw (wo big)) a0 a2 a3 a4 a7 (i:Int)))
 (he:∀(rc:T72) (a4:Z11),Inv cnt a4→Q (weo rc (yw (wo big)) a0 a2 a3 a4 a7 (cnt:Int)))
 (i0:Nat) (hi:i0≤cnt) (a4:Z11) (h0:Inv i0 a4):Q (xr big a0 a2 a3 a4 a7 (i0:Int)) :=
 idxB (fun m i=>∀(a4:Z11),Inv i a4→Q (wu6 big (yw (wo big)) m a0 a2 a3 a4 a7 (i:Int))) (fun _ i hl ih a4 h=>hs _ i a4 hl h ih) (fun _ a4 h=>he _ a4 h) i0 hi hn a4 h0
theorem xrk {a2:Y2}(mu:Z15→Y2→Nat) (Inv:Z15→Y2→Prop){Q:Z7→Prop}
 (hs:∀(rc:T125) (a0:Z15) (a9:Y2),Inv a0 a9→(∀(a0':Z15) (a9':Y2),Inv a0' a9'→mu a0' a9'<mu a0 a9→Q (rc a0' a2 a9'))→Q (wu5 rc wem a0 a2 a9))
 (a0:Z15) (a9:Y2) (hm:mu a0 a9≤500000000000) (h0:Inv a0 a9):Q (wo big a0 a2 a9) :=
 muR (fun m=>∀(a0:Z15) (a9:Y2),mu a0 a9<m→Inv a0 a9→Q (wu7 big wem m a0 a2 a9)) (fun a0 a9 h2 _=>absurd h2 (Nat.not_lt_zero _)) (fun _ ih a0 a9 h2 h3=>hs _ a0 a9 h3 fun a0' a9' h4 h5=>ih a0' a9' (by omega) h4) big a0 a9 (by have:=jp;omega) h0
theorem xvh {a0:Y4}{a1:Int}(cnt:Nat) (Inv:T10){res:Z0}(hn:cnt≤500000000000)
 (hs:∀(rc:T66) (i:Nat),i<cnt→Inv i→(Inv (i+1)→rc a0 a1 ((i+1:Nat):Int)=res)→wjw rc wfp a0 a1 (i:Int)=res)
 (he:∀(rc:T66),Inv cnt→wjw rc wfp a0 a1 (cnt:Int)=res)
 (i0:Nat) (hi:i0≤cnt) (h0:Inv i0):wzi big a0 a1 (i0:Int)=res :=
 idxB (fun m i=>Inv i→wzj big wfp m a0 a1 (i:Int)=res) (fun _ i hl ih h=>hs _ i hl h ih) (fun _ h=>he _ h) i0 hi hn h0
theorem xvi {a1:Int}{a2:Int}{a3:Y2}(cnt:Nat) (Inv:T10){res:Z0}(hn:cnt≤500000000000)
 (hs:∀(rc:T114) (i:Nat),i<cnt→Inv i→(Inv (i+1)→rc a1 a2 a3 ((i+1:Nat):Int)=res)→wjy rc wfq a1 a2 a3 (i:Int)=res)
 (he:∀(rc:T114),Inv cnt→wjy rc wfq a1 a2 a3 (cnt:Int)=res)
 (i0:Nat) (hi:i0≤cnt) (h0:Inv i0):wzk big a1 a2 a3 (i0:Int)=res :=
 idxB (fun m i=>Inv i→wzl big wfq m a1 a2 a3 (i:Int)=res) (fun _ i hl ih h=>hs _ i hl h ih) (fun _ h=>he _ h) i0 hi hn h0
theorem xvk {a0:Z15}{a2:Y2}{a3:Y2}{a4:Int}{a5:Y4}(cnt:Nat) (Inv:T110){Q:Z7→Prop}(hn:cnt≤500000000000)
 (hs:∀(rc:T62) (i:Nat) (a6:Z11),i<cnt→Inv i a6→(∀(a6':Z11),Inv (i+1) a6'→Q (rc a0 a2 a3 a4 a5 a6' ((i+1:Nat):Int)))→Q (wj1 rc wfs a0 a2 a3 a4 a5 a6 (i:Int)))
 (he:∀(rc:T62) (a6:Z11),Inv cnt a6→Q (wj1 rc wfs a0 a2 a3 a4 a5 a6 (cnt:Int)))
 (i0:Nat) (hi:i0≤cnt) (a6:Z11) (h0:Inv i0 a6):Q (wzm big a0 a2 a3 a4 a5 a6 (i0:Int)) :=
 idxB (fun m i=>∀(a6:Z11),Inv i a6→Q (wzn big wfs m a0 a2 a3 a4 a5 a6 (i:Int))) (fun _ i hl ih a6 h=>hs _ i a6 hl h ih) (fun _ a6 h=>he _ a6 h) i0 hi hn a6 h0
theorem xvl {a0:Int}{a8:Int}(cnt:Nat) (Inv:T59){res:Z14}(hn:cnt≤500000000000)
 (hs:∀(rc:T112) (i:Nat) (a3:Y5),i<cnt→Inv i a3→(∀(a3':Y5),Inv (i+1) a3'→rc a0 a3' a8 ((i+1:Nat):Int)=res)→wj3 rc wft a0 a3 a8 (i:Int)=res)
 (he:∀(rc:T112) (a3:Y5),Inv cnt a3→wj3 rc wft a0 a3 a8 (cnt:Int)=res)
 (i0:Nat) (hi:i0≤cnt) (a3:Y5) (h0:Inv i0 a3):wzo big a0 a3 a8 (i0:Int)=res :=
 idxB (fun m i=>∀(a3:Y5),Inv i a3→wzp big wft m a0 a3 a8 (i:Int)=res) (fun _ i hl ih a3 h=>hs _ i a3 hl h ih) (fun _ a3 h=>he _ a3 h) i0 hi hn a3 h0
theorem xvm {a0:Y5}{a7:Int}(cnt:Nat) (Inv:T10){res:Z0}(hn:cnt≤500000000000)
 (hs:∀(rc:T49) (i:Nat),i<cnt→Inv i→(Inv (i+1)→rc a0 a7 ((i+1:Nat):Int)=res)→wfy (wj6 big rc zr) zr a0 a7 (i:Int)=res)
 (he:∀(rc:T49),Inv cnt→wfy (wj6 big rc zr) zr a0 a7 (cnt:Int)=res)
 (i0:Nat) (hi:i0≤cnt) (h0:Inv i0):wzy big a0 a7 (i0:Int)=res :=
 idxB (fun m i=>Inv i→wzz big zr m a0 a7 (i:Int)=res) (fun _ i hl ih h=>hs _ i hl h ih) (fun _ h=>he _ h) i0 hi hn h0
theorem xvn {rec:T49}{k:Z0}{a0:Y5}{a3:Int}{a7:Int}{a8:Int}{a20:Int}(cnt:Nat) (Inv:T10){res:Z0}(hn:cnt≤500000000000)
 (hs:∀(rc:T23) (i:Nat),i<cnt→Inv i→(Inv (i+1)→rc a0 a3 a7 a8 a20 ((i+1:Nat):Int)=res)→wfz (wbu big rc (yc rec)) (yc rec) a0 a3 a7 a8 a20 (i:Int)=res)
 (he:∀(rc:T23),Inv cnt→wfz (wbu big rc (yc rec)) (yc rec) a0 a3 a7 a8 a20 (cnt:Int)=res)
 (i0:Nat) (hi:i0≤cnt) (h0:Inv i0):wj6 big rec k a0 a3 a7 a8 a20 (i0:Int)=res :=
 idxB (fun m i=>Inv i→wz0 big (yc rec) m a0 a3 a7 a8 a20 (i:Int)=res) (fun _ i hl ih h=>hs _ i hl h ih) (fun _ h=>he _ h) i0 hi hn h0
theorem xsh {rec:T23}{k:T49}{a0:Y5}{a3:Int}{a4:Int}{a7:Int}{a8:Int}{a20:Int}{a21:Int}{a46:Int}(cnt:Nat) (Inv:T10){res:Z0}(hn:cnt≤500000000000)
 (hs:∀(rc:T37) (i:Nat),i<cnt→Inv i→(Inv (i+1)→rc a0 a3 a4 a7 a8 a20 a21 a46 ((i+1:Nat):Int)=res)→wfx rc (wbv rec) a0 a3 a4 a7 a8 a20 a21 a46 (i:Int)=res)
 (he:∀(rc:T37),Inv cnt→wfx rc (wbv rec) a0 a3 a4 a7 a8 a20 a21 a46 (cnt:Int)=res)
 (i0:Nat) (hi:i0≤cnt) (h0:Inv i0):wbu big rec k a0 a3 a4 a7 a8 a20 a21 a46 (i0:Int)=res :=
 idxB (fun m i=>Inv i→wv2 big (wbv rec) m a0 a3 a4 a7 a8 a20 a21 a46 (i:Int)=res) (fun _ i hl ih h=>hs _ i hl h ih) (fun _ h=>he _ h) i0 hi hn h0
theorem xvo {a4:Int}{a18:Y3}{a19:Int}(cnt:Nat) (Inv:T59){res:Z12}(hn:cnt≤500000000000)
 (hs:∀(rc:T51) (i:Nat) (a5:Y5),i<cnt→Inv i a5→(∀(a5':Y5),Inv (i+1) a5'→rc a4 a5' a18 a19 ((i+1:Nat):Int)=res)→wf4 (wf1 big rc zt) zt a4 a5 a18 a19 (i:Int)=res)
 (he:∀(rc:T51) (a5:Y5),Inv cnt a5→wf4 (wf1 big rc zt) zt a4 a5 a18 a19 (cnt:Int)=res)
 (i0:Nat) (hi:i0≤cnt) (a5:Y5) (h0:Inv i0 a5):wz1 big a4 a5 a18 a19 (i0:Int)=res :=
 idxB (fun m i=>∀(a5:Y5),Inv i a5→wz2 big zt m a4 a5 a18 a19 (i:Int)=res) (fun _ i hl ih a5 h=>hs _ i a5 hl h ih) (fun _ a5 h=>he _ a5 h) i0 hi hn a5 h0
theorem xsk {rec:T51}{k:Y5→Z12}{a4:Int}{a6:Int}{a18:Y3}{a19:Int}{a20:Int}{a29:Y4}{a30:Int}{a31:Bool}{a32:Bool}{a34:Y4}{a35:Int}(cnt:Nat) (Inv:T59){res:Z12}(hn:cnt≤500000000000)
 (hs:∀(rc:T18) (i:Nat) (a5:Y5),i<cnt→Inv i a5→(∀(a5':Y5),Inv (i+1) a5'→rc a4 a5' a6 a18 a19 a20 a29 a30 a31 a32 a34 a35 ((i+1:Nat):Int)=res)→wf3 rc (wbw rec) a4 a5 a6 a18 a19 a20 a29 a30 a31 a32 a34 a35 (i:Int)=res)
 (he:∀(rc:T18) (a5:Y5),Inv cnt a5→wf3 rc (wbw rec) a4 a5 a6 a18 a19 a20 a29 a30 a31 a32 a34 a35 (cnt:Int)=res)
 (i0:Nat) (hi:i0≤cnt) (a5:Y5) (h0:Inv i0 a5):wf1 big rec k a4 a5 a6 a18 a19 a20 a29 a30 a31 a32 a34 a35 (i0:Int)=res :=
 idxB (fun m i=>∀(a5:Y5),Inv i a5→wv3 big (wbw rec) m a4 a5 a6 a18 a19 a20 a29 a30 a31 a32 a34 a35 (i:Int)=res) (fun _ i hl ih a5 h=>hs _ i a5 hl h ih) (fun _ a5 h=>he _ a5 h) i0 hi hn a5 h0
theorem xvp {a0:Y5}{a1:Y4}{a10:Y4}{a11:Int}(cnt:Nat) (Inv:T10){res:Z5}(hn:cnt≤500000000000)
 (hs:∀(rc:T55) (i:Nat),i<cnt→Inv i→(Inv (i+1)→rc a0 a1 a10 a11 ((i+1:Nat):Int)=res)→wf7 (wj7 big rc zu) zu a0 a1 a10 a11 (i:Int)=res)
 (he:∀(rc:T55),Inv cnt→wf7 (wj7 big rc zu) zu a0 a1 a10 a11 (cnt:Int)=res)
 (i0:Nat) (hi:i0≤cnt) (h0:Inv i0):wz3 big a0 a1 a10 a11 (i0:Int)=res :=
 idxB (fun m i=>Inv i→wz4 big zu m a0 a1 a10 a11 (i:Int)=res) (fun _ i hl ih h=>hs _ i hl h ih) (fun _ h=>he _ h) i0 hi hn h0
theorem xvq {rec:T55}{k:Z5}{a0:Y5}{a1:Y4}{a6:Int}{a10:Y4}{a11:Int}{a12:Int}{a16:Y4}{a17:Int}(cnt:Nat) (Inv:Nat→Bool→Prop){res:Z5}(hn:cnt≤500000000000)
 (hs:∀(rc:T32) (i:Nat) (a7:Bool),i<cnt→Inv i a7→(∀(a7':Bool),Inv (i+1) a7'→rc a0 a1 a6 a7' a10 a11 a12 a16 a17 ((i+1:Nat):Int)=res)→wj9 rc (wf6 rec) a0 a1 a6 a7 a10 a11 a12 a16 a17 (i:Int)=res)
 (he:∀(rc:T32) (a7:Bool),Inv cnt a7→wj9 rc (wf6 rec) a0 a1 a6 a7 a10 a11 a12 a16 a17 (cnt:Int)=res)
 (i0:Nat) (hi:i0≤cnt) (a7:Bool) (h0:Inv i0 a7):wj7 big rec k a0 a1 a6 a7 a10 a11 a12 a16 a17 (i0:Int)=res :=
 idxB (fun m i=>∀(a7:Bool),Inv i a7→wz5 big (wf6 rec) m a0 a1 a6 a7 a10 a11 a12 a16 a17 (i:Int)=res) (fun _ i hl ih a7 h=>hs _ i a7 hl h ih) (fun _ a7 h=>he _ a7 h) i0 hi hn a7 h0
theorem xvr {a1:(Y5×Z1)}{a9:Int}(cnt:Nat) (Inv:T7){res:Z2}(hn:cnt≤500000000000)
 (hs:∀(rc:T95) (i:Nat) (a5:Y4),i<cnt→Inv i a5→(∀(a5':Y4),Inv (i+1) a5'→rc a1 a5' a9 ((i+1:Nat):Int)=res)→wkb rc wf8 a1 a5 a9 (i:Int)=res)
 (he:∀(rc:T95) (a5:Y4),Inv cnt a5→wkb rc wf8 a1 a5 a9 (cnt:Int)=res)
 (i0:Nat) (hi:i0≤cnt) (a5:Y4) (h0:Inv i0 a5):wz6 big a1 a5 a9 (i0:Int)=res :=
 idxB (fun m i=>∀(a5:Y4),Inv i a5→wz7 big wf8 m a1 a5 a9 (i:Int)=res) (fun _ i hl ih a5 h=>hs _ i a5 hl h ih) (fun _ a5 h=>he _ a5 h) i0 hi hn a5 h0
theorem xvs {a1:Y5}{a11:Int}(cnt:Nat) (Inv:T105){res:Z3}(hn:cnt≤500000000000)
 (hs:∀(rc:T73) (i:Nat) (a4:Y3),i<cnt→Inv i a4→(∀(a4':Y3),Inv (i+1) a4'→rc a1 a4' a11 ((i+1:Nat):Int)=res)→wgb (wkc big rc zv) zv a1 a4 a11 (i:Int)=res)
 (he:∀(rc:T73) (a4:Y3),Inv cnt a4→wgb (wkc big rc zv) zv a1 a4 a11 (cnt:Int)=res)
 (i0:Nat) (hi:i0≤cnt) (a4:Y3) (h0:Inv i0 a4):wz8 big a1 a4 a11 (i0:Int)=res :=
 idxB (fun m i=>∀(a4:Y3),Inv i a4→wz9 big zv m a1 a4 a11 (i:Int)=res) (fun _ i hl ih a4 h=>hs _ i a4 hl h ih) (fun _ a4 h=>he _ a4 h) i0 hi hn a4 h0
theorem xvt {rec:T73}{k:Y3→Z3}{a1:Y5}{a4:Y3}{a5:Int}{a11:Int}{a12:Int}{a17:Int}(cnt:Nat) (Inv:T7){res:Z3}(hn:cnt≤500000000000)
 (hs:∀(rc:T48) (i:Nat) (a6:Y4),i<cnt→Inv i a6→(∀(a6':Y4),Inv (i+1) a6'→rc a1 a4 a5 a6' a11 a12 a17 ((i+1:Nat):Int)=res)→wke rc (wga rec) a1 a4 a5 a6 a11 a12 a17 (i:Int)=res)
 (he:∀(rc:T48) (a6:Y4),Inv cnt a6→wke rc (wga rec) a1 a4 a5 a6 a11 a12 a17 (cnt:Int)=res)
 (i0:Nat) (hi:i0≤cnt) (a6:Y4) (h0:Inv i0 a6):wkc big rec k a1 a4 a5 a6 a11 a12 a17 (i0:Int)=res :=
 idxB (fun m i=>∀(a6:Y4),Inv i a6→w0a big (wga rec) m a1 a4 a5 a6 a11 a12 a17 (i:Int)=res) (fun _ i hl ih a6 h=>hs _ i a6 hl h ih) (fun _ a6 h=>he _ a6 h) i0 hi hn a6 h0
theorem xvu {a0:Y5}{a10:Int}(cnt:Nat) (Inv:T59){res:Z14}(hn:cnt≤500000000000)
 (hs:∀(rc:T42) (i:Nat) (a3:Y5),i<cnt→Inv i a3→(∀(a3':Y5),Inv (i+1) a3'→rc a0 a3' a10 ((i+1:Nat):Int)=res)→wge (wkf big rc zw) zw a0 a3 a10 (i:Int)=res)
 (he:∀(rc:T42) (a3:Y5),Inv cnt a3→wge (wkf big rc zw) zw a0 a3 a10 (cnt:Int)=res)
 (i0:Nat) (hi:i0≤cnt) (a3:Y5) (h0:Inv i0 a3):w0b big a0 a3 a10 (i0:Int)=res :=
 idxB (fun m i=>∀(a3:Y5),Inv i a3→w0c big zw m a0 a3 a10 (i:Int)=res) (fun _ i hl ih a3 h=>hs _ i a3 hl h ih) (fun _ a3 h=>he _ a3 h) i0 hi hn a3 h0
theorem xvv {rec:T42}{k:Y5→Z14}{a0:Y5}{a4:Int}{a10:Int}{a11:Int}{a15:Int}(cnt:Nat) (Inv:T59){res:Z14}(hn:cnt≤500000000000)
 (hs:∀(rc:T58) (i:Nat) (a3:Y5),i<cnt→Inv i a3→(∀(a3':Y5),Inv (i+1) a3'→rc a0 a3' a4 a10 a11 a15 ((i+1:Nat):Int)=res)→wkh rc (wgd rec) a0 a3 a4 a10 a11 a15 (i:Int)=res)
 (he:∀(rc:T58) (a3:Y5),Inv cnt a3→wkh rc (wgd rec) a0 a3 a4 a10 a11 a15 (cnt:Int)=res)
 (i0:Nat) (hi:i0≤cnt) (a3:Y5) (h0:Inv i0 a3):wkf big rec k a0 a3 a4 a10 a11 a15 (i0:Int)=res :=
 idxB (fun m i=>∀(a3:Y5),Inv i a3→w0d big (wgd rec) m a0 a3 a4 a10 a11 a15 (i:Int)=res) (fun _ i hl ih a3 h=>hs _ i a3 hl h ih) (fun _ a3 h=>he _ a3 h) i0 hi hn a3 h0
theorem xvw {a0:Y5}{a1:Int}{a2:Int}{a14:Int}(cnt:Nat) (Inv:T10){res:Z0}(hn:cnt≤500000000000)
 (hs:∀(rc:T91) (i:Nat),i<cnt→Inv i→(Inv (i+1)→rc a0 a1 a2 a14 ((i+1:Nat):Int)=res)→wkj rc wgf a0 a1 a2 a14 (i:Int)=res)
 (he:∀(rc:T91),Inv cnt→wkj rc wgf a0 a1 a2 a14 (cnt:Int)=res)
 (i0:Nat) (hi:i0≤cnt) (h0:Inv i0):w0e big a0 a1 a2 a14 (i0:Int)=res :=
 idxB (fun m i=>Inv i→w0f big wgf m a0 a1 a2 a14 (i:Int)=res) (fun _ i hl ih h=>hs _ i hl h ih) (fun _ h=>he _ h) i0 hi hn h0
theorem xvx {a1:(Y5×(Int×Unit))}{a9:Int}(cnt:Nat) (Inv:T7){res:Z2}(hn:cnt≤500000000000)
 (hs:∀(rc:(Y5×(Int×Unit))→Y4→Int→Int→Z2) (i:Nat) (a5:Y4),i<cnt→Inv i a5→(∀(a5':Y4),Inv (i+1) a5'→rc a1 a5' a9 ((i+1:Nat):Int)=res)→wkl rc wgg a1 a5 a9 (i:Int)=res)
 (he:∀(rc:(Y5×(Int×Unit))→Y4→Int→Int→Z2) (a5:Y4),Inv cnt a5→wkl rc wgg a1 a5 a9 (cnt:Int)=res)
 (i0:Nat) (hi:i0≤cnt) (a5:Y4) (h0:Inv i0 a5):w0g big a1 a5 a9 (i0:Int)=res :=
 idxB (fun m i=>∀(a5:Y4),Inv i a5→w0h big wgg m a1 a5 a9 (i:Int)=res) (fun _ i hl ih a5 h=>hs _ i a5 hl h ih) (fun _ a5 h=>he _ a5 h) i0 hi hn a5 h0
theorem xvy {a1:(Y1×Unit)}{a9:Int}(cnt:Nat) (Inv:T7){res:Z2}(hn:cnt≤500000000000)
 (hs:∀(rc:T88) (i:Nat) (a5:Y4),i<cnt→Inv i a5→(∀(a5':Y4),Inv (i+1) a5'→rc a1 a5' a9 ((i+1:Nat):Int)=res)→wkn rc wgh a1 a5 a9 (i:Int)=res)
 (he:∀(rc:T88) (a5:Y4),Inv cnt a5→wkn rc wgh a1 a5 a9 (cnt:Int)=res)
 (i0:Nat) (hi:i0≤cnt) (a5:Y4) (h0:Inv i0 a5):w0i big a1 a5 a9 (i0:Int)=res :=
 idxB (fun m i=>∀(a5:Y4),Inv i a5→w0j big wgh m a1 a5 a9 (i:Int)=res) (fun _ i hl ih a5 h=>hs _ i a5 hl h ih) (fun _ a5 h=>he _ a5 h) i0 hi hn a5 h0
theorem xvz {a0:Int}(cnt:Nat) (Inv:T7){res:Z2}(hn:cnt≤500000000000)
 (hs:∀(rc:T67) (i:Nat) (a3:Y4),i<cnt→Inv i a3→(∀(a3':Y4),Inv (i+1) a3'→rc a0 a3' ((i+1:Nat):Int)=res)→wkp rc wgi a0 a3 (i:Int)=res)
 (he:∀(rc:T67) (a3:Y4),Inv cnt a3→wkp rc wgi a0 a3 (cnt:Int)=res)
 (i0:Nat) (hi:i0≤cnt) (a3:Y4) (h0:Inv i0 a3):w0k big a0 a3 (i0:Int)=res :=
 idxB (fun m i=>∀(a3:Y4),Inv i a3→w0l big wgi m a0 a3 (i:Int)=res) (fun _ i hl ih a3 h=>hs _ i a3 hl h ih) (fun _ a3 h=>he _ a3 h) i0 hi hn a3 h0
theorem xv0 {a1:Y4}{a11:Y4}{a12:Int}(cnt:Nat) (Inv:T7){res:Z2}(hn:cnt≤500000000000)
 (hs:∀(rc:T12) (i:Nat) (a5:Y4),i<cnt→Inv i a5→(∀(a5':Y4),Inv (i+1) a5'→rc a1 a5' a11 a12 ((i+1:Nat):Int)=res)→wkr rc wgj a1 a5 a11 a12 (i:Int)=res)
 (he:∀(rc:T12) (a5:Y4),Inv cnt a5→wkr rc wgj a1 a5 a11 a12 (cnt:Int)=res)
 (i0:Nat) (hi:i0≤cnt) (a5:Y4) (h0:Inv i0 a5):w0m big a1 a5 a11 a12 (i0:Int)=res :=
 idxB (fun m i=>∀(a5:Y4),Inv i a5→w0n big wgj m a1 a5 a11 a12 (i:Int)=res) (fun _ i hl ih a5 h=>hs _ i a5 hl h ih) (fun _ a5 h=>he _ a5 h) i0 hi hn a5 h0
theorem xv1 {a2:Y6}{a7:Y3}{a8:Int}(cnt:Nat) (Inv:Nat→Y6→Prop){res:Option (Y6×Unit)}(hn:cnt≤500000000000)
 (hs:∀(rc:Y6→Y6→Y3→Int→Int→Option (Y6×Unit)) (i:Nat) (a3:Y6),i<cnt→Inv i a3→(∀(a3':Y6),Inv (i+1) a3'→rc a2 a3' a7 a8 ((i+1:Nat):Int)=res)→wkt rc wgk a2 a3 a7 a8 (i:Int)=res)
 (he:∀(rc:Y6→Y6→Y3→Int→Int→Option (Y6×Unit)) (a3:Y6),Inv cnt a3→wkt rc wgk a2 a3 a7 a8 (cnt:Int)=res)
 (i0:Nat) (hi:i0≤cnt) (a3:Y6) (h0:Inv i0 a3):w0o big a2 a3 a7 a8 (i0:Int)=res :=
 idxB (fun m i=>∀(a3:Y6),Inv i a3→w0p big wgk m a2 a3 a7 a8 (i:Int)=res) (fun _ i hl ih a3 h=>hs _ i a3 hl h ih) (fun _ a3 h=>he _ a3 h) i0 hi hn a3 h0
theorem xv2 {a8:Int}(cnt:Nat) (Inv:T7){res:Z2}(hn:cnt≤500000000000)
 (hs:∀(rc:T60) (i:Nat) (a3:Y4),i<cnt→Inv i a3→(∀(a3':Y4),Inv (i+1) a3'→rc a3' a8 ((i+1:Nat):Int)=res)→wkv rc wgl a3 a8 (i:Int)=res)
 (he:∀(rc:T60) (a3:Y4),Inv cnt a3→wkv rc wgl a3 a8 (cnt:Int)=res)
 (i0:Nat) (hi:i0≤cnt) (a3:Y4) (h0:Inv i0 a3):w0q big a3 a8 (i0:Int)=res :=
 idxB (fun m i=>∀(a3:Y4),Inv i a3→w0r big wgl m a3 a8 (i:Int)=res) (fun _ i hl ih a3 h=>hs _ i a3 hl h ih) (fun _ a3 h=>he _ a3 h) i0 hi hn a3 h0
theorem xv3 {a1:Int}{a2:Int}{a25:Int}(cnt:Nat) (Inv:T7){res:Z8}(hn:cnt≤500000000000)
 (hs:∀(rc:T92) (i:Nat) (a0:Y4),i<cnt→Inv i a0→(∀(a0':Y4),Inv (i+1) a0'→rc a0' a1 a2 a25 ((i+1:Nat):Int)=res)→wkx rc wgm a0 a1 a2 a25 (i:Int)=res)
 (he:∀(rc:T92) (a0:Y4),Inv cnt a0→wkx rc wgm a0 a1 a2 a25 (cnt:Int)=res)
 (i0:Nat) (hi:i0≤cnt) (a0:Y4) (h0:Inv i0 a0):wrz big a0 a1 a2 a25 (i0:Int)=res :=
 idxB (fun m i=>∀(a0:Y4),Inv i a0→w0s big wgm m a0 a1 a2 a25 (i:Int)=res) (fun _ i hl ih a0 h=>hs _ i a0 hl h ih) (fun _ a0 h=>he _ a0 h) i0 hi hn a0 h0
theorem xv5 {a2:Y7}(mu:Y4→Bool→Bool→Nat) (Inv:Y4→Bool→Bool→Prop){Q:Z8→Prop}
 (hs:∀(rc:T35) (a1:Y4) (a5 a6:Bool),Inv a1 a5 a6→(∀(a1':Y4) (a5':Bool) (a6':Bool),Inv a1' a5' a6'→mu a1' a5' a6'<mu a1 a5 a6→Q (rc a1' a2 a5' a6'))→Q (wr8 (wr3 big rc wky) wky a1 a2 a5 a6))
 (a1:Y4) (a5 a6:Bool) (hm:mu a1 a5 a6≤500000000000) (h0:Inv a1 a5 a6):Q (w0t big a1 a2 a5 a6) :=
 muR (fun m=>∀(a1:Y4) (a5 a6:Bool),mu a1 a5 a6<m→Inv a1 a5 a6→Q (w0u big wky m a1 a2 a5 a6)) (fun a1 a5 a6 h2 _=>absurd h2 (Nat.not_lt_zero _)) (fun _ ih a1 a5 a6 h2 h3=>hs _ a1 a5 a6 h3 fun a1' a5' a6' h4 h5=>ih a1' a5' a6' (by omega) h4) big a1 a5 a6 (by have:=jp;omega) h0
theorem xv4 {rec:T35}{k:Y4→Bool→Z8}{a2:Y7}{a16:Z21}{a17:Int}(cnt:Nat) (Inv:Nat→Y4→Bool→Bool→Prop){Q:Z8→Prop}(hn:cnt≤500000000000)
 (hs:∀(rc:T5) (i:Nat) (a1:Y4) (a5 a6:Bool),i<cnt→Inv i a1 a5 a6→(∀(a1':Y4) (a5':Bool) (a6':Bool),Inv (i+1) a1' a5' a6'→Q (rc a1' a2 a5' a6' a16 a17 ((i+1:Nat):Int)))→Q (wgt (wgp big rc (zx rec)) (zx rec) a1 a2 a5 a6 a16 a17 (i:Int)))
 (he:∀(rc:T5) (a1:Y4) (a5 a6:Bool),Inv cnt a1 a5 a6→Q (wgt (wgp big rc (zx rec)) (zx rec) a1 a2 a5 a6 a16 a17 (cnt:Int)))
 (i0:Nat) (hi:i0≤cnt) (a1:Y4) (a5 a6:Bool) (h0:Inv i0 a1 a5 a6):Q (wr3 big rec k a1 a2 a5 a6 a16 a17 (i0:Int)) :=
 idxB (fun m i=>∀(a1:Y4) (a5 a6:Bool),Inv i a1 a5 a6→Q (w0v big (zx rec) m a1 a2 a5 a6 a16 a17 (i:Int))) (fun _ i hl ih a1 a5 a6 h=>hs _ i a1 a5 a6 hl h ih) (fun _ a1 a5 a6 h=>he _ a1 a5 a6 h) i0 hi hn a1 a5 a6 h0
theorem xs4 {rec:T5}{k:T35}{a2:Y7}{a8:Y6}{a16:Z21}{a17:Int}{a18:Int}(cnt:Nat) (Inv:Nat→Y4→Bool→Bool→Int→Prop){Q:Z8→Prop}(hn:cnt≤500000000000)
 (hs:∀(rc:T2) (i:Nat) (a1:Y4) (a5 a6:Bool) (a9:Int),i<cnt→Inv i a1 a5 a6 a9→(∀(a1':Y4) (a5':Bool) (a6':Bool) (a9':Int),Inv (i+1) a1' a5' a6' a9'→Q (rc a1' a2 a5' a6' a8 a9' ((i+1:Nat):Int) a16 a17 a18))→Q (wbz (wgq big rc (x7 rec)) (x7 rec) a1 a2 a5 a6 a8 a9 (i:Int) a16 a17 a18))
 (he:∀(rc:T2) (a1:Y4) (a5 a6:Bool) (a9:Int),Inv cnt a1 a5 a6 a9→Q (wbz (wgq big rc (x7 rec)) (x7 rec) a1 a2 a5 a6 a8 a9 (cnt:Int) a16 a17 a18))
 (i0:Nat) (hi:i0≤cnt) (a1:Y4) (a5 a6:Bool) (a9:Int) (h0:Inv i0 a1 a5 a6 a9):Q (wgp big rec k a1 a2 a5 a6 a8 a9 (i0:Int) a16 a17 a18) :=
 idxB (fun m i=>∀(a1:Y4) (a5 a6:Bool) (a9:Int),Inv i a1 a5 a6 a9→Q (wv4 big (x7 rec) m a1 a2 a5 a6 a8 a9 (i:Int) a16 a17 a18)) (fun _ i hl ih a1 a5 a6 a9 h=>hs _ i a1 a5 a6 a9 hl h ih) (fun _ a1 a5 a6 a9 h=>he _ a1 a5 a6 a9 h) i0 hi hn a1 a5 a6 a9 h0
theorem xs5 {rec:T2}{k:T5}{a2:Y7}{a8:Y6}{a9:Int}{a10:Int}{a16:Z21}{a17:Int}{a18:Int}{a29:Y4}{a30:Int}(cnt:Nat) (Inv:Nat→Y4→Bool→Bool→Prop){Q:Z8→Prop}(hn:cnt≤500000000000)
 (hs:∀(rc:T20) (i:Nat) (a1:Y4) (a5 a6:Bool),i<cnt→Inv i a1 a5 a6→(∀(a1':Y4) (a5':Bool) (a6':Bool),Inv (i+1) a1' a5' a6'→Q (rc a1' a2 a5' a6' a8 a9 a10 a16 a17 a18 a29 a30 ((i+1:Nat):Int)))→Q (wgs rc (wby rec) a1 a2 a5 a6 a8 a9 a10 a16 a17 a18 a29 a30 (i:Int)))
 (he:∀(rc:T20) (a1:Y4) (a5 a6:Bool),Inv cnt a1 a5 a6→Q (wgs rc (wby rec) a1 a2 a5 a6 a8 a9 a10 a16 a17 a18 a29 a30 (cnt:Int)))
 (i0:Nat) (hi:i0≤cnt) (a1:Y4) (a5 a6:Bool) (h0:Inv i0 a1 a5 a6):Q (wgq big rec k a1 a2 a5 a6 a8 a9 a10 a16 a17 a18 a29 a30 (i0:Int)) :=
 idxB (fun m i=>∀(a1:Y4) (a5 a6:Bool),Inv i a1 a5 a6→Q (wv5 big (wby rec) m a1 a2 a5 a6 a8 a9 a10 a16 a17 a18 a29 a30 (i:Int))) (fun _ i hl ih a1 a5 a6 h=>hs _ i a1 a5 a6 hl h ih) (fun _ a1 a5 a6 h=>he _ a1 a5 a6 h) i0 hi hn a1 a5 a6 h0
theorem xh0 {a2:Y7}{a11:Z11}{a12:Int}(cnt:Nat) (Inv:T7){res:Z2}(hn:cnt≤500000000000)
 (hs:∀(rc:T96) (i:Nat) (a5:Y4),i<cnt→Inv i a5→(∀(a5':Y4),Inv (i+1) a5'→rc a2 a5' a11 a12 ((i+1:Nat):Int)=res)→wc9 rc wc8 a2 a5 a11 a12 (i:Int)=res)
 (he:∀(rc:T96) (a5:Y4),Inv cnt a5→wc9 rc wc8 a2 a5 a11 a12 (cnt:Int)=res)
 (i0:Nat) (hi:i0≤cnt) (a5:Y4) (h0:Inv i0 a5):w0w big a2 a5 a11 a12 (i0:Int)=res :=
 idxB (fun m i=>∀(a5:Y4),Inv i a5→w0x big wc8 m a2 a5 a11 a12 (i:Int)=res) (fun _ i hl ih a5 h=>hs _ i a5 hl h ih) (fun _ a5 h=>he _ a5 h) i0 hi hn a5 h0
theorem xv6 {a0:Y1}{a9:Y4}{a10:Int}(cnt:Nat) (Inv:T110){res:Z2}(hn:cnt≤500000000000)
 (hs:∀(rc:T97) (i:Nat) (a5:Z11),i<cnt→Inv i a5→(∀(a5':Z11),Inv (i+1) a5'→rc a0 a5' a9 a10 ((i+1:Nat):Int)=res)→wk1 rc wgu a0 a5 a9 a10 (i:Int)=res)
 (he:∀(rc:T97) (a5:Z11),Inv cnt a5→wk1 rc wgu a0 a5 a9 a10 (cnt:Int)=res)
 (i0:Nat) (hi:i0≤cnt) (a5:Z11) (h0:Inv i0 a5):w0y big a0 a5 a9 a10 (i0:Int)=res :=
 idxB (fun m i=>∀(a5:Z11),Inv i a5→w0z big wgu m a0 a5 a9 a10 (i:Int)=res) (fun _ i hl ih a5 h=>hs _ i a5 hl h ih) (fun _ a5 h=>he _ a5 h) i0 hi hn a5 h0
theorem xv7 {a0:Y1}{a1:Y4}{a10:Y4}{a11:Int}(cnt:Nat) (Inv:T7){res:Z2}(hn:cnt≤500000000000)
 (hs:∀(rc:T83) (i:Nat) (a5:Y4),i<cnt→Inv i a5→(∀(a5':Y4),Inv (i+1) a5'→rc a0 a1 a5' a10 a11 ((i+1:Nat):Int)=res)→wk3 rc wgv a0 a1 a5 a10 a11 (i:Int)=res)
 (he:∀(rc:T83) (a5:Y4),Inv cnt a5→wk3 rc wgv a0 a1 a5 a10 a11 (cnt:Int)=res)
 (i0:Nat) (hi:i0≤cnt) (a5:Y4) (h0:Inv i0 a5):w00 big a0 a1 a5 a10 a11 (i0:Int)=res :=
 idxB (fun m i=>∀(a5:Y4),Inv i a5→w01 big wgv m a0 a1 a5 a10 a11 (i:Int)=res) (fun _ i hl ih a5 h=>hs _ i a5 hl h ih) (fun _ a5 h=>he _ a5 h) i0 hi hn a5 h0
theorem xv8 {a1:Int}{a7:Y4}{a8:Int}(cnt:Nat) (Inv:T10){res:Z0}(hn:cnt≤500000000000)
 (hs:∀(rc:T69) (i:Nat),i<cnt→Inv i→(Inv (i+1)→rc a1 a7 a8 ((i+1:Nat):Int)=res)→wk5 rc wgw a1 a7 a8 (i:Int)=res)
 (he:∀(rc:T69),Inv cnt→wk5 rc wgw a1 a7 a8 (cnt:Int)=res)
 (i0:Nat) (hi:i0≤cnt) (h0:Inv i0):w02 big a1 a7 a8 (i0:Int)=res :=
 idxB (fun m i=>Inv i→w03 big wgw m a1 a7 a8 (i:Int)=res) (fun _ i hl ih h=>hs _ i hl h ih) (fun _ h=>he _ h) i0 hi hn h0
theorem xv9 {a1:Y4}{a7:Y4}{a8:Int}(cnt:Nat) (Inv:T10){res:Z0}(hn:cnt≤500000000000)
 (hs:∀(rc:T24) (i:Nat),i<cnt→Inv i→(Inv (i+1)→rc a1 a7 a8 ((i+1:Nat):Int)=res)→wk7 rc wgx a1 a7 a8 (i:Int)=res)
 (he:∀(rc:T24),Inv cnt→wk7 rc wgx a1 a7 a8 (cnt:Int)=res)
 (i0:Nat) (hi:i0≤cnt) (h0:Inv i0):w04 big a1 a7 a8 (i0:Int)=res :=
 idxB (fun m i=>Inv i→w05 big wgx m a1 a7 a8 (i:Int)=res) (fun _ i hl ih h=>hs _ i hl h ih) (fun _ h=>he _ h) i0 hi hn h0
theorem xwa {a0:Y1}{a1:Y4}{a7:Y4}{a8:Int}(cnt:Nat) (Inv:T10){res:Z0}(hn:cnt≤500000000000)
 (hs:∀(rc:T101) (i:Nat),i<cnt→Inv i→(Inv (i+1)→rc a0 a1 a7 a8 ((i+1:Nat):Int)=res)→wk9 rc wgy a0 a1 a7 a8 (i:Int)=res)
 (he:∀(rc:T101),Inv cnt→wk9 rc wgy a0 a1 a7 a8 (cnt:Int)=res)
 (i0:Nat) (hi:i0≤cnt) (h0:Inv i0):w06 big a0 a1 a7 a8 (i0:Int)=res :=
 idxB (fun m i=>Inv i→w07 big wgy m a0 a1 a7 a8 (i:Int)=res) (fun _ i hl ih h=>hs _ i hl h ih) (fun _ h=>he _ h) i0 hi hn h0
theorem xwb {a4:Y1}{a6:Y4}(cnt:Nat) (Inv:T105){res:Z3}(hn:cnt≤500000000000)
 (hs:∀(rc:T123) (i:Nat) (a7:Y3),i<cnt→Inv i a7→(∀(a7':Y3),Inv (i+1) a7'→rc a4 a6 a7' ((i+1:Nat):Int)=res)→wlb rc wgz a4 a6 a7 (i:Int)=res)
 (he:∀(rc:T123) (a7:Y3),Inv cnt a7→wlb rc wgz a4 a6 a7 (cnt:Int)=res)
 (i0:Nat) (hi:i0≤cnt) (a7:Y3) (h0:Inv i0 a7):wsf big a4 a6 a7 (i0:Int)=res :=
 idxB (fun m i=>∀(a7:Y3),Inv i a7→w08 big wgz m a4 a6 a7 (i:Int)=res) (fun _ i hl ih a7 h=>hs _ i a7 hl h ih) (fun _ a7 h=>he _ a7 h) i0 hi hn a7 h0
theorem xwd {a0:Y4}{a1:Y4}(cnt:Nat) (Inv:T10){res:Z0}(hn:cnt≤500000000000)
 (hs:∀(rc:T15) (i:Nat),i<cnt→Inv i→(Inv (i+1)→rc a0 a1 ((i+1:Nat):Int)=res)→wle rc wg1 a0 a1 (i:Int)=res)
 (he:∀(rc:T15),Inv cnt→wle rc wg1 a0 a1 (cnt:Int)=res)
 (i0:Nat) (hi:i0≤cnt) (h0:Inv i0):w1c big a0 a1 (i0:Int)=res :=
 idxB (fun m i=>Inv i→w1d big wg1 m a0 a1 (i:Int)=res) (fun _ i hl ih h=>hs _ i hl h ih) (fun _ h=>he _ h) i0 hi hn h0
theorem xwe {a1:Y2}{a3:Int}(cnt:Nat) (Inv:T10){res:Z0}(hn:cnt≤500000000000)
 (hs:∀(rc:T36) (i:Nat),i<cnt→Inv i→(Inv (i+1)→rc a1 a3 ((i+1:Nat):Int)=res)→wlg rc (wg4 (wb1 big)) a1 a3 (i:Int)=res)
 (he:∀(rc:T36),Inv cnt→wlg rc (wg4 (wb1 big)) a1 a3 (cnt:Int)=res)
 (i0:Nat) (hi:i0≤cnt) (h0:Inv i0):w1e big a1 a3 (i0:Int)=res :=
 idxB (fun m i=>Inv i→w1f big (wg4 (wb1 big)) m a1 a3 (i:Int)=res) (fun _ i hl ih h=>hs _ i hl h ih) (fun _ h=>he _ h) i0 hi hn h0
theorem xtf {a1:Y2}{a3:Int}(cnt:Nat) (Inv:T10){res:Z0}(hn:cnt≤500000000000)
 (hs:∀(rc:T36) (i:Nat),i<cnt→Inv i→(Inv (i+1)→rc a1 a3 ((i+1:Nat):Int)=res)→wb3 (wg2 big rc x8) x8 a1 a3 (i:Int)=res)
 (he:∀(rc:T36),Inv cnt→wb3 (wg2 big rc x8) x8 a1 a3 (cnt:Int)=res)
 (i0:Nat) (hi:i0≤cnt) (h0:Inv i0):wb1 big a1 a3 (i0:Int)=res :=
 idxB (fun m i=>Inv i→wv6 big x8 m a1 a3 (i:Int)=res) (fun _ i hl ih h=>hs _ i hl h ih) (fun _ h=>he _ h) i0 hi hn h0
theorem xtg {rec:T36}{k:Z0}{a1:Y2}{a3:Int}{a5:Int}(cnt:Nat) (Inv:T10){res:Z0}(hn:cnt≤500000000000)
 (hs:∀(rc:T115) (i:Nat),i<cnt→Inv i→(Inv (i+1)→rc a1 a3 a5 ((i+1:Nat):Int)=res)→wg5 rc (wb2 rec) a1 a3 a5 (i:Int)=res)
 (he:∀(rc:T115),Inv cnt→wg5 rc (wb2 rec) a1 a3 a5 (cnt:Int)=res)
 (i0:Nat) (hi:i0≤cnt) (h0:Inv i0):wg2 big rec k a1 a3 a5 (i0:Int)=res :=
 idxB (fun m i=>Inv i→wv7 big (wb2 rec) m a1 a3 a5 (i:Int)=res) (fun _ i hl ih h=>hs _ i hl h ih) (fun _ h=>he _ h) i0 hi hn h0
theorem xwf {a1:Y2}{a2:Y2}(cnt:Nat) (Inv:Nat→Y2→Prop){res:Z4}(hn:cnt≤500000000000)
 (hs:∀(rc:T80) (i:Nat) (a3:Y2),i<cnt→Inv i a3→(∀(a3':Y2),Inv (i+1) a3'→rc a1 a2 a3' ((i+1:Nat):Int)=res)→wg8 (wlh big rc zy) zy a1 a2 a3 (i:Int)=res)
 (he:∀(rc:T80) (a3:Y2),Inv cnt a3→wg8 (wlh big rc zy) zy a1 a2 a3 (cnt:Int)=res)
 (i0:Nat) (hi:i0≤cnt) (a3:Y2) (h0:Inv i0 a3):w1g big a1 a2 a3 (i0:Int)=res :=
 idxB (fun m i=>∀(a3:Y2),Inv i a3→w1h big zy m a1 a2 a3 (i:Int)=res) (fun _ i hl ih a3 h=>hs _ i a3 hl h ih) (fun _ a3 h=>he _ a3 h) i0 hi hn a3 h0
theorem xwg {rec:T80}{k:T52}{a1:Y2}{a2:Y2}{a3:Y2}{a4:Int}(cnt:Nat) (Inv:T7){res:Z4}(hn:cnt≤500000000000)
 (hs:∀(rc:T84) (i:Nat) (a5:Y4),i<cnt→Inv i a5→(∀(a5':Y4),Inv (i+1) a5'→rc a1 a2 a3 a4 a5' ((i+1:Nat):Int)=res)→wlj rc (wg7 rec) a1 a2 a3 a4 a5 (i:Int)=res)
 (he:∀(rc:T84) (a5:Y4),Inv cnt a5→wlj rc (wg7 rec) a1 a2 a3 a4 a5 (cnt:Int)=res)
 (i0:Nat) (hi:i0≤cnt) (a5:Y4) (h0:Inv i0 a5):wlh big rec k a1 a2 a3 a4 a5 (i0:Int)=res :=
 idxB (fun m i=>∀(a5:Y4),Inv i a5→w1i big (wg7 rec) m a1 a2 a3 a4 a5 (i:Int)=res) (fun _ i hl ih a5 h=>hs _ i a5 hl h ih) (fun _ a5 h=>he _ a5 h) i0 hi hn a5 h0
theorem xwh {a1:Y4}{a2:Y2}(cnt:Nat) (Inv:T7){res:Z5}(hn:cnt≤500000000000)
 (hs:∀(rc:T81) (i:Nat) (a5:Y4),i<cnt→Inv i a5→(∀(a5':Y4),Inv (i+1) a5'→rc a1 a2 a5' ((i+1:Nat):Int)=res)→whd (wlk big rc (zz (x9 big))) (zz (x9 big)) a1 a2 a5 (i:Int)=res)
 (he:∀(rc:T81) (a5:Y4),Inv cnt a5→whd (wlk big rc (zz (x9 big))) (zz (x9 big)) a1 a2 a5 (cnt:Int)=res)
 (i0:Nat) (hi:i0≤cnt) (a5:Y4) (h0:Inv i0 a5):w1j big a1 a2 a5 (i0:Int)=res :=
 idxB (fun m i=>∀(a5:Y4),Inv i a5→w1k big (zz (x9 big)) m a1 a2 a5 (i:Int)=res) (fun _ i hl ih a5 h=>hs _ i a5 hl h ih) (fun _ a5 h=>he _ a5 h) i0 hi hn a5 h0
theorem xwi {rec:T81}{k:Y2→Y4→Z5}{a1:Y4}{a2:Y2}{a5:Y4}{a6:Int}(cnt:Nat) (Inv:Nat→Bool→Prop){res:Z5}(hn:cnt≤500000000000)
 (hs:∀(rc:T74) (i:Nat) (a7:Bool),i<cnt→Inv i a7→(∀(a7':Bool),Inv (i+1) a7'→rc a1 a2 a5 a6 a7' ((i+1:Nat):Int)=res)→wlm rc (whb rec) a1 a2 a5 a6 a7 (i:Int)=res)
 (he:∀(rc:T74) (a7:Bool),Inv cnt a7→wlm rc (whb rec) a1 a2 a5 a6 a7 (cnt:Int)=res)
 (i0:Nat) (hi:i0≤cnt) (a7:Bool) (h0:Inv i0 a7):wlk big rec k a1 a2 a5 a6 a7 (i0:Int)=res :=
 idxB (fun m i=>∀(a7:Bool),Inv i a7→w1l big (whb rec) m a1 a2 a5 a6 a7 (i:Int)=res) (fun _ i hl ih a7 h=>hs _ i a7 hl h ih) (fun _ a7 h=>he _ a7 h) i0 hi hn a7 h0
theorem xtk {a2:Y2}{a5:Y4}(cnt:Nat) (Inv:T10){res:Z5}(hn:cnt≤500000000000)
 (hs:∀(rc:T140) (i:Nat),i<cnt→Inv i→(Inv (i+1)→rc a2 a5 ((i+1:Nat):Int)=res)→whc rc wb4 a2 a5 (i:Int)=res)
 (he:∀(rc:T140),Inv cnt→whc rc wb4 a2 a5 (cnt:Int)=res)
 (i0:Nat) (hi:i0≤cnt) (h0:Inv i0):x9 big a2 a5 (i0:Int)=res :=
 idxB (fun m i=>Inv i→wv8 big wb4 m a2 a5 (i:Int)=res) (fun _ i hl ih h=>hs _ i hl h ih) (fun _ h=>he _ h) i0 hi hn h0
theorem xwj {a1:Y2}{a3:Y2}(cnt:Nat) (Inv:T10){res:Z0}(hn:cnt≤500000000000)
 (hs:∀(rc:T75) (i:Nat),i<cnt→Inv i→(Inv (i+1)→rc a1 a3 ((i+1:Nat):Int)=res)→whg (wln big rc z6) z6 a1 a3 (i:Int)=res)
 (he:∀(rc:T75),Inv cnt→whg (wln big rc z6) z6 a1 a3 (cnt:Int)=res)
 (i0:Nat) (hi:i0≤cnt) (h0:Inv i0):w1m big a1 a3 (i0:Int)=res :=
 idxB (fun m i=>Inv i→w1n big z6 m a1 a3 (i:Int)=res) (fun _ i hl ih h=>hs _ i hl h ih) (fun _ h=>he _ h) i0 hi hn h0
theorem xwk {rec:T75}{k:Z0}{a1:Y2}{a3:Y2}{a4:Int}(cnt:Nat) (Inv:T10){res:Z0}(hn:cnt≤500000000000)
 (hs:∀(rc:T119) (i:Nat),i<cnt→Inv i→(Inv (i+1)→rc a1 a3 a4 ((i+1:Nat):Int)=res)→wlp rc (whf rec) a1 a3 a4 (i:Int)=res)
 (he:∀(rc:T119),Inv cnt→wlp rc (whf rec) a1 a3 a4 (cnt:Int)=res)
 (i0:Nat) (hi:i0≤cnt) (h0:Inv i0):wln big rec k a1 a3 a4 (i0:Int)=res :=
 idxB (fun m i=>Inv i→w1o big (whf rec) m a1 a3 a4 (i:Int)=res) (fun _ i hl ih h=>hs _ i hl h ih) (fun _ h=>he _ h) i0 hi hn h0
theorem xwl {a1:Y2}(cnt:Nat) (Inv:T7){res:Z2}(hn:cnt≤500000000000)
 (hs:∀(rc:T109) (i:Nat) (a3:Y4),i<cnt→Inv i a3→(∀(a3':Y4),Inv (i+1) a3'→rc a1 a3' ((i+1:Nat):Int)=res)→whj (wlq big rc z7) z7 a1 a3 (i:Int)=res)
 (he:∀(rc:T109) (a3:Y4),Inv cnt a3→whj (wlq big rc z7) z7 a1 a3 (cnt:Int)=res)
 (i0:Nat) (hi:i0≤cnt) (a3:Y4) (h0:Inv i0 a3):w1p big a1 a3 (i0:Int)=res :=
 idxB (fun m i=>∀(a3:Y4),Inv i a3→w1q big z7 m a1 a3 (i:Int)=res) (fun _ i hl ih a3 h=>hs _ i a3 hl h ih) (fun _ a3 h=>he _ a3 h) i0 hi hn a3 h0
theorem xwm {rec:T109}{k:T14}{a1:Y2}{a3:Y4}{a4:Int}(cnt:Nat) (Inv:Nat→Int→Prop){res:Z2}(hn:cnt≤500000000000)
 (hs:∀(rc:T98) (i:Nat) (a5:Int),i<cnt→Inv i a5→(∀(a5':Int),Inv (i+1) a5'→rc a1 a3 a4 a5' ((i+1:Nat):Int)=res)→wls rc (whi rec) a1 a3 a4 a5 (i:Int)=res)
 (he:∀(rc:T98) (a5:Int),Inv cnt a5→wls rc (whi rec) a1 a3 a4 a5 (cnt:Int)=res)
 (i0:Nat) (hi:i0≤cnt) (a5:Int) (h0:Inv i0 a5):wlq big rec k a1 a3 a4 a5 (i0:Int)=res :=
 idxB (fun m i=>∀(a5:Int),Inv i a5→w1r big (whi rec) m a1 a3 a4 a5 (i:Int)=res) (fun _ i hl ih a5 h=>hs _ i a5 hl h ih) (fun _ a5 h=>he _ a5 h) i0 hi hn a5 h0
theorem xwn {a1:Y2}{a2:Y7}{a3:Int}{a4:Y2}(cnt:Nat) (Inv:Nat→Y6→Y6→Prop){res:Z17}(hn:cnt≤500000000000)
 (hs:∀(rc:T16) (i:Nat) (a5 a6:Y6),i<cnt→Inv i a5 a6→(∀(a5':Y6) (a6':Y6),Inv (i+1) a5' a6'→rc a1 a2 a3 a4 a5' a6' ((i+1:Nat):Int)=res)→whm (wlt big rc z8) z8 a1 a2 a3 a4 a5 a6 (i:Int)=res)
 (he:∀(rc:T16) (a5 a6:Y6),Inv cnt a5 a6→whm (wlt big rc z8) z8 a1 a2 a3 a4 a5 a6 (cnt:Int)=res)
 (i0:Nat) (hi:i0≤cnt) (a5 a6:Y6) (h0:Inv i0 a5 a6):w1s big a1 a2 a3 a4 a5 a6 (i0:Int)=res :=
 idxB (fun m i=>∀(a5 a6:Y6),Inv i a5 a6→w1t big z8 m a1 a2 a3 a4 a5 a6 (i:Int)=res) (fun _ i hl ih a5 a6 h=>hs _ i a5 a6 hl h ih) (fun _ a5 a6 h=>he _ a5 a6 h) i0 hi hn a5 a6 h0
theorem xwo {rec:T16}{k:T120}{a1:Y2}{a2:Y7}{a3:Int}{a4:Y2}{a7:Int}(cnt:Nat) (Inv:Nat→Y6→Y6→Prop){res:Z17}(hn:cnt≤500000000000)
 (hs:∀(rc:T50) (i:Nat) (a5 a6:Y6),i<cnt→Inv i a5 a6→(∀(a5':Y6) (a6':Y6),Inv (i+1) a5' a6'→rc a1 a2 a3 a4 a5' a6' a7 ((i+1:Nat):Int)=res)→wlv rc (whl rec) a1 a2 a3 a4 a5 a6 a7 (i:Int)=res)
 (he:∀(rc:T50) (a5 a6:Y6),Inv cnt a5 a6→wlv rc (whl rec) a1 a2 a3 a4 a5 a6 a7 (cnt:Int)=res)
 (i0:Nat) (hi:i0≤cnt) (a5 a6:Y6) (h0:Inv i0 a5 a6):wlt big rec k a1 a2 a3 a4 a5 a6 a7 (i0:Int)=res :=
 idxB (fun m i=>∀(a5 a6:Y6),Inv i a5 a6→w1u big (whl rec) m a1 a2 a3 a4 a5 a6 a7 (i:Int)=res) (fun _ i hl ih a5 a6 h=>hs _ i a5 a6 hl h ih) (fun _ a5 a6 h=>he _ a5 a6 h) i0 hi hn a5 a6 h0
theorem xwp {a1:Int}{a2:Y2}(cnt:Nat) (Inv:T10){res:Z5}(hn:cnt≤500000000000)
 (hs:∀(rc:T135) (i:Nat),i<cnt→Inv i→(Inv (i+1)→rc a1 a2 ((i+1:Nat):Int)=res)→wlx rc whn a1 a2 (i:Int)=res)
 (he:∀(rc:T135),Inv cnt→wlx rc whn a1 a2 (cnt:Int)=res)
 (i0:Nat) (hi:i0≤cnt) (h0:Inv i0):w1v big a1 a2 (i0:Int)=res :=
 idxB (fun m i=>Inv i→w1w big whn m a1 a2 (i:Int)=res) (fun _ i hl ih h=>hs _ i hl h ih) (fun _ h=>he _ h) i0 hi hn h0
theorem xwq {a0:Int}(cnt:Nat) (Inv:T7){res:Z2}(hn:cnt≤500000000000)
 (hs:∀(rc:T67) (i:Nat) (a3:Y4),i<cnt→Inv i a3→(∀(a3':Y4),Inv (i+1) a3'→rc a0 a3' ((i+1:Nat):Int)=res)→wlz rc who a0 a3 (i:Int)=res)
 (he:∀(rc:T67) (a3:Y4),Inv cnt a3→wlz rc who a0 a3 (cnt:Int)=res)
 (i0:Nat) (hi:i0≤cnt) (a3:Y4) (h0:Inv i0 a3):w1x big a0 a3 (i0:Int)=res :=
 idxB (fun m i=>∀(a3:Y4),Inv i a3→w1y big who m a0 a3 (i:Int)=res) (fun _ i hl ih a3 h=>hs _ i a3 hl h ih) (fun _ a3 h=>he _ a3 h) i0 hi hn a3 h0
theorem xwr {a0:Y4}{a7:Int}{a8:Int}(cnt:Nat) (Inv:T7){res:Z2}(hn:cnt≤500000000000)
 (hs:∀(rc:T99) (i:Nat) (a9:Y4),i<cnt→Inv i a9→(∀(a9':Y4),Inv (i+1) a9'→rc a0 a7 a8 a9' ((i+1:Nat):Int)=res)→wl1 rc whp a0 a7 a8 a9 (i:Int)=res)
 (he:∀(rc:T99) (a9:Y4),Inv cnt a9→wl1 rc whp a0 a7 a8 a9 (cnt:Int)=res)
 (i0:Nat) (hi:i0≤cnt) (a9:Y4) (h0:Inv i0 a9):w1z big a0 a7 a8 a9 (i0:Int)=res :=
 idxB (fun m i=>∀(a9:Y4),Inv i a9→w10 big whp m a0 a7 a8 a9 (i:Int)=res) (fun _ i hl ih a9 h=>hs _ i a9 hl h ih) (fun _ a9 h=>he _ a9 h) i0 hi hn a9 h0
theorem xws {a0:Int}(mu:Int→Y4→Int→Nat) (Inv:Int→Y4→Int→Prop){res:Z2}
 (hs:∀(rc:T139) (a2:Int) (a7:Y4) (a8:Int),Inv a2 a7 a8→(∀(a2':Int) (a7':Y4) (a8':Int),Inv a2' a7' a8'→mu a2' a7' a8'<mu a2 a7 a8→rc a0 a2' a7' a8'=res)→wl4 rc wl3 a0 a2 a7 a8=res)
 (a2:Int) (a7:Y4) (a8:Int) (hm:mu a2 a7 a8≤500000000000) (h0:Inv a2 a7 a8):w11 big a0 a2 a7 a8=res :=
 muR (fun m=>∀(a2:Int) (a7:Y4) (a8:Int),mu a2 a7 a8<m→Inv a2 a7 a8→w12 big wl3 m a0 a2 a7 a8=res) (fun a2 a7 a8 h2 _=>absurd h2 (Nat.not_lt_zero _)) (fun _ ih a2 a7 a8 h2 h3=>hs _ a2 a7 a8 h3 fun a2' a7' a8' h4 h5=>ih a2' a7' a8' (by omega) h4) big a2 a7 a8 (by have:=jp;omega) h0
theorem xwt {a1:Int}{a2:Y4}{a3:Y7}(cnt:Nat) (Inv:Nat→Int→Prop){res:Z5}(hn:cnt≤500000000000)
 (hs:∀(rc:T100) (i:Nat) (a7:Int),i<cnt→Inv i a7→(∀(a7':Int),Inv (i+1) a7'→rc a1 a2 a3 a7' ((i+1:Nat):Int)=res)→wl6 rc whq a1 a2 a3 a7 (i:Int)=res)
 (he:∀(rc:T100) (a7:Int),Inv cnt a7→wl6 rc whq a1 a2 a3 a7 (cnt:Int)=res)
 (i0:Nat) (hi:i0≤cnt) (a7:Int) (h0:Inv i0 a7):w13 big a1 a2 a3 a7 (i0:Int)=res :=
 idxB (fun m i=>∀(a7:Int),Inv i a7→w14 big whq m a1 a2 a3 a7 (i:Int)=res) (fun _ i hl ih a7 h=>hs _ i a7 hl h ih) (fun _ a7 h=>he _ a7 h) i0 hi hn a7 h0
theorem xwu {a1:Y4}{a2:Y7}(cnt:Nat) (Inv:T7){Q:Z2→Prop}(hn:cnt≤500000000000)
 (hs:∀(rc:T34) (i:Nat) (a5:Y4),i<cnt→Inv i a5→(∀(a5':Y4),Inv (i+1) a5'→Q (rc a1 a2 a5' ((i+1:Nat):Int)))→Q (whw (wl7 big rc z9) z9 a1 a2 a5 (i:Int)))
 (he:∀(rc:T34) (a5:Y4),Inv cnt a5→Q (whw (wl7 big rc z9) z9 a1 a2 a5 (cnt:Int)))
 (i0:Nat) (hi:i0≤cnt) (a5:Y4) (h0:Inv i0 a5):Q (w15 big a1 a2 a5 (i0:Int)) :=
 idxB (fun m i=>∀(a5:Y4),Inv i a5→Q (w16 big z9 m a1 a2 a5 (i:Int))) (fun _ i hl ih a5 h=>hs _ i a5 hl h ih) (fun _ a5 h=>he _ a5 h) i0 hi hn a5 h0
theorem xwv {rec:T34}{k:T14}{a1:Y4}{a2:Y7}{a6:Int}(cnt:Nat) (Inv:T7){Q:Z2→Prop}(hn:cnt≤500000000000)
 (hs:∀(rc:T33) (i:Nat) (a5:Y4),i<cnt→Inv i a5→(∀(a5':Y4),Inv (i+1) a5'→Q (rc a1 a2 a5' a6 ((i+1:Nat):Int)))→Q (whx (wht big rc (waa rec)) (waa rec) a1 a2 a5 a6 (i:Int)))
 (he:∀(rc:T33) (a5:Y4),Inv cnt a5→Q (whx (wht big rc (waa rec)) (waa rec) a1 a2 a5 a6 (cnt:Int)))
 (i0:Nat) (hi:i0≤cnt) (a5:Y4) (h0:Inv i0 a5):Q (wl7 big rec k a1 a2 a5 a6 (i0:Int)) :=
 idxB (fun m i=>∀(a5:Y4),Inv i a5→Q (w17 big (waa rec) m a1 a2 a5 a6 (i:Int))) (fun _ i hl ih a5 h=>hs _ i a5 hl h ih) (fun _ a5 h=>he _ a5 h) i0 hi hn a5 h0
theorem xt0 {rec:T33}{k:T34}{a1:Y4}{a2:Y7}{a6:Int}{a7:Int}{a8:Y4}(cnt:Nat) (Inv:T7){Q:Z2→Prop}(hn:cnt≤500000000000)
 (hs:∀(rc:T65) (i:Nat) (a5:Y4),i<cnt→Inv i a5→(∀(a5':Y4),Inv (i+1) a5'→Q (rc a1 a2 a5' a6 a7 a8 ((i+1:Nat):Int)))→Q (whv rc (wb5 rec) a1 a2 a5 a6 a7 a8 (i:Int)))
 (he:∀(rc:T65) (a5:Y4),Inv cnt a5→Q (whv rc (wb5 rec) a1 a2 a5 a6 a7 a8 (cnt:Int)))
 (i0:Nat) (hi:i0≤cnt) (a5:Y4) (h0:Inv i0 a5):Q (wht big rec k a1 a2 a5 a6 a7 a8 (i0:Int)) :=
 idxB (fun m i=>∀(a5:Y4),Inv i a5→Q (wv9 big (wb5 rec) m a1 a2 a5 a6 a7 a8 (i:Int))) (fun _ i hl ih a5 h=>hs _ i a5 hl h ih) (fun _ a5 h=>he _ a5 h) i0 hi hn a5 h0
theorem xww {a2:Y7}(cnt:Nat) (Inv:T7){Q:Z2→Prop}(hn:cnt≤500000000000)
 (hs:∀(rc:T141) (i:Nat) (a1:Y4),i<cnt→Inv i a1→(∀(a1':Y4),Inv (i+1) a1'→Q (rc a1' a2 ((i+1:Nat):Int)))→Q (wl9 rc why a1 a2 (i:Int)))
 (he:∀(rc:T141) (a1:Y4),Inv cnt a1→Q (wl9 rc why a1 a2 (cnt:Int)))
 (i0:Nat) (hi:i0≤cnt) (a1:Y4) (h0:Inv i0 a1):Q (w18 big a1 a2 (i0:Int)) :=
 idxB (fun m i=>∀(a1:Y4),Inv i a1→Q (w19 big why m a1 a2 (i:Int))) (fun _ i hl ih a1 h=>hs _ i a1 hl h ih) (fun _ a1 h=>he _ a1 h) i0 hi hn a1 h0
theorem xwy {a1:Y4}{a2:Y2}{a6:Y4}(cnt:Nat) (Inv:T7){res:Z2}(hn:cnt≤500000000000)
 (hs:∀(rc:T104) (i:Nat) (a5:Y4),i<cnt→Inv i a5→(∀(a5':Y4),Inv (i+1) a5'→rc a1 a2 a5' a6 ((i+1:Nat):Int)=res)→wmb rc whz a1 a2 a5 a6 (i:Int)=res)
 (he:∀(rc:T104) (a5:Y4),Inv cnt a5→wmb rc whz a1 a2 a5 a6 (cnt:Int)=res)
 (i0:Nat) (hi:i0≤cnt) (a5:Y4) (h0:Inv i0 a5):w2a big a1 a2 a5 a6 (i0:Int)=res :=
 idxB (fun m i=>∀(a5:Y4),Inv i a5→w2b big whz m a1 a2 a5 a6 (i:Int)=res) (fun _ i hl ih a5 h=>hs _ i a5 hl h ih) (fun _ a5 h=>he _ a5 h) i0 hi hn a5 h0
theorem xwz {a0:Y4}{a1:Y4}(cnt:Nat) (Inv:T10){res:Z0}(hn:cnt≤500000000000)
 (hs:∀(rc:T15) (i:Nat),i<cnt→Inv i→(Inv (i+1)→rc a0 a1 ((i+1:Nat):Int)=res)→wmd rc wh0 a0 a1 (i:Int)=res)
 (he:∀(rc:T15),Inv cnt→wmd rc wh0 a0 a1 (cnt:Int)=res)
 (i0:Nat) (hi:i0≤cnt) (h0:Inv i0):w2c big a0 a1 (i0:Int)=res :=
 idxB (fun m i=>Inv i→w2d big wh0 m a0 a1 (i:Int)=res) (fun _ i hl ih h=>hs _ i hl h ih) (fun _ h=>he _ h) i0 hi hn h0
theorem xw0 {a0:Y3}{a1:Y4}(mu:Int→Nat) (Inv:Int→Prop){Q:Option Y2→Prop}
 (hs:∀(rc:Y3→Y4→Int→Option Y2) (a5:Int),Inv a5→(∀(a5':Int),Inv a5'→mu a5'<mu a5→Q (rc a0 a1 a5'))→Q (w2f rc wdi a0 a1 a5))
 (a5:Int) (hm:mu a5≤500000000000) (h0:Inv a5):Q (w2e big a0 a1 a5) :=
 muR (fun m=>∀(a5:Int),mu a5<m→Inv a5→Q (w2g big wdi m a0 a1 a5)) (fun a5 h2 _=>absurd h2 (Nat.not_lt_zero _)) (fun _ ih a5 h2 h3=>hs _ a5 h3 fun a5' h4 h5=>ih a5' (by omega) h4) big a5 (by have:=jp;omega) h0
theorem xw1 {a1:Y2}{a3:Y4}(cnt:Nat) (Inv:T105){res:Option Y2}(hn:cnt≤500000000000)
 (hs:∀(rc:Y2→Y4→Y3→Int→Option Y2) (i:Nat) (a4:Y3),i<cnt→Inv i a4→(∀(a4':Y3),Inv (i+1) a4'→rc a1 a3 a4' ((i+1:Nat):Int)=res)→wmh rc (wh5 (wh2 big)) a1 a3 a4 (i:Int)=res)
 (he:∀(rc:Y2→Y4→Y3→Int→Option Y2) (a4:Y3),Inv cnt a4→wmh rc (wh5 (wh2 big)) a1 a3 a4 (cnt:Int)=res)
 (i0:Nat) (hi:i0≤cnt) (a4:Y3) (h0:Inv i0 a4):w2h big a1 a3 a4 (i0:Int)=res :=
 idxB (fun m i=>∀(a4:Y3),Inv i a4→w2i big (wh5 (wh2 big)) m a1 a3 a4 (i:Int)=res) (fun _ i hl ih a4 h=>hs _ i a4 hl h ih) (fun _ a4 h=>he _ a4 h) i0 hi hn a4 h0
theorem xw2 {a3:Y4}{a4:Y3}(cnt:Nat) (Inv:T105){res:Option Y2}(hn:cnt≤500000000000)
 (hs:∀(rc:Y4→Y3→Y3→Int→Option Y2) (i:Nat) (a6:Y3),i<cnt→Inv i a6→(∀(a6':Y3),Inv (i+1) a6'→rc a3 a4 a6' ((i+1:Nat):Int)=res)→wh8 (wh1 big rc wac) wac a3 a4 a6 (i:Int)=res)
 (he:∀(rc:Y4→Y3→Y3→Int→Option Y2) (a6:Y3),Inv cnt a6→wh8 (wh1 big rc wac) wac a3 a4 a6 (cnt:Int)=res)
 (i0:Nat) (hi:i0≤cnt) (a6:Y3) (h0:Inv i0 a6):wh2 big a3 a4 a6 (i0:Int)=res :=
 idxB (fun m i=>∀(a6:Y3),Inv i a6→w2j big wac m a3 a4 a6 (i:Int)=res) (fun _ i hl ih a6 h=>hs _ i a6 hl h ih) (fun _ a6 h=>he _ a6 h) i0 hi hn a6 h0
theorem xt5 {rec:Y4→Y3→Y3→Int→Option Y2}{k:Y3→Option Y2}{a3:Y4}{a4:Y3}{a6:Y3}{a7:Int}{a9:Bool}(cnt:Nat) (Inv:T7){res:Option Y2}(hn:cnt≤500000000000)
 (hs:∀(rc:Y4→Y3→Y3→Int→Y4→Bool→Int→Option Y2) (i:Nat) (a8:Y4),i<cnt→Inv i a8→(∀(a8':Y4),Inv (i+1) a8'→rc a3 a4 a6 a7 a8' a9 ((i+1:Nat):Int)=res)→wh6 rc (wb7 (wb6 big rec k)) a3 a4 a6 a7 a8 a9 (i:Int)=res)
 (he:∀(rc:Y4→Y3→Y3→Int→Y4→Bool→Int→Option Y2) (a8:Y4),Inv cnt a8→wh6 rc (wb7 (wb6 big rec k)) a3 a4 a6 a7 a8 a9 (cnt:Int)=res)
 (i0:Nat) (hi:i0≤cnt) (a8:Y4) (h0:Inv i0 a8):wh1 big rec k a3 a4 a6 a7 a8 a9 (i0:Int)=res :=
 idxB (fun m i=>∀(a8:Y4),Inv i a8→wwa big (wb7 (wb6 big rec k)) m a3 a4 a6 a7 a8 a9 (i:Int)=res) (fun _ i hl ih a8 h=>hs _ i a8 hl h ih) (fun _ a8 h=>he _ a8 h) i0 hi hn a8 h0
theorem xt6 {rec:Y4→Y3→Y3→Int→Option Y2}{k:Y3→Option Y2}{a3:Y4}{a4:Y3}{a6:Y3}{a7:Int}{a8:Y4}(cnt:Nat) (Inv:Nat→Bool→Prop){res:Option Y2}(hn:cnt≤500000000000)
 (hs:∀(rc:Y4→Y3→Y3→Int→Y4→Bool→Int→Option Y2) (i:Nat) (a9:Bool),i<cnt→Inv i a9→(∀(a9':Bool),Inv (i+1) a9'→rc a3 a4 a6 a7 a8 a9' ((i+1:Nat):Int)=res)→wh7 rc (wb8 rec) a3 a4 a6 a7 a8 a9 (i:Int)=res)
 (he:∀(rc:Y4→Y3→Y3→Int→Y4→Bool→Int→Option Y2) (a9:Bool),Inv cnt a9→wh7 rc (wb8 rec) a3 a4 a6 a7 a8 a9 (cnt:Int)=res)
 (i0:Nat) (hi:i0≤cnt) (a9:Bool) (h0:Inv i0 a9):wb6 big rec k a3 a4 a6 a7 a8 a9 (i0:Int)=res :=
 idxB (fun m i=>∀(a9:Bool),Inv i a9→wwb big (wb8 rec) m a3 a4 a6 a7 a8 a9 (i:Int)=res) (fun _ i hl ih a9 h=>hs _ i a9 hl h ih) (fun _ a9 h=>he _ a9 h) i0 hi hn a9 h0
theorem xw3 {a0:Y4}{a1:Y4}(cnt:Nat) (Inv:T10){res:Z0}(hn:cnt≤500000000000)
 (hs:∀(rc:T15) (i:Nat),i<cnt→Inv i→(Inv (i+1)→rc a0 a1 ((i+1:Nat):Int)=res)→wmj rc wh9 a0 a1 (i:Int)=res)
 (he:∀(rc:T15),Inv cnt→wmj rc wh9 a0 a1 (cnt:Int)=res)
 (i0:Nat) (hi:i0≤cnt) (h0:Inv i0):w2k big a0 a1 (i0:Int)=res :=
 idxB (fun m i=>Inv i→w2l big wh9 m a0 a1 (i:Int)=res) (fun _ i hl ih h=>hs _ i hl h ih) (fun _ h=>he _ h) i0 hi hn h0
theorem xw4 {a0:Y3}{a1:Y3}(cnt:Nat) (Inv:T10){res:Z0}(hn:cnt≤500000000000)
 (hs:∀(rc:T142) (i:Nat),i<cnt→Inv i→(Inv (i+1)→rc a0 a1 ((i+1:Nat):Int)=res)→wml rc wia a0 a1 (i:Int)=res)
 (he:∀(rc:T142),Inv cnt→wml rc wia a0 a1 (cnt:Int)=res)
 (i0:Nat) (hi:i0≤cnt) (h0:Inv i0):w2m big a0 a1 (i0:Int)=res :=
 idxB (fun m i=>Inv i→w2n big wia m a0 a1 (i:Int)=res) (fun _ i hl ih h=>hs _ i hl h ih) (fun _ h=>he _ h) i0 hi hn h0
theorem xw5 {a0:Int}(mu:Int→Int→Nat) (Inv:Int→Int→Prop){res:Z5}
 (hs:∀(rc:T102) (a1 a5:Int),Inv a1 a5→(∀(a1':Int) (a5':Int),Inv a1' a5'→mu a1' a5'<mu a1 a5→rc a0 a1' a5'=res)→w2p rc wmn a0 a1 a5=res)
 (a1 a5:Int) (hm:mu a1 a5≤500000000000) (h0:Inv a1 a5):w2o big a0 a1 a5=res :=
 muR (fun m=>∀(a1 a5:Int),mu a1 a5<m→Inv a1 a5→w2q big wmn m a0 a1 a5=res) (fun a1 a5 h2 _=>absurd h2 (Nat.not_lt_zero _)) (fun _ ih a1 a5 h2 h3=>hs _ a1 a5 h3 fun a1' a5' h4 h5=>ih a1' a5' (by omega) h4) big a1 a5 (by have:=jp;omega) h0
theorem xw7 {a1:Y7}{a20:Z21}{a21:Int}(cnt:Nat) (Inv:T10){res:Z0}(hn:cnt≤500000000000)
 (hs:∀(rc:T116) (i:Nat),i<cnt→Inv i→(Inv (i+1)→rc a1 a20 a21 ((i+1:Nat):Int)=res)→wmp rc wib a1 a20 a21 (i:Int)=res)
 (he:∀(rc:T116),Inv cnt→wmp rc wib a1 a20 a21 (cnt:Int)=res)
 (i0:Nat) (hi:i0≤cnt) (h0:Inv i0):w2r big a1 a20 a21 (i0:Int)=res :=
 idxB (fun m i=>Inv i→w2s big wib m a1 a20 a21 (i:Int)=res) (fun _ i hl ih h=>hs _ i hl h ih) (fun _ h=>he _ h) i0 hi hn h0
theorem xw8 {a10:Y4}{a11:Int}(cnt:Nat) (Inv:T7){res:Z19}(hn:cnt≤500000000000)
 (hs:∀(rc:T117) (i:Nat) (a3:Y4),i<cnt→Inv i a3→(∀(a3':Y4),Inv (i+1) a3'→rc a3' a10 a11 ((i+1:Nat):Int)=res)→wmr rc wic a3 a10 a11 (i:Int)=res)
 (he:∀(rc:T117) (a3:Y4),Inv cnt a3→wmr rc wic a3 a10 a11 (cnt:Int)=res)
 (i0:Nat) (hi:i0≤cnt) (a3:Y4) (h0:Inv i0 a3):w2t big a3 a10 a11 (i0:Int)=res :=
 idxB (fun m i=>∀(a3:Y4),Inv i a3→w2u big wic m a3 a10 a11 (i:Int)=res) (fun _ i hl ih a3 h=>hs _ i a3 hl h ih) (fun _ a3 h=>he _ a3 h) i0 hi hn a3 h0
theorem xw9 {a10:Y4}{a11:Int}(cnt:Nat) (Inv:T7){res:Z2}(hn:cnt≤500000000000)
 (hs:∀(rc:T11) (i:Nat) (a5:Y4),i<cnt→Inv i a5→(∀(a5':Y4),Inv (i+1) a5'→rc a5' a10 a11 ((i+1:Nat):Int)=res)→wmt rc wid a5 a10 a11 (i:Int)=res)
 (he:∀(rc:T11) (a5:Y4),Inv cnt a5→wmt rc wid a5 a10 a11 (cnt:Int)=res)
 (i0:Nat) (hi:i0≤cnt) (a5:Y4) (h0:Inv i0 a5):w2v big a5 a10 a11 (i0:Int)=res :=
 idxB (fun m i=>∀(a5:Y4),Inv i a5→w2w big wid m a5 a10 a11 (i:Int)=res) (fun _ i hl ih a5 h=>hs _ i a5 hl h ih) (fun _ a5 h=>he _ a5 h) i0 hi hn a5 h0
theorem xxa {a1:Y7}(cnt:Nat) (Inv:T105){res:Z3}(hn:cnt≤500000000000)
 (hs:∀(rc:T77) (i:Nat) (a4:Y3),i<cnt→Inv i a4→(∀(a4':Y3),Inv (i+1) a4'→rc a1 a4' ((i+1:Nat):Int)=res)→wij (wmu big rc (wad (xc big))) (wad (xc big)) a1 a4 (i:Int)=res)
 (he:∀(rc:T77) (a4:Y3),Inv cnt a4→wij (wmu big rc (wad (xc big))) (wad (xc big)) a1 a4 (cnt:Int)=res)
 (i0:Nat) (hi:i0≤cnt) (a4:Y3) (h0:Inv i0 a4):w2x big a1 a4 (i0:Int)=res :=
 idxB (fun m i=>∀(a4:Y3),Inv i a4→w2y big (wad (xc big)) m a1 a4 (i:Int)=res) (fun _ i hl ih a4 h=>hs _ i a4 hl h ih) (fun _ a4 h=>he _ a4 h) i0 hi hn a4 h0
theorem xxb {rec:T77}{k:Y7→Y3→Z3}{a1:Y7}{a5:Int}(cnt:Nat) (Inv:T105){res:Z3}(hn:cnt≤500000000000)
 (hs:∀(rc:T121) (i:Nat) (a4:Y3),i<cnt→Inv i a4→(∀(a4':Y3),Inv (i+1) a4'→rc a1 a4' a5 ((i+1:Nat):Int)=res)→wmw rc (wih rec) a1 a4 a5 (i:Int)=res)
 (he:∀(rc:T121) (a4:Y3),Inv cnt a4→wmw rc (wih rec) a1 a4 a5 (cnt:Int)=res)
 (i0:Nat) (hi:i0≤cnt) (a4:Y3) (h0:Inv i0 a4):wmu big rec k a1 a4 a5 (i0:Int)=res :=
 idxB (fun m i=>∀(a4:Y3),Inv i a4→w2z big (wih rec) m a1 a4 a5 (i:Int)=res) (fun _ i hl ih a4 h=>hs _ i a4 hl h ih) (fun _ a4 h=>he _ a4 h) i0 hi hn a4 h0
theorem xuf {a4:Y3}(cnt:Nat) (Inv:Nat→Y3→Z16→Prop){res:Z3}(hn:cnt≤500000000000)
 (hs:∀(rc:T45) (i:Nat) (a7:Y3) (a8:Z16),i<cnt→Inv i a7 a8→(∀(a7':Y3) (a8':Z16),Inv (i+1) a7' a8'→rc a4 a7' a8' ((i+1:Nat):Int)=res)→wcb (wif big rc w8) w8 a4 a7 a8 (i:Int)=res)
 (he:∀(rc:T45) (a7:Y3) (a8:Z16),Inv cnt a7 a8→wcb (wif big rc w8) w8 a4 a7 a8 (cnt:Int)=res)
 (i0:Nat) (hi:i0≤cnt) (a7:Y3) (a8:Z16) (h0:Inv i0 a7 a8):xc big a4 a7 a8 (i0:Int)=res :=
 idxB (fun m i=>∀(a7:Y3) (a8:Z16),Inv i a7 a8→wwc big w8 m a4 a7 a8 (i:Int)=res) (fun _ i hl ih a7 a8 h=>hs _ i a7 a8 hl h ih) (fun _ a7 a8 h=>he _ a7 a8 h) i0 hi hn a7 a8 h0
theorem xug {rec:T45}{k:Y3→Z3}{a4:Y3}{a9:Int}{a55:Int}(cnt:Nat) (Inv:Nat→Y3→Z16→Prop){res:Z3}(hn:cnt≤500000000000)
 (hs:∀(rc:T76) (i:Nat) (a7:Y3) (a8:Z16),i<cnt→Inv i a7 a8→(∀(a7':Y3) (a8':Z16),Inv (i+1) a7' a8'→rc a4 a7' a8' a9 a55 ((i+1:Nat):Int)=res)→wii rc (wca rec) a4 a7 a8 a9 a55 (i:Int)=res)
 (he:∀(rc:T76) (a7:Y3) (a8:Z16),Inv cnt a7 a8→wii rc (wca rec) a4 a7 a8 a9 a55 (cnt:Int)=res)
 (i0:Nat) (hi:i0≤cnt) (a7:Y3) (a8:Z16) (h0:Inv i0 a7 a8):wif big rec k a4 a7 a8 a9 a55 (i0:Int)=res :=
 idxB (fun m i=>∀(a7:Y3) (a8:Z16),Inv i a7 a8→wwd big (wca rec) m a4 a7 a8 a9 a55 (i:Int)=res) (fun _ i hl ih a7 a8 h=>hs _ i a7 a8 hl h ih) (fun _ a7 a8 h=>he _ a7 a8 h) i0 hi hn a7 a8 h0
theorem xxc {a0:Y4}(cnt:Nat) (Inv:Nat→Int→Prop){res:Z5}(hn:cnt≤500000000000)
 (hs:∀(rc:T136) (i:Nat) (a3:Int),i<cnt→Inv i a3→(∀(a3':Int),Inv (i+1) a3'→rc a0 a3' ((i+1:Nat):Int)=res)→wmy rc wik a0 a3 (i:Int)=res)
 (he:∀(rc:T136) (a3:Int),Inv cnt a3→wmy rc wik a0 a3 (cnt:Int)=res)
 (i0:Nat) (hi:i0≤cnt) (a3:Int) (h0:Inv i0 a3):w20 big a0 a3 (i0:Int)=res :=
 idxB (fun m i=>∀(a3:Int),Inv i a3→w21 big wik m a0 a3 (i:Int)=res) (fun _ i hl ih a3 h=>hs _ i a3 hl h ih) (fun _ a3 h=>he _ a3 h) i0 hi hn a3 h0
theorem xxd {a0:Y4}{a1:Y4}(cnt:Nat) (Inv:T10){res:Z0}(hn:cnt≤500000000000)
 (hs:∀(rc:T15) (i:Nat),i<cnt→Inv i→(Inv (i+1)→rc a0 a1 ((i+1:Nat):Int)=res)→wm0 rc wil a0 a1 (i:Int)=res)
 (he:∀(rc:T15),Inv cnt→wm0 rc wil a0 a1 (cnt:Int)=res)
 (i0:Nat) (hi:i0≤cnt) (h0:Inv i0):w22 big a0 a1 (i0:Int)=res :=
 idxB (fun m i=>Inv i→w23 big wil m a0 a1 (i:Int)=res) (fun _ i hl ih h=>hs _ i hl h ih) (fun _ h=>he _ h) i0 hi hn h0
theorem xqw {a0:Y3}{a1:Y4}(cnt:Nat) (Inv:T10){res:Option Y2}(hn:cnt≤500000000000)
 (hs:∀(rc:Y3→Y4→Int→Option Y2) (i:Nat),i<cnt→Inv i→(Inv (i+1)→rc a0 a1 ((i+1:Nat):Int)=res)→wd2 rc yo a0 a1 (i:Int)=res)
 (he:∀(rc:Y3→Y4→Int→Option Y2),Inv cnt→wd2 rc yo a0 a1 (cnt:Int)=res)
 (i0:Nat) (hi:i0≤cnt) (h0:Inv i0):wum big a0 a1 (i0:Int)=res :=
 idxB (fun m i=>Inv i→wun big yo m a0 a1 (i:Int)=res) (fun _ i hl ih h=>hs _ i hl h ih) (fun _ h=>he _ h) i0 hi hn h0
theorem xqx {a1:Y4}(cnt:Nat) (Inv:T7){res:Z2}(hn:cnt≤500000000000)
 (hs:∀(rc:T143) (i:Nat) (a5:Y4),i<cnt→Inv i a5→(∀(a5':Y4),Inv (i+1) a5'→rc a1 a5' ((i+1:Nat):Int)=res)→wd4 rc waq a1 a5 (i:Int)=res)
 (he:∀(rc:T143) (a5:Y4),Inv cnt a5→wd4 rc waq a1 a5 (cnt:Int)=res)
 (i0:Nat) (hi:i0≤cnt) (a5:Y4) (h0:Inv i0 a5):wuo big a1 a5 (i0:Int)=res :=
 idxB (fun m i=>∀(a5:Y4),Inv i a5→wup big waq m a1 a5 (i:Int)=res) (fun _ i hl ih a5 h=>hs _ i a5 hl h ih) (fun _ a5 h=>he _ a5 h) i0 hi hn a5 h0
theorem xqy {a1:Int}{a2:Y7}(cnt:Nat) (Inv:T105){Q:Option Y2→Prop}(hn:cnt≤500000000000)
 (hs:∀(rc:Int→Y7→Y3→Int→Option Y2) (i:Nat) (a5:Y3),i<cnt→Inv i a5→(∀(a5':Y3),Inv (i+1) a5'→Q (rc a1 a2 a5' ((i+1:Nat):Int)))→Q (wau (wd5 big rc (xn (wz big))) (xn (wz big)) a1 a2 a5 (i:Int)))
 (he:∀(rc:Int→Y7→Y3→Int→Option Y2) (a5:Y3),Inv cnt a5→Q (wau (wd5 big rc (xn (wz big))) (xn (wz big)) a1 a2 a5 (cnt:Int)))
 (i0:Nat) (hi:i0≤cnt) (a5:Y3) (h0:Inv i0 a5):Q (wuq big a1 a2 a5 (i0:Int)) :=
 idxB (fun m i=>∀(a5:Y3),Inv i a5→Q (wur big (xn (wz big)) m a1 a2 a5 (i:Int))) (fun _ i hl ih a5 h=>hs _ i a5 hl h ih) (fun _ a5 h=>he _ a5 h) i0 hi hn a5 h0
theorem xqz {rec:Int→Y7→Y3→Int→Option Y2}{k:Int→Y7→Y3→Option Y2}{a1:Int}{a2:Y7}{a6:Int}(cnt:Nat) (Inv:T105){Q:Option Y2→Prop}(hn:cnt≤500000000000)
 (hs:∀(rc:Int→Y7→Y3→Int→Int→Option Y2) (i:Nat) (a5:Y3),i<cnt→Inv i a5→(∀(a5':Y3),Inv (i+1) a5'→Q (rc a1 a2 a5' a6 ((i+1:Nat):Int)))→Q (wd7 rc (wat rec) a1 a2 a5 a6 (i:Int)))
 (he:∀(rc:Int→Y7→Y3→Int→Int→Option Y2) (a5:Y3),Inv cnt a5→Q (wd7 rc (wat rec) a1 a2 a5 a6 (cnt:Int)))
 (i0:Nat) (hi:i0≤cnt) (a5:Y3) (h0:Inv i0 a5):Q (wd5 big rec k a1 a2 a5 a6 (i0:Int)) :=
 idxB (fun m i=>∀(a5:Y3),Inv i a5→Q (wus big (wat rec) m a1 a2 a5 a6 (i:Int))) (fun _ i hl ih a5 h=>hs _ i a5 hl h ih) (fun _ a5 h=>he _ a5 h) i0 hi hn a5 h0
theorem xng {a1:Int}{a5:Y3}(cnt:Nat) (Inv:Nat→Y3→Y3→Prop){Q:Option Y2→Prop}(hn:cnt≤500000000000)
 (hs:∀(rc:Int→Y3→Y3→Y3→Int→Option Y2) (i:Nat) (a8 a9:Y3),i<cnt→Inv i a8 a9→(∀(a8':Y3) (a9':Y3),Inv (i+1) a8' a9'→Q (rc a1 a5 a8' a9' ((i+1:Nat):Int)))→Q (yr (wck big rc w5) w5 a1 a5 a8 a9 (i:Int)))
 (he:∀(rc:Int→Y3→Y3→Y3→Int→Option Y2) (a8 a9:Y3),Inv cnt a8 a9→Q (yr (wck big rc w5) w5 a1 a5 a8 a9 (cnt:Int)))
 (i0:Nat) (hi:i0≤cnt) (a8 a9:Y3) (h0:Inv i0 a8 a9):Q (wz big a1 a5 a8 a9 (i0:Int)) :=
 idxB (fun m i=>∀(a8 a9:Y3),Inv i a8 a9→Q (wp6 big w5 m a1 a5 a8 a9 (i:Int))) (fun _ i hl ih a8 a9 h=>hs _ i a8 a9 hl h ih) (fun _ a8 a9 h=>he _ a8 a9 h) i0 hi hn a8 a9 h0
theorem xnh {rec:Int→Y3→Y3→Y3→Int→Option Y2}{k:Y3→Option Y2}{a1:Int}{a5:Y3}{a10:Int}{a46:Int}{a47:Int}{a48:Bool}(cnt:Nat) (Inv:Nat→Y3→Y3→Prop){Q:Option Y2→Prop}(hn:cnt≤500000000000)
 (hs:∀(rc:Int→Y3→Y3→Y3→Int→Int→Int→Int→Bool→Option Y2) (i:Nat) (a8 a9:Y3),i<cnt→Inv i a8 a9→(∀(a8':Y3) (a9':Y3),Inv (i+1) a8' a9'→Q (rc a1 a5 a8' a9' a10 ((i+1:Nat):Int) a46 a47 a48))→Q (wcm rc (xm rec) a1 a5 a8 a9 a10 (i:Int) a46 a47 a48))
 (he:∀(rc:Int→Y3→Y3→Y3→Int→Int→Int→Int→Bool→Option Y2) (a8 a9:Y3),Inv cnt a8 a9→Q (wcm rc (xm rec) a1 a5 a8 a9 a10 (cnt:Int) a46 a47 a48))
 (i0:Nat) (hi:i0≤cnt) (a8 a9:Y3) (h0:Inv i0 a8 a9):Q (wck big rec k a1 a5 a8 a9 a10 (i0:Int) a46 a47 a48) :=
 idxB (fun m i=>∀(a8 a9:Y3),Inv i a8 a9→Q (wp7 big (xm rec) m a1 a5 a8 a9 a10 (i:Int) a46 a47 a48)) (fun _ i hl ih a8 a9 h=>hs _ i a8 a9 hl h ih) (fun _ a8 a9 h=>he _ a8 a9 h) i0 hi hn a8 a9 h0
theorem xq0 {a1:Y4}{a11:Y4}{a12:Int}(cnt:Nat) (Inv:T10){res:Z0}(hn:cnt≤500000000000)
 (hs:∀(rc:T24) (i:Nat),i<cnt→Inv i→(Inv (i+1)→rc a1 a11 a12 ((i+1:Nat):Int)=res)→wd9 rc wav a1 a11 a12 (i:Int)=res)
 (he:∀(rc:T24),Inv cnt→wd9 rc wav a1 a11 a12 (cnt:Int)=res)
 (i0:Nat) (hi:i0≤cnt) (h0:Inv i0):wut big a1 a11 a12 (i0:Int)=res :=
 idxB (fun m i=>Inv i→wuu big wav m a1 a11 a12 (i:Int)=res) (fun _ i hl ih h=>hs _ i hl h ih) (fun _ h=>he _ h) i0 hi hn h0
theorem xra {a0:Y3}{a1:Y4}(cnt:Nat) (Inv:T10){Q:Z5→Prop}(hn:cnt≤500000000000)
 (hs:∀(rc:T144) (i:Nat),i<cnt→Inv i→(Inv (i+1)→Q (rc a0 a1 ((i+1:Nat):Int)))→Q (wnr rc web a0 a1 (i:Int)))
 (he:∀(rc:T144),Inv cnt→Q (wnr rc web a0 a1 (cnt:Int)))
 (i0:Nat) (hi:i0≤cnt) (h0:Inv i0):Q (wuv big a0 a1 (i0:Int)) :=
 idxB (fun m i=>Inv i→Q (wuw big web m a0 a1 (i:Int))) (fun _ i hl ih h=>hs _ i hl h ih) (fun _ h=>he _ h) i0 hi hn h0
theorem xrc {a7:Y4}{a8:Int}(cnt:Nat) (Inv:T7){res:Z2}(hn:cnt≤500000000000)
 (hs:∀(rc:T11) (i:Nat) (a3:Y4),i<cnt→Inv i a3→(∀(a3':Y4),Inv (i+1) a3'→rc a3' a7 a8 ((i+1:Nat):Int)=res)→wed rc waw a3 a7 a8 (i:Int)=res)
 (he:∀(rc:T11) (a3:Y4),Inv cnt a3→wed rc waw a3 a7 a8 (cnt:Int)=res)
 (i0:Nat) (hi:i0≤cnt) (a3:Y4) (h0:Inv i0 a3):wux big a3 a7 a8 (i0:Int)=res :=
 idxB (fun m i=>∀(a3:Y4),Inv i a3→wuy big waw m a3 a7 a8 (i:Int)=res) (fun _ i hl ih a3 h=>hs _ i a3 hl h ih) (fun _ a3 h=>he _ a3 h) i0 hi hn a3 h0
theorem xrd {a0:Y5}{a2:Y2}{a10:Int}(cnt:Nat) (Inv:Nat→Y2→Prop){res:Z4}(hn:cnt≤500000000000)
 (hs:∀(rc:T57) (i:Nat) (a3:Y2),i<cnt→Inv i a3→(∀(a3':Y2),Inv (i+1) a3'→rc a0 a2 a3' a10 ((i+1:Nat):Int)=res)→waz (wee big rc xo) xo a0 a2 a3 a10 (i:Int)=res)
 (he:∀(rc:T57) (a3:Y2),Inv cnt a3→waz (wee big rc xo) xo a0 a2 a3 a10 (cnt:Int)=res)
 (i0:Nat) (hi:i0≤cnt) (a3:Y2) (h0:Inv i0 a3):wuz big a0 a2 a3 a10 (i0:Int)=res :=
 idxB (fun m i=>∀(a3:Y2),Inv i a3→wu0 big xo m a0 a2 a3 a10 (i:Int)=res) (fun _ i hl ih a3 h=>hs _ i a3 hl h ih) (fun _ a3 h=>he _ a3 h) i0 hi hn a3 h0
theorem xre {rec:T57}{k:T52}{a0:Y5}{a2:Y2}{a3:Y2}{a4:Int}{a10:Int}{a11:Int}{a16:Int}(cnt:Nat) (Inv:T7){res:Z4}(hn:cnt≤500000000000)
 (hs:∀(rc:T39) (i:Nat) (a5:Y4),i<cnt→Inv i a5→(∀(a5':Y4),Inv (i+1) a5'→rc a0 a2 a3 a4 a5' a10 a11 a16 ((i+1:Nat):Int)=res)→weg rc (way rec) a0 a2 a3 a4 a5 a10 a11 a16 (i:Int)=res)
 (he:∀(rc:T39) (a5:Y4),Inv cnt a5→weg rc (way rec) a0 a2 a3 a4 a5 a10 a11 a16 (cnt:Int)=res)
 (i0:Nat) (hi:i0≤cnt) (a5:Y4) (h0:Inv i0 a5):wee big rec k a0 a2 a3 a4 a5 a10 a11 a16 (i0:Int)=res :=
 idxB (fun m i=>∀(a5:Y4),Inv i a5→wu1 big (way rec) m a0 a2 a3 a4 a5 a10 a11 a16 (i:Int)=res) (fun _ i hl ih a5 h=>hs _ i a5 hl h ih) (fun _ a5 h=>he _ a5 h) i0 hi hn a5 h0
theorem xrf {a1:Y4}{a4:Y2}{a6:Y1}{a8:Y4}{a35:Int}(cnt:Nat) (Inv:T59){res:Z13}(hn:cnt≤500000000000)
 (hs:∀(rc:T17) (i:Nat) (a9:Y5),i<cnt→Inv i a9→(∀(a9':Y5),Inv (i+1) a9'→rc a1 a4 a6 a8 a9' a35 ((i+1:Nat):Int)=res)→wa1 (wco big rc xp) xp a1 a4 a6 a8 a9 a35 (i:Int)=res)
 (he:∀(rc:T17) (a9:Y5),Inv cnt a9→wa1 (wco big rc xp) xp a1 a4 a6 a8 a9 a35 (cnt:Int)=res)
 (i0:Nat) (hi:i0≤cnt) (a9:Y5) (h0:Inv i0 a9):wnw big a1 a4 a6 a8 a9 a35 (i0:Int)=res :=
 idxB (fun m i=>∀(a9:Y5),Inv i a9→wu2 big xp m a1 a4 a6 a8 a9 a35 (i:Int)=res) (fun _ i hl ih a9 h=>hs _ i a9 hl h ih) (fun _ a9 h=>he _ a9 h) i0 hi hn a9 h0
theorem xnn {rec:T17}{k:Y2→Y5→Z13}{a1:Y4}{a4:Y2}{a6:Y1}{a8:Y4}{a10:Int}{a11:Int}{a35:Int}{a36:Int}{a42:Int}(cnt:Nat) (Inv:T59){res:Z13}(hn:cnt≤500000000000)
 (hs:∀(rc:T26) (i:Nat) (a9:Y5),i<cnt→Inv i a9→(∀(a9':Y5),Inv (i+1) a9'→rc a1 a4 a6 a8 a9' a10 a11 a35 a36 a42 ((i+1:Nat):Int)=res)→wcq rc (yv rec) a1 a4 a6 a8 a9 a10 a11 a35 a36 a42 (i:Int)=res)
 (he:∀(rc:T26) (a9:Y5),Inv cnt a9→wcq rc (yv rec) a1 a4 a6 a8 a9 a10 a11 a35 a36 a42 (cnt:Int)=res)
 (i0:Nat) (hi:i0≤cnt) (a9:Y5) (h0:Inv i0 a9):wco big rec k a1 a4 a6 a8 a9 a10 a11 a35 a36 a42 (i0:Int)=res :=
 idxB (fun m i=>∀(a9:Y5),Inv i a9→wp8 big (yv rec) m a1 a4 a6 a8 a9 a10 a11 a35 a36 a42 (i:Int)=res) (fun _ i hl ih a9 h=>hs _ i a9 hl h ih) (fun _ a9 h=>he _ a9 h) i0 hi hn a9 h0
theorem xrg {a0:Z21}{a1:Z21}(cnt:Nat) (Inv:T10){res:Z0}(hn:cnt≤500000000000)
 (hs:∀(rc:T133) (i:Nat),i<cnt→Inv i→(Inv (i+1)→rc a0 a1 ((i+1:Nat):Int)=res)→wei rc wa2 a0 a1 (i:Int)=res)
 (he:∀(rc:T133),Inv cnt→wei rc wa2 a0 a1 (cnt:Int)=res)
 (i0:Nat) (hi:i0≤cnt) (h0:Inv i0):wu3 big a0 a1 (i0:Int)=res :=
 idxB (fun m i=>Inv i→wu4 big wa2 m a0 a1 (i:Int)=res) (fun _ i hl ih h=>hs _ i hl h ih) (fun _ h=>he _ h) i0 hi hn h0
theorem xrm {a0:Y4}{a9:Int}(cnt:Nat) (Inv:T7){res:Z2}(hn:cnt≤500000000000)
 (hs:∀(rc:T11) (i:Nat) (a3:Y4),i<cnt→Inv i a3→(∀(a3':Y4),Inv (i+1) a3'→rc a0 a3' a9 ((i+1:Nat):Int)=res)→wa5 (wer big rc xt) xt a0 a3 a9 (i:Int)=res)
 (he:∀(rc:T11) (a3:Y4),Inv cnt a3→wa5 (wer big rc xt) xt a0 a3 a9 (cnt:Int)=res)
 (i0:Nat) (hi:i0≤cnt) (a3:Y4) (h0:Inv i0 a3):wu8 big a0 a3 a9 (i0:Int)=res :=
 idxB (fun m i=>∀(a3:Y4),Inv i a3→wva big xt m a0 a3 a9 (i:Int)=res) (fun _ i hl ih a3 h=>hs _ i a3 hl h ih) (fun _ a3 h=>he _ a3 h) i0 hi hn a3 h0
theorem xrn {rec:T11}{k:T14}{a0:Y4}{a4:Int}{a9:Int}{a10:Int}(mu:Y4→Nat) (Inv:Y4→Prop){res:Z2}
 (hs:∀(rc:T126) (a3:Y4),Inv a3→(∀(a3':Y4),Inv a3'→mu a3'<mu a3→rc a0 a3' a4 a9 a10=res)→wu9 rc (wet rec) a0 a3 a4 a9 a10=res)
 (a3:Y4) (hm:mu a3≤500000000000) (h0:Inv a3):wer big rec k a0 a3 a4 a9 a10=res :=
 muR (fun m=>∀(a3:Y4),mu a3<m→Inv a3→wvb big (wet rec) m a0 a3 a4 a9 a10=res) (fun a3 h2 _=>absurd h2 (Nat.not_lt_zero _)) (fun _ ih a3 h2 h3=>hs _ a3 h3 fun a3' h4 h5=>ih a3' (by omega) h4) big a3 (by have:=jp;omega) h0
theorem xro {a0:Y4}{a1:Y4}{a11:Int}(cnt:Nat) (Inv:T7){res:Z2}(hn:cnt≤500000000000)
 (hs:∀(rc:T12) (i:Nat) (a5:Y4),i<cnt→Inv i a5→(∀(a5':Y4),Inv (i+1) a5'→rc a0 a1 a5' a11 ((i+1:Nat):Int)=res)→wev rc wa6 a0 a1 a5 a11 (i:Int)=res)
 (he:∀(rc:T12) (a5:Y4),Inv cnt a5→wev rc wa6 a0 a1 a5 a11 (cnt:Int)=res)
 (i0:Nat) (hi:i0≤cnt) (a5:Y4) (h0:Inv i0 a5):wvc big a0 a1 a5 a11 (i0:Int)=res :=
 idxB (fun m i=>∀(a5:Y4),Inv i a5→wvd big wa6 m a0 a1 a5 a11 (i:Int)=res) (fun _ i hl ih a5 h=>hs _ i a5 hl h ih) (fun _ a5 h=>he _ a5 h) i0 hi hn a5 h0
theorem xrp {a1:Y4}{a12:Y4}{a13:Int}(cnt:Nat) (Inv:T10){res:Z0}(hn:cnt≤500000000000)
 (hs:∀(rc:T24) (i:Nat),i<cnt→Inv i→(Inv (i+1)→rc a1 a12 a13 ((i+1:Nat):Int)=res)→wex rc wa7 a1 a12 a13 (i:Int)=res)
 (he:∀(rc:T24),Inv cnt→wex rc wa7 a1 a12 a13 (cnt:Int)=res)
 (i0:Nat) (hi:i0≤cnt) (h0:Inv i0):wve big a1 a12 a13 (i0:Int)=res :=
 idxB (fun m i=>Inv i→wvf big wa7 m a1 a12 a13 (i:Int)=res) (fun _ i hl ih h=>hs _ i hl h ih) (fun _ h=>he _ h) i0 hi hn h0
theorem xrq {a0:Y3}{a1:Unit}{a11:Y3}{a12:Int}(cnt:Nat) (Inv:T10){res:Z10}(hn:cnt≤500000000000)
 (hs:∀(rc:T19) (i:Nat),i<cnt→Inv i→(Inv (i+1)→rc a0 a1 a11 a12 ((i+1:Nat):Int)=res)→wbb (wey big rc xu) xu a0 a1 a11 a12 (i:Int)=res)
 (he:∀(rc:T19),Inv cnt→wbb (wey big rc xu) xu a0 a1 a11 a12 (cnt:Int)=res)
 (i0:Nat) (hi:i0≤cnt) (h0:Inv i0):wvg big a0 a1 a11 a12 (i0:Int)=res :=
 idxB (fun m i=>Inv i→wvh big xu m a0 a1 a11 a12 (i:Int)=res) (fun _ i hl ih h=>hs _ i hl h ih) (fun _ h=>he _ h) i0 hi hn h0
theorem xrr {rec:T19}{k:Z10}{a0:Y3}{a1:Unit}{a6:Y4}{a11:Y3}{a12:Int}{a13:Int}{a17:Y3}{a18:Int}(cnt:Nat) (Inv:T10){res:Z10}(hn:cnt≤500000000000)
 (hs:∀(rc:T6) (i:Nat),i<cnt→Inv i→(Inv (i+1)→rc a0 a1 a6 a11 a12 a13 a17 a18 ((i+1:Nat):Int)=res)→wbc (wez big rc (xw rec)) (xw rec) a0 a1 a6 a11 a12 a13 a17 a18 (i:Int)=res)
 (he:∀(rc:T6),Inv cnt→wbc (wez big rc (xw rec)) (xw rec) a0 a1 a6 a11 a12 a13 a17 a18 (cnt:Int)=res)
 (i0:Nat) (hi:i0≤cnt) (h0:Inv i0):wey big rec k a0 a1 a6 a11 a12 a13 a17 a18 (i0:Int)=res :=
 idxB (fun m i=>Inv i→wvi big (xw rec) m a0 a1 a6 a11 a12 a13 a17 a18 (i:Int)=res) (fun _ i hl ih h=>hs _ i hl h ih) (fun _ h=>he _ h) i0 hi hn h0
theorem xrs {rec:T6}{k:T19}{a0:Y3}{a1:Unit}{a6:Y4}{a8:Y4}{a11:Y3}{a12:Int}{a13:Int}{a17:Y3}{a18:Int}{a19:Int}{a23:Y3}{a24:Int}(cnt:Nat) (Inv:T10){res:Z10}(hn:cnt≤500000000000)
 (hs:∀(rc:T22) (i:Nat),i<cnt→Inv i→(Inv (i+1)→rc a0 a1 a6 a8 a11 a12 a13 a17 a18 a19 a23 a24 ((i+1:Nat):Int)=res)→we1 rc (wba rec) a0 a1 a6 a8 a11 a12 a13 a17 a18 a19 a23 a24 (i:Int)=res)
 (he:∀(rc:T22),Inv cnt→we1 rc (wba rec) a0 a1 a6 a8 a11 a12 a13 a17 a18 a19 a23 a24 (cnt:Int)=res)
 (i0:Nat) (hi:i0≤cnt) (h0:Inv i0):wez big rec k a0 a1 a6 a8 a11 a12 a13 a17 a18 a19 a23 a24 (i0:Int)=res :=
 idxB (fun m i=>Inv i→wvj big (wba rec) m a0 a1 a6 a8 a11 a12 a13 a17 a18 a19 a23 a24 (i:Int)=res) (fun _ i hl ih h=>hs _ i hl h ih) (fun _ h=>he _ h) i0 hi hn h0
theorem xrt {a0:Int}(mu:Int→Int→Nat) (Inv:Int→Int→Prop){res:Z5}
 (hs:∀(rc:T102) (a1 a5:Int),Inv a1 a5→(∀(a1':Int) (a5':Int),Inv a1' a5'→mu a1' a5'<mu a1 a5→rc a0 a1' a5'=res)→we4 rc we3 a0 a1 a5=res)
 (a1 a5:Int) (hm:mu a1 a5≤500000000000) (h0:Inv a1 a5):wvk big a0 a1 a5=res :=
 muR (fun m=>∀(a1 a5:Int),mu a1 a5<m→Inv a1 a5→wvl big we3 m a0 a1 a5=res) (fun a1 a5 h2 _=>absurd h2 (Nat.not_lt_zero _)) (fun _ ih a1 a5 h2 h3=>hs _ a1 a5 h3 fun a1' a5' h4 h5=>ih a1' a5' (by omega) h4) big a1 a5 (by have:=jp;omega) h0
theorem xru {a0:Int}{a3:Y6}(cnt:Nat) (Inv:T10){res:Z0}(hn:cnt≤500000000000)
 (hs:∀(rc:T138) (i:Nat),i<cnt→Inv i→(Inv (i+1)→rc a0 a3 ((i+1:Nat):Int)=res)→we6 rc wbd a0 a3 (i:Int)=res)
 (he:∀(rc:T138),Inv cnt→we6 rc wbd a0 a3 (cnt:Int)=res)
 (i0:Nat) (hi:i0≤cnt) (h0:Inv i0):wvm big a0 a3 (i0:Int)=res :=
 idxB (fun m i=>Inv i→wvn big wbd m a0 a3 (i:Int)=res) (fun _ i hl ih h=>hs _ i hl h ih) (fun _ h=>he _ h) i0 hi hn h0
theorem xrv {a1:Y7}(cnt:Nat) (Inv:T10){res:Z0}(hn:cnt≤500000000000)
 (hs:∀(rc:Y7→Int→Z0) (i:Nat),i<cnt→Inv i→(Inv (i+1)→rc a1 ((i+1:Nat):Int)=res)→we8 rc wbe a1 (i:Int)=res)
 (he:∀(rc:Y7→Int→Z0),Inv cnt→we8 rc wbe a1 (cnt:Int)=res)
 (i0:Nat) (hi:i0≤cnt) (h0:Inv i0):wvo big a1 (i0:Int)=res :=
 idxB (fun m i=>Inv i→wvp big wbe m a1 (i:Int)=res) (fun _ i hl ih h=>hs _ i hl h ih) (fun _ h=>he _ h) i0 hi hn h0
theorem xr0 {a0:Y4}{a1:Y4}(cnt:Nat) (Inv:T7){res:Z2}(hn:cnt≤500000000000)
 (hs:∀(rc:T82) (i:Nat) (a5:Y4),i<cnt→Inv i a5→(∀(a5':Y4),Inv (i+1) a5'→rc a0 a1 a5' ((i+1:Nat):Int)=res)→wbi (wfd big rc xx) xx a0 a1 a5 (i:Int)=res)
 (he:∀(rc:T82) (a5:Y4),Inv cnt a5→wbi (wfd big rc xx) xx a0 a1 a5 (cnt:Int)=res)
 (i0:Nat) (hi:i0≤cnt) (a5:Y4) (h0:Inv i0 a5):wvq big a0 a1 a5 (i0:Int)=res :=
 idxB (fun m i=>∀(a5:Y4),Inv i a5→wvr big xx m a0 a1 a5 (i:Int)=res) (fun _ i hl ih a5 h=>hs _ i a5 hl h ih) (fun _ a5 h=>he _ a5 h) i0 hi hn a5 h0
theorem xr1 {rec:T82}{k:T14}{a0:Y4}{a1:Y4}{a5:Y4}{a6:Int}(cnt:Nat) (Inv:T10){res:Z2}(hn:cnt≤500000000000)
 (hs:∀(rc:T12) (i:Nat),i<cnt→Inv i→(Inv (i+1)→rc a0 a1 a5 a6 ((i+1:Nat):Int)=res)→wff rc (wbh rec) a0 a1 a5 a6 (i:Int)=res)
 (he:∀(rc:T12),Inv cnt→wff rc (wbh rec) a0 a1 a5 a6 (cnt:Int)=res)
 (i0:Nat) (hi:i0≤cnt) (h0:Inv i0):wfd big rec k a0 a1 a5 a6 (i0:Int)=res :=
 idxB (fun m i=>Inv i→wvs big (wbh rec) m a0 a1 a5 a6 (i:Int)=res) (fun _ i hl ih h=>hs _ i hl h ih) (fun _ h=>he _ h) i0 hi hn h0
theorem xr2 {a0:Y3}{a1:Bool}(cnt:Nat) (Inv:T10){res:Z9}(hn:cnt≤500000000000)
 (hs:∀(rc:T44) (i:Nat),i<cnt→Inv i→(Inv (i+1)→rc a0 a1 ((i+1:Nat):Int)=res)→wbm (wfg big rc xy) xy a0 a1 (i:Int)=res)
 (he:∀(rc:T44),Inv cnt→wbm (wfg big rc xy) xy a0 a1 (cnt:Int)=res)
 (i0:Nat) (hi:i0≤cnt) (h0:Inv i0):wvt big a0 a1 (i0:Int)=res :=
 idxB (fun m i=>Inv i→wvu big xy m a0 a1 (i:Int)=res) (fun _ i hl ih h=>hs _ i hl h ih) (fun _ h=>he _ h) i0 hi hn h0
theorem xr3 {rec:T44}{k:Z9}{a0:Y3}{a1:Bool}{a6:Int}(cnt:Nat) (Inv:T10){res:Z9}(hn:cnt≤500000000000)
 (hs:∀(rc:T41) (i:Nat),i<cnt→Inv i→(Inv (i+1)→rc a0 a1 a6 ((i+1:Nat):Int)=res)→wbn (wfh big rc (xz rec)) (xz rec) a0 a1 a6 (i:Int)=res)
 (he:∀(rc:T41),Inv cnt→wbn (wfh big rc (xz rec)) (xz rec) a0 a1 a6 (cnt:Int)=res)
 (i0:Nat) (hi:i0≤cnt) (h0:Inv i0):wfg big rec k a0 a1 a6 (i0:Int)=res :=
 idxB (fun m i=>Inv i→wvv big (xz rec) m a0 a1 a6 (i:Int)=res) (fun _ i hl ih h=>hs _ i hl h ih) (fun _ h=>he _ h) i0 hi hn h0
theorem xr4 {rec:T41}{k:T44}{a0:Y3}{a1:Bool}{a6:Int}{a7:Int}(cnt:Nat) (Inv:T10){res:Z9}(hn:cnt≤500000000000)
 (hs:∀(rc:T89) (i:Nat),i<cnt→Inv i→(Inv (i+1)→rc a0 a1 a6 a7 ((i+1:Nat):Int)=res)→wfj rc (wbl rec) a0 a1 a6 a7 (i:Int)=res)
 (he:∀(rc:T89),Inv cnt→wfj rc (wbl rec) a0 a1 a6 a7 (cnt:Int)=res)
 (i0:Nat) (hi:i0≤cnt) (h0:Inv i0):wfh big rec k a0 a1 a6 a7 (i0:Int)=res :=
 idxB (fun m i=>Inv i→wvw big (wbl rec) m a0 a1 a6 a7 (i:Int)=res) (fun _ i hl ih h=>hs _ i hl h ih) (fun _ h=>he _ h) i0 hi hn h0
theorem xr5 {a4:Y1}{a21:Y4}{a22:Int}(cnt:Nat) (Inv:T110){res:Z6}(hn:cnt≤500000000000)
 (hs:∀(rc:T31) (i:Nat) (a6:Z11),i<cnt→Inv i a6→(∀(a6':Z11),Inv (i+1) a6'→rc a4 a6' a21 a22 ((i+1:Nat):Int)=res)→wbq (wfk big rc x5) x5 a4 a6 a21 a22 (i:Int)=res)
 (he:∀(rc:T31) (a6:Z11),Inv cnt a6→wbq (wfk big rc x5) x5 a4 a6 a21 a22 (cnt:Int)=res)
 (i0:Nat) (hi:i0≤cnt) (a6:Z11) (h0:Inv i0 a6):wos big a4 a6 a21 a22 (i0:Int)=res :=
 idxB (fun m i=>∀(a6:Z11),Inv i a6→wvx big x5 m a4 a6 a21 a22 (i:Int)=res) (fun _ i hl ih a6 h=>hs _ i a6 hl h ih) (fun _ a6 h=>he _ a6 h) i0 hi hn a6 h0
theorem xr6 {rec:T31}{k:Z11→Z6}{a4:Y1}{a8:Int}{a21:Y4}{a22:Int}{a23:Int}{a30:Y4}{a31:Int}(cnt:Nat) (Inv:T110){res:Z6}(hn:cnt≤500000000000)
 (hs:∀(rc:T38) (i:Nat) (a6:Z11),i<cnt→Inv i a6→(∀(a6':Z11),Inv (i+1) a6'→rc a4 a6' a8 a21 a22 a23 a30 a31 ((i+1:Nat):Int)=res)→wfm rc (wbp rec) a4 a6 a8 a21 a22 a23 a30 a31 (i:Int)=res)
 (he:∀(rc:T38) (a6:Z11),Inv cnt a6→wfm rc (wbp rec) a4 a6 a8 a21 a22 a23 a30 a31 (cnt:Int)=res)
 (i0:Nat) (hi:i0≤cnt) (a6:Z11) (h0:Inv i0 a6):wfk big rec k a4 a6 a8 a21 a22 a23 a30 a31 (i0:Int)=res :=
 idxB (fun m i=>∀(a6:Z11),Inv i a6→wvy big (wbp rec) m a4 a6 a8 a21 a22 a23 a30 a31 (i:Int)=res) (fun _ i hl ih a6 h=>hs _ i a6 hl h ih) (fun _ a6 h=>he _ a6 h) i0 hi hn a6 h0
theorem xr7 {a1:Y2}{a5:Y4}(cnt:Nat) (Inv:T110){res:Z6}(hn:cnt≤500000000000)
 (hs:∀(rc:T46) (i:Nat) (a4:Z11),i<cnt→Inv i a4→(∀(a4':Z11),Inv (i+1) a4'→rc a1 a4' a5 ((i+1:Nat):Int)=res)→wbs (wcu big rc x6) x6 a1 a4 a5 (i:Int)=res)
 (he:∀(rc:T46) (a4:Z11),Inv cnt a4→wbs (wcu big rc x6) x6 a1 a4 a5 (cnt:Int)=res)
 (i0:Nat) (hi:i0≤cnt) (a4:Z11) (h0:Inv i0 a4):wow big a1 a4 a5 (i0:Int)=res :=
 idxB (fun m i=>∀(a4:Z11),Inv i a4→wvz big x6 m a1 a4 a5 (i:Int)=res) (fun _ i hl ih a4 h=>hs _ i a4 hl h ih) (fun _ a4 h=>he _ a4 h) i0 hi hn a4 h0
theorem xoc {rec:T46}{k:Z11→Z6}{a1:Y2}{a5:Y4}{a6:Int}{a7:Y4}(cnt:Nat) (Inv:T110){res:Z6}(hn:cnt≤500000000000)
 (hs:∀(rc:T78) (i:Nat) (a4:Z11),i<cnt→Inv i a4→(∀(a4':Z11),Inv (i+1) a4'→rc a1 a4' a5 a6 a7 ((i+1:Nat):Int)=res)→wcw rc (zd rec) a1 a4 a5 a6 a7 (i:Int)=res)
 (he:∀(rc:T78) (a4:Z11),Inv cnt a4→wcw rc (zd rec) a1 a4 a5 a6 a7 (cnt:Int)=res)
 (i0:Nat) (hi:i0≤cnt) (a4:Z11) (h0:Inv i0 a4):wcu big rec k a1 a4 a5 a6 a7 (i0:Int)=res :=
 idxB (fun m i=>∀(a4:Z11),Inv i a4→wp9 big (zd rec) m a1 a4 a5 a6 a7 (i:Int)=res) (fun _ i hl ih a4 h=>hs _ i a4 hl h ih) (fun _ a4 h=>he _ a4 h) i0 hi hn a4 h0
theorem xr8 {a0:Y4}{a1:Int}(cnt:Nat) (Inv:T10){res:Z0}(hn:cnt≤500000000000)
 (hs:∀(rc:T66) (i:Nat),i<cnt→Inv i→(Inv (i+1)→rc a0 a1 ((i+1:Nat):Int)=res)→wfo rc wbt a0 a1 (i:Int)=res)
 (he:∀(rc:T66),Inv cnt→wfo rc wbt a0 a1 (cnt:Int)=res)
 (i0:Nat) (hi:i0≤cnt) (h0:Inv i0):wv0 big a0 a1 (i0:Int)=res :=
 idxB (fun m i=>Inv i→wv1 big wbt m a0 a1 (i:Int)=res) (fun _ i hl ih h=>hs _ i hl h ih) (fun _ h=>he _ h) i0 hi hn h0
theorem xuq {a3:Y2}{a4:Y3}{a8:Y3}(cnt:Nat) (Inv:T10){res:Z0}(hn:cnt≤500000000000)
 (hs:∀(rc:T124) (i:Nat),i<cnt→Inv i→(Inv (i+1)→rc a3 a4 a8 ((i+1:Nat):Int)=res)→wiy rc (wcd (zh big)) a3 a4 a8 (i:Int)=res)
 (he:∀(rc:T124),Inv cnt→wiy rc (wcd (zh big)) a3 a4 a8 (cnt:Int)=res)
 (i0:Nat) (hi:i0≤cnt) (h0:Inv i0):wwe big a3 a4 a8 (i0:Int)=res :=
 idxB (fun m i=>Inv i→wwf big (wcd (zh big)) m a3 a4 a8 (i:Int)=res) (fun _ i hl ih h=>hs _ i hl h ih) (fun _ h=>he _ h) i0 hi hn h0
theorem xur {a4:Y3}{a31:Z11}{a33:Z11}(cnt:Nat) (Inv:T10){res:Z0}(hn:cnt≤500000000000)
 (hs:∀(rc:T43) (i:Nat),i<cnt→Inv i→(Inv (i+1)→rc a4 a31 a33 ((i+1:Nat):Int)=res)→wcf (wiv big rc ya) ya a4 a31 a33 (i:Int)=res)
 (he:∀(rc:T43),Inv cnt→wcf (wiv big rc ya) ya a4 a31 a33 (cnt:Int)=res)
 (i0:Nat) (hi:i0≤cnt) (h0:Inv i0):zh big a4 a31 a33 (i0:Int)=res :=
 idxB (fun m i=>Inv i→wwg big ya m a4 a31 a33 (i:Int)=res) (fun _ i hl ih h=>hs _ i hl h ih) (fun _ h=>he _ h) i0 hi hn h0
theorem xus {rec:T43}{k:Z0}{a4:Y3}{a31:Z11}{a33:Z11}{a35:Int}(cnt:Nat) (Inv:T10){res:Z0}(hn:cnt≤500000000000)
 (hs:∀(rc:T93) (i:Nat),i<cnt→Inv i→(Inv (i+1)→rc a4 a31 a33 a35 ((i+1:Nat):Int)=res)→wiz rc (wce rec) a4 a31 a33 a35 (i:Int)=res)
 (he:∀(rc:T93),Inv cnt→wiz rc (wce rec) a4 a31 a33 a35 (cnt:Int)=res)
 (i0:Nat) (hi:i0≤cnt) (h0:Inv i0):wiv big rec k a4 a31 a33 a35 (i0:Int)=res :=
 idxB (fun m i=>Inv i→wwh big (wce rec) m a4 a31 a33 a35 (i:Int)=res) (fun _ i hl ih h=>hs _ i hl h ih) (fun _ h=>he _ h) i0 hi hn h0
end Go.Proofs.YtaehhdpcmfagjaaGreat
