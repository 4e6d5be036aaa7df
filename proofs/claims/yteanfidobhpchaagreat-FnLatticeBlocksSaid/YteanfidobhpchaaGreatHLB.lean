import Derived.Test.YteanfidobhpchaaGreatPLib
import Derived.Test.YteanfidobhpchaaGreatGLB
set_option linter.unusedVariables false
namespace Go.Proofs.YteanfidobhpchaaGreat
open Go Go.Gx Go.Proofs
theorem xgu {a1:Int}(cnt:Nat) (Inv:Nat→Z14→Y4→Prop){Q:Z12→Prop}(hn:cnt≤500000000000)
 (hs:∀(rc:T89) (i:Nat) (a0:Z14) (a5:Y4),i<cnt→Inv i a0 a5→(∀(a0':Z14) (a5':Y4),Inv (i+1) a0' a5'→Q (rc a0' a1 a5' ((i+1:Nat):Int)))→Q (wmj rc wjj a0 a1 a5 (i:Int)))
 (he:∀(rc:T89) (a0:Z14) (a5:Y4),Inv cnt a0 a5→Q (wmj rc wjj a0 a1 a5 (cnt:Int)))
 (i0:Nat) (hi:i0≤cnt) (a0:Z14) (a5:Y4) (h0:Inv i0 a0 a5):Q (wyx big a0 a1 a5 (i0:Int)) :=
 idxB (fun m i=>∀(a0:Z14) (a5:Y4),Inv i a0 a5→Q (wyy big wjj m a0 a1 a5 (i:Int))) (fun _ i hl ih a0 a5 h=>hs _ i a0 a5 hl h ih) (fun _ a0 a5 h=>he _ a0 a5 h) i0 hi hn a0 a5 h0
theorem xgv {a0:Int}{a1:Y4}(cnt:Nat) (Inv:T12){Q:Z1→Prop}(hn:cnt≤500000000000)
 (hs:∀(rc:T55) (i:Nat),i<cnt→Inv i→(Inv (i+1)→Q (rc a0 a1 ((i+1:Nat):Int)))→Q (wnd rc wjp a0 a1 (i:Int)))
 (he:∀(rc:T55),Inv cnt→Q (wnd rc wjp a0 a1 (cnt:Int)))
 (i0:Nat) (hi:i0≤cnt) (h0:Inv i0):Q (wzn big a0 a1 (i0:Int)) :=
 idxB (fun m i=>Inv i→Q (wzo big wjp m a0 a1 (i:Int))) (fun _ i hl ih h=>hs _ i hl h ih) (fun _ h=>he _ h) i0 hi hn h0
theorem xgw {a0:Y4}{a1:Int}(cnt:Nat) (Inv:Nat→(List Bool)→Prop){Q:Z1→Prop}(hn:cnt≤500000000000)
 (hs:∀(rc:T73) (i:Nat) (a5:(List Bool)),i<cnt→Inv i a5→(∀(a5':(List Bool)),Inv (i+1) a5'→Q (rc a0 a1 a5' ((i+1:Nat):Int)))→Q (wni rc wjq a0 a1 a5 (i:Int)))
 (he:∀(rc:T73) (a5:(List Bool)),Inv cnt a5→Q (wni rc wjq a0 a1 a5 (cnt:Int)))
 (i0:Nat) (hi:i0≤cnt) (a5:(List Bool)) (h0:Inv i0 a5):Q (wzv big a0 a1 a5 (i0:Int)) :=
 idxB (fun m i=>∀(a5:(List Bool)),Inv i a5→Q (wzw big wjq m a0 a1 a5 (i:Int))) (fun _ i hl ih a5 h=>hs _ i a5 hl h ih) (fun _ a5 h=>he _ a5 h) i0 hi hn a5 h0
theorem xgx {a0:Int}{a1:Z8}{a4:Y2}(cnt:Nat) (Inv:T64){Q:Z3→Prop}(hn:cnt≤500000000000)
 (hs:∀(rc:T21) (i:Nat) (a5:Y5),i<cnt→Inv i a5→(∀(a5':Y5),Inv (i+1) a5'→Q (rc a0 a1 a4 a5' ((i+1:Nat):Int)))→Q (wn3 rc (wju (wjt big)) a0 a1 a4 a5 (i:Int)))
 (he:∀(rc:T21) (a5:Y5),Inv cnt a5→Q (wn3 rc (wju (wjt big)) a0 a1 a4 a5 (cnt:Int)))
 (i0:Nat) (hi:i0≤cnt) (a5:Y5) (h0:Inv i0 a5):Q (wz6 big a0 a1 a4 a5 (i0:Int)) :=
 idxB (fun m i=>∀(a5:Y5),Inv i a5→Q (wz7 big (wju (wjt big)) m a0 a1 a4 a5 (i:Int))) (fun _ i hl ih a5 h=>hs _ i a5 hl h ih) (fun _ a5 h=>he _ a5 h) i0 hi hn a5 h0
theorem xgy {a0:Int}{a1:Z8}{a4:Y2}(cnt:Nat) (Inv:T64){Q:Z3→Prop}(hn:cnt≤500000000000)
 (hs:∀(rc:T21) (i:Nat) (a5:Y5),i<cnt→Inv i a5→(∀(a5':Y5),Inv (i+1) a5'→Q (rc a0 a1 a4 a5' ((i+1:Nat):Int)))→Q (wn4 rc (wjv (wau big)) a0 a1 a4 a5 (i:Int)))
 (he:∀(rc:T21) (a5:Y5),Inv cnt a5→Q (wn4 rc (wjv (wau big)) a0 a1 a4 a5 (cnt:Int)))
 (i0:Nat) (hi:i0≤cnt) (a5:Y5) (h0:Inv i0 a5):Q (wjt big a0 a1 a4 a5 (i0:Int)) :=
 idxB (fun m i=>∀(a5:Y5),Inv i a5→Q (wz8 big (wjv (wau big)) m a0 a1 a4 a5 (i:Int))) (fun _ i hl ih a5 h=>hs _ i a5 hl h ih) (fun _ a5 h=>he _ a5 h) i0 hi hn a5 h0
theorem xgg {a0:Int}{a4:Y2}(cnt:Nat) (Inv:T64){Q:Z3→Prop}(hn:cnt≤500000000000)
 (hs:∀(rc:T16) (i:Nat) (a5:Y5),i<cnt→Inv i a5→(∀(a5':Y5),Inv (i+1) a5'→Q (rc a0 a4 a5' ((i+1:Nat):Int)))→Q (wen (wip big rc (yu (xl big))) (yu (xl big)) a0 a4 a5 (i:Int)))
 (he:∀(rc:T16) (a5:Y5),Inv cnt a5→Q (wen (wip big rc (yu (xl big))) (yu (xl big)) a0 a4 a5 (cnt:Int)))
 (i0:Nat) (hi:i0≤cnt) (a5:Y5) (h0:Inv i0 a5):Q (wau big a0 a4 a5 (i0:Int)) :=
 idxB (fun m i=>∀(a5:Y5),Inv i a5→Q (wtz big (yu (xl big)) m a0 a4 a5 (i:Int))) (fun _ i hl ih a5 h=>hs _ i a5 hl h ih) (fun _ a5 h=>he _ a5 h) i0 hi hn a5 h0
theorem xgh {rec:T16}{k:T85}{a0:Int}{a4:Y2}{a9:Int}(cnt:Nat) (Inv:T64){Q:Z3→Prop}(hn:cnt≤500000000000)
 (hs:∀(rc:T15) (i:Nat) (a5:Y5),i<cnt→Inv i a5→(∀(a5':Y5),Inv (i+1) a5'→Q (rc a0 a4 a5' a9 ((i+1:Nat):Int)))→Q (weo (wiq big rc (yv rec)) (yv rec) a0 a4 a5 a9 (i:Int)))
 (he:∀(rc:T15) (a5:Y5),Inv cnt a5→Q (weo (wiq big rc (yv rec)) (yv rec) a0 a4 a5 a9 (cnt:Int)))
 (i0:Nat) (hi:i0≤cnt) (a5:Y5) (h0:Inv i0 a5):Q (wip big rec k a0 a4 a5 a9 (i0:Int)) :=
 idxB (fun m i=>∀(a5:Y5),Inv i a5→Q (wt0 big (yv rec) m a0 a4 a5 a9 (i:Int))) (fun _ i hl ih a5 h=>hs _ i a5 hl h ih) (fun _ a5 h=>he _ a5 h) i0 hi hn a5 h0
theorem xgj {a0:Int}{a4:Y2}{a5:Y5}(cnt:Nat) (Inv:Nat→Y2→Prop){Q:Z3→Prop}(hn:cnt≤500000000000)
 (hs:∀(rc:T43) (i:Nat) (a12:Y2),i<cnt→Inv i a12→(∀(a12':Y2),Inv (i+1) a12'→Q (rc a0 a4 a5 a12' ((i+1:Nat):Int)))→Q (wep (wir big rc yw) yw a0 a4 a5 a12 (i:Int)))
 (he:∀(rc:T43) (a12:Y2),Inv cnt a12→Q (wep (wir big rc yw) yw a0 a4 a5 a12 (cnt:Int)))
 (i0:Nat) (hi:i0≤cnt) (a12:Y2) (h0:Inv i0 a12):Q (xl big a0 a4 a5 a12 (i0:Int)) :=
 idxB (fun m i=>∀(a12:Y2),Inv i a12→Q (wt2 big yw m a0 a4 a5 a12 (i:Int))) (fun _ i hl ih a12 h=>hs _ i a12 hl h ih) (fun _ a12 h=>he _ a12 h) i0 hi hn a12 h0
theorem xgi {rec:T15}{k:T16}{a0:Int}{a4:Y2}{a9:Int}{a10:Int}(cnt:Nat) (Inv:T64){Q:Z3→Prop}(hn:cnt≤500000000000)
 (hs:∀(rc:T57) (i:Nat) (a5:Y5),i<cnt→Inv i a5→(∀(a5':Y5),Inv (i+1) a5'→Q (rc a0 a4 a5' a9 a10 ((i+1:Nat):Int)))→Q (wiu rc (wel rec) a0 a4 a5 a9 a10 (i:Int)))
 (he:∀(rc:T57) (a5:Y5),Inv cnt a5→Q (wiu rc (wel rec) a0 a4 a5 a9 a10 (cnt:Int)))
 (i0:Nat) (hi:i0≤cnt) (a5:Y5) (h0:Inv i0 a5):Q (wiq big rec k a0 a4 a5 a9 a10 (i0:Int)) :=
 idxB (fun m i=>∀(a5:Y5),Inv i a5→Q (wt1 big (wel rec) m a0 a4 a5 a9 a10 (i:Int))) (fun _ i hl ih a5 h=>hs _ i a5 hl h ih) (fun _ a5 h=>he _ a5 h) i0 hi hn a5 h0
theorem xgk {rec:T43}{k:T71}{a0:Int}{a4:Y2}{a5:Y5}{a12:Y2}{a13:Int}(cnt:Nat) (Inv:T25){Q:Z3→Prop}(hn:cnt≤500000000000)
 (hs:∀(rc:T49) (i:Nat) (a14:Y4),i<cnt→Inv i a14→(∀(a14':Y4),Inv (i+1) a14'→Q (rc a0 a4 a5 a12 a13 a14' ((i+1:Nat):Int)))→Q (wiv rc (wem rec) a0 a4 a5 a12 a13 a14 (i:Int)))
 (he:∀(rc:T49) (a14:Y4),Inv cnt a14→Q (wiv rc (wem rec) a0 a4 a5 a12 a13 a14 (cnt:Int)))
 (i0:Nat) (hi:i0≤cnt) (a14:Y4) (h0:Inv i0 a14):Q (wir big rec k a0 a4 a5 a12 a13 a14 (i0:Int)) :=
 idxB (fun m i=>∀(a14:Y4),Inv i a14→Q (wt3 big (wem rec) m a0 a4 a5 a12 a13 a14 (i:Int))) (fun _ i hl ih a14 h=>hs _ i a14 hl h ih) (fun _ a14 h=>he _ a14 h) i0 hi hn a14 h0
theorem xed {a0:Y4}{a1:Int}(cnt:Nat) (Inv:T12){Q:Z5→Prop}(hn:cnt≤500000000000)
 (hs:∀(rc:T97) (i:Nat),i<cnt→Inv i→(Inv (i+1)→Q (rc a0 a1 ((i+1:Nat):Int)))→Q (wfe rc zz a0 a1 (i:Int)))
 (he:∀(rc:T97),Inv cnt→Q (wfe rc zz a0 a1 (cnt:Int)))
 (i0:Nat) (hi:i0≤cnt) (h0:Inv i0):Q (wqe big a0 a1 (i0:Int)) :=
 idxB (fun m i=>Inv i→Q (wqf big zz m a0 a1 (i:Int))) (fun _ i hl ih h=>hs _ i hl h ih) (fun _ h=>he _ h) i0 hi hn h0
theorem xee {a2:Y2}{a3:Int}(cnt:Nat) (Inv:Nat→Z14→Z8→Prop){Q:Z6→Prop}(hn:cnt≤500000000000)
 (hs:∀(rc:T17) (i:Nat) (a0:Z14) (a4:Z8),i<cnt→Inv i a0 a4→(∀(a0':Z14) (a4':Z8),Inv (i+1) a0' a4'→Q (rc a0' a2 a3 a4' ((i+1:Nat):Int)))→Q (wbk (wff big rc (ya (w8 big) (wh big))) (ya (w8 big) (wh big)) a0 a2 a3 a4 (i:Int)))
 (he:∀(rc:T17) (a0:Z14) (a4:Z8),Inv cnt a0 a4→Q (wbk (wff big rc (ya (w8 big) (wh big))) (ya (w8 big) (wh big)) a0 a2 a3 a4 (cnt:Int)))
 (i0:Nat) (hi:i0≤cnt) (a0:Z14) (a4:Z8) (h0:Inv i0 a0 a4):Q (wqg big a0 a2 a3 a4 (i0:Int)) :=
 idxB (fun m i=>∀(a0:Z14) (a4:Z8),Inv i a0 a4→Q (wqi big (ya (w8 big) (wh big)) m a0 a2 a3 a4 (i:Int))) (fun _ i hl ih a0 a4 h=>hs _ i a0 a4 hl h ih) (fun _ a0 a4 h=>he _ a0 a4 h) i0 hi hn a0 a4 h0
theorem xef {rec:T17}{k:T58}{a2:Y2}{a3:Int}{a5:Int}(cnt:Nat) (Inv:Nat→Z14→Z8→Prop){Q:Z6→Prop}(hn:cnt≤500000000000)
 (hs:∀(rc:T59) (i:Nat) (a0:Z14) (a4:Z8),i<cnt→Inv i a0 a4→(∀(a0':Z14) (a4':Z8),Inv (i+1) a0' a4'→Q (rc a0' a2 a3 a4' a5 ((i+1:Nat):Int)))→Q (wfh rc (wbi rec) a0 a2 a3 a4 a5 (i:Int)))
 (he:∀(rc:T59) (a0:Z14) (a4:Z8),Inv cnt a0 a4→Q (wfh rc (wbi rec) a0 a2 a3 a4 a5 (cnt:Int)))
 (i0:Nat) (hi:i0≤cnt) (a0:Z14) (a4:Z8) (h0:Inv i0 a0 a4):Q (wff big rec k a0 a2 a3 a4 a5 (i0:Int)) :=
 idxB (fun m i=>∀(a0:Z14) (a4:Z8),Inv i a0 a4→Q (wqj big (wbi rec) m a0 a2 a3 a4 a5 (i:Int))) (fun _ i hl ih a0 a4 h=>hs _ i a0 a4 hl h ih) (fun _ a0 a4 h=>he _ a0 a4 h) i0 hi hn a0 a4 h0
theorem xbd {a0:Z14}{a2:Y2}{a3:Int}{a7:Y4}(cnt:Nat) (Inv:T52){Q:Z6→Prop}(hn:cnt≤500000000000)
 (hs:∀(rc:T65) (i:Nat) (a4:Z8),i<cnt→Inv i a4→(∀(a4':Z8),Inv (i+1) a4'→Q (rc a0 a2 a3 a4' a7 ((i+1:Nat):Int)))→Q (wbj rc (xt (wh big)) a0 a2 a3 a4 a7 (i:Int)))
 (he:∀(rc:T65) (a4:Z8),Inv cnt a4→Q (wbj rc (xt (wh big)) a0 a2 a3 a4 a7 (cnt:Int)))
 (i0:Nat) (hi:i0≤cnt) (a4:Z8) (h0:Inv i0 a4):Q (w8 big a0 a2 a3 a4 a7 (i0:Int)) :=
 idxB (fun m i=>∀(a4:Z8),Inv i a4→Q (wog big (xt (wh big)) m a0 a2 a3 a4 a7 (i:Int))) (fun _ i hl ih a4 h=>hs _ i a4 hl h ih) (fun _ a4 h=>he _ a4 h) i0 hi hn a4 h0
theorem xbe {a2:Y2}(mu:Z14→Y2→Nat) (Inv:Z14→Y2→Prop){Q:Z6→Prop}
 (hs:∀(rc:T100) (a0:Z14) (a9:Y2),Inv a0 a9→(∀(a0':Z14) (a9':Y2),Inv a0' a9'→mu a0' a9'<mu a0 a9→Q (rc a0' a2 a9'))→Q (wof rc wbh a0 a2 a9))
 (a0:Z14) (a9:Y2) (hm:mu a0 a9≤500000000000) (h0:Inv a0 a9):Q (wh big a0 a2 a9) :=
 muR (fun m=>∀(a0:Z14) (a9:Y2),mu a0 a9<m→Inv a0 a9→Q (woh big wbh m a0 a2 a9)) (fun a0 a9 h2 _=>absurd h2 (Nat.not_lt_zero _)) (fun _ ih a0 a9 h2 h3=>hs _ a0 a9 h3 fun a0' a9' h4 h5=>ih a0' a9' (by omega) h4) big a0 a9 (by have:=jp;omega) h0
theorem xeg {a0:Y4}{a1:Int}(cnt:Nat) (Inv:T12){res:Z1}(hn:cnt≤500000000000)
 (hs:∀(rc:T108) (i:Nat),i<cnt→Inv i→(Inv (i+1)→rc a0 a1 ((i+1:Nat):Int)=res)→wfj rc wbo a0 a1 (i:Int)=res)
 (he:∀(rc:T108),Inv cnt→wfj rc wbo a0 a1 (cnt:Int)=res)
 (i0:Nat) (hi:i0≤cnt) (h0:Inv i0):wqk big a0 a1 (i0:Int)=res :=
 idxB (fun m i=>Inv i→wql big wbo m a0 a1 (i:Int)=res) (fun _ i hl ih h=>hs _ i hl h ih) (fun _ h=>he _ h) i0 hi hn h0
theorem xeh {a1:Int}{a2:Int}{a3:Y2}(cnt:Nat) (Inv:T12){res:Z1}(hn:cnt≤500000000000)
 (hs:∀(rc:T91) (i:Nat),i<cnt→Inv i→(Inv (i+1)→rc a1 a2 a3 ((i+1:Nat):Int)=res)→wfl rc wbp a1 a2 a3 (i:Int)=res)
 (he:∀(rc:T91),Inv cnt→wfl rc wbp a1 a2 a3 (cnt:Int)=res)
 (i0:Nat) (hi:i0≤cnt) (h0:Inv i0):wqm big a1 a2 a3 (i0:Int)=res :=
 idxB (fun m i=>Inv i→wqn big wbp m a1 a2 a3 (i:Int)=res) (fun _ i hl ih h=>hs _ i hl h ih) (fun _ h=>he _ h) i0 hi hn h0
theorem xei {a1:Y2}(cnt:Nat) (Inv:T52){res:Z11}(hn:cnt≤500000000000)
 (hs:∀(rc:T56) (i:Nat) (a3:Z8),i<cnt→Inv i a3→(∀(a3':Z8),Inv (i+1) a3'→rc a1 a3' ((i+1:Nat):Int)=res)→wbs (wfm big rc yb) yb a1 a3 (i:Int)=res)
 (he:∀(rc:T56) (a3:Z8),Inv cnt a3→wbs (wfm big rc yb) yb a1 a3 (cnt:Int)=res)
 (i0:Nat) (hi:i0≤cnt) (a3:Z8) (h0:Inv i0 a3):wqo big a1 a3 (i0:Int)=res :=
 idxB (fun m i=>∀(a3:Z8),Inv i a3→wqp big yb m a1 a3 (i:Int)=res) (fun _ i hl ih a3 h=>hs _ i a3 hl h ih) (fun _ a3 h=>he _ a3 h) i0 hi hn a3 h0
theorem xej {rec:T56}{k:Z8→Z11}{a1:Y2}{a4:Int}(cnt:Nat) (Inv:T52){res:Z11}(hn:cnt≤500000000000)
 (hs:∀(rc:T92) (i:Nat) (a3:Z8),i<cnt→Inv i a3→(∀(a3':Z8),Inv (i+1) a3'→rc a1 a3' a4 ((i+1:Nat):Int)=res)→wfo rc (wbr rec) a1 a3 a4 (i:Int)=res)
 (he:∀(rc:T92) (a3:Z8),Inv cnt a3→wfo rc (wbr rec) a1 a3 a4 (cnt:Int)=res)
 (i0:Nat) (hi:i0≤cnt) (a3:Z8) (h0:Inv i0 a3):wfm big rec k a1 a3 a4 (i0:Int)=res :=
 idxB (fun m i=>∀(a3:Z8),Inv i a3→wqq big (wbr rec) m a1 a3 a4 (i:Int)=res) (fun _ i hl ih a3 h=>hs _ i a3 hl h ih) (fun _ a3 h=>he _ a3 h) i0 hi hn a3 h0
theorem xek {a0:Z14}{a2:Y2}{a3:Y2}{a4:Int}{a5:Y4}(cnt:Nat) (Inv:T52){Q:Z6→Prop}(hn:cnt≤500000000000)
 (hs:∀(rc:T50) (i:Nat) (a6:Z8),i<cnt→Inv i a6→(∀(a6':Z8),Inv (i+1) a6'→Q (rc a0 a2 a3 a4 a5 a6' ((i+1:Nat):Int)))→Q (wfq rc wbt a0 a2 a3 a4 a5 a6 (i:Int)))
 (he:∀(rc:T50) (a6:Z8),Inv cnt a6→Q (wfq rc wbt a0 a2 a3 a4 a5 a6 (cnt:Int)))
 (i0:Nat) (hi:i0≤cnt) (a6:Z8) (h0:Inv i0 a6):Q (wqr big a0 a2 a3 a4 a5 a6 (i0:Int)) :=
 idxB (fun m i=>∀(a6:Z8),Inv i a6→Q (wqs big wbt m a0 a2 a3 a4 a5 a6 (i:Int))) (fun _ i hl ih a6 h=>hs _ i a6 hl h ih) (fun _ a6 h=>he _ a6 h) i0 hi hn a6 h0
theorem xel {a0:Y4}{a1:Y4}(cnt:Nat) (Inv:T12){res:Z1}(hn:cnt≤500000000000)
 (hs:∀(rc:T10) (i:Nat),i<cnt→Inv i→(Inv (i+1)→rc a0 a1 ((i+1:Nat):Int)=res)→wft rc wbv a0 a1 (i:Int)=res)
 (he:∀(rc:T10),Inv cnt→wft rc wbv a0 a1 (cnt:Int)=res)
 (i0:Nat) (hi:i0≤cnt) (h0:Inv i0):wqw big a0 a1 (i0:Int)=res :=
 idxB (fun m i=>Inv i→wqx big wbv m a0 a1 (i:Int)=res) (fun _ i hl ih h=>hs _ i hl h ih) (fun _ h=>he _ h) i0 hi hn h0
theorem xem {a1:Y2}{a3:Int}(cnt:Nat) (Inv:T12){res:Z1}(hn:cnt≤500000000000)
 (hs:∀(rc:T26) (i:Nat),i<cnt→Inv i→(Inv (i+1)→rc a1 a3 ((i+1:Nat):Int)=res)→wfv rc (wby (ze big)) a1 a3 (i:Int)=res)
 (he:∀(rc:T26),Inv cnt→wfv rc (wby (ze big)) a1 a3 (cnt:Int)=res)
 (i0:Nat) (hi:i0≤cnt) (h0:Inv i0):wqy big a1 a3 (i0:Int)=res :=
 idxB (fun m i=>Inv i→wqz big (wby (ze big)) m a1 a3 (i:Int)=res) (fun _ i hl ih h=>hs _ i hl h ih) (fun _ h=>he _ h) i0 hi hn h0
theorem xbp {a1:Y2}{a3:Int}(cnt:Nat) (Inv:T12){res:Z1}(hn:cnt≤500000000000)
 (hs:∀(rc:T26) (i:Nat),i<cnt→Inv i→(Inv (i+1)→rc a1 a3 ((i+1:Nat):Int)=res)→zg (wbw big rc w9) w9 a1 a3 (i:Int)=res)
 (he:∀(rc:T26),Inv cnt→zg (wbw big rc w9) w9 a1 a3 (cnt:Int)=res)
 (i0:Nat) (hi:i0≤cnt) (h0:Inv i0):ze big a1 a3 (i0:Int)=res :=
 idxB (fun m i=>Inv i→woi big w9 m a1 a3 (i:Int)=res) (fun _ i hl ih h=>hs _ i hl h ih) (fun _ h=>he _ h) i0 hi hn h0
theorem xbq {rec:T26}{k:Z1}{a1:Y2}{a3:Int}{a5:Int}(cnt:Nat) (Inv:T12){res:Z1}(hn:cnt≤500000000000)
 (hs:∀(rc:T93) (i:Nat),i<cnt→Inv i→(Inv (i+1)→rc a1 a3 a5 ((i+1:Nat):Int)=res)→wbz rc (zf rec) a1 a3 a5 (i:Int)=res)
 (he:∀(rc:T93),Inv cnt→wbz rc (zf rec) a1 a3 a5 (cnt:Int)=res)
 (i0:Nat) (hi:i0≤cnt) (h0:Inv i0):wbw big rec k a1 a3 a5 (i0:Int)=res :=
 idxB (fun m i=>Inv i→woj big (zf rec) m a1 a3 a5 (i:Int)=res) (fun _ i hl ih h=>hs _ i hl h ih) (fun _ h=>he _ h) i0 hi hn h0
theorem xen {a1:Y2}{a2:Y2}(cnt:Nat) (Inv:Nat→Y2→Prop){res:Z3}(hn:cnt≤500000000000)
 (hs:∀(rc:T67) (i:Nat) (a3:Y2),i<cnt→Inv i a3→(∀(a3':Y2),Inv (i+1) a3'→rc a1 a2 a3' ((i+1:Nat):Int)=res)→wb2 (wfw big rc yc) yc a1 a2 a3 (i:Int)=res)
 (he:∀(rc:T67) (a3:Y2),Inv cnt a3→wb2 (wfw big rc yc) yc a1 a2 a3 (cnt:Int)=res)
 (i0:Nat) (hi:i0≤cnt) (a3:Y2) (h0:Inv i0 a3):wq0 big a1 a2 a3 (i0:Int)=res :=
 idxB (fun m i=>∀(a3:Y2),Inv i a3→wq1 big yc m a1 a2 a3 (i:Int)=res) (fun _ i hl ih a3 h=>hs _ i a3 hl h ih) (fun _ a3 h=>he _ a3 h) i0 hi hn a3 h0
theorem xeo {rec:T67}{k:T71}{a1:Y2}{a2:Y2}{a3:Y2}{a4:Int}(cnt:Nat) (Inv:T25){res:Z3}(hn:cnt≤500000000000)
 (hs:∀(rc:T69) (i:Nat) (a5:Y4),i<cnt→Inv i a5→(∀(a5':Y4),Inv (i+1) a5'→rc a1 a2 a3 a4 a5' ((i+1:Nat):Int)=res)→wfy rc (wb1 rec) a1 a2 a3 a4 a5 (i:Int)=res)
 (he:∀(rc:T69) (a5:Y4),Inv cnt a5→wfy rc (wb1 rec) a1 a2 a3 a4 a5 (cnt:Int)=res)
 (i0:Nat) (hi:i0≤cnt) (a5:Y4) (h0:Inv i0 a5):wfw big rec k a1 a2 a3 a4 a5 (i0:Int)=res :=
 idxB (fun m i=>∀(a5:Y4),Inv i a5→wq2 big (wb1 rec) m a1 a2 a3 a4 a5 (i:Int)=res) (fun _ i hl ih a5 h=>hs _ i a5 hl h ih) (fun _ a5 h=>he _ a5 h) i0 hi hn a5 h0
theorem xep {a1:Y4}{a2:Y2}(cnt:Nat) (Inv:T25){res:Z4}(hn:cnt≤500000000000)
 (hs:∀(rc:T68) (i:Nat) (a5:Y4),i<cnt→Inv i a5→(∀(a5':Y4),Inv (i+1) a5'→rc a1 a2 a5' ((i+1:Nat):Int)=res)→wb7 (wfz big rc (yd (xc big))) (yd (xc big)) a1 a2 a5 (i:Int)=res)
 (he:∀(rc:T68) (a5:Y4),Inv cnt a5→wb7 (wfz big rc (yd (xc big))) (yd (xc big)) a1 a2 a5 (cnt:Int)=res)
 (i0:Nat) (hi:i0≤cnt) (a5:Y4) (h0:Inv i0 a5):wq3 big a1 a2 a5 (i0:Int)=res :=
 idxB (fun m i=>∀(a5:Y4),Inv i a5→wq4 big (yd (xc big)) m a1 a2 a5 (i:Int)=res) (fun _ i hl ih a5 h=>hs _ i a5 hl h ih) (fun _ a5 h=>he _ a5 h) i0 hi hn a5 h0
theorem xeq {rec:T68}{k:Y2→Y4→Z4}{a1:Y4}{a2:Y2}{a5:Y4}{a6:Int}(cnt:Nat) (Inv:Nat→Bool→Prop){res:Z4}(hn:cnt≤500000000000)
 (hs:∀(rc:T60) (i:Nat) (a7:Bool),i<cnt→Inv i a7→(∀(a7':Bool),Inv (i+1) a7'→rc a1 a2 a5 a6 a7' ((i+1:Nat):Int)=res)→wf1 rc (wb5 rec) a1 a2 a5 a6 a7 (i:Int)=res)
 (he:∀(rc:T60) (a7:Bool),Inv cnt a7→wf1 rc (wb5 rec) a1 a2 a5 a6 a7 (cnt:Int)=res)
 (i0:Nat) (hi:i0≤cnt) (a7:Bool) (h0:Inv i0 a7):wfz big rec k a1 a2 a5 a6 a7 (i0:Int)=res :=
 idxB (fun m i=>∀(a7:Bool),Inv i a7→wq5 big (wb5 rec) m a1 a2 a5 a6 a7 (i:Int)=res) (fun _ i hl ih a7 h=>hs _ i a7 hl h ih) (fun _ a7 h=>he _ a7 h) i0 hi hn a7 h0
theorem xbu {a2:Y2}{a5:Y4}(cnt:Nat) (Inv:T12){res:Z4}(hn:cnt≤500000000000)
 (hs:∀(rc:T113) (i:Nat),i<cnt→Inv i→(Inv (i+1)→rc a2 a5 ((i+1:Nat):Int)=res)→wb6 rc zh a2 a5 (i:Int)=res)
 (he:∀(rc:T113),Inv cnt→wb6 rc zh a2 a5 (cnt:Int)=res)
 (i0:Nat) (hi:i0≤cnt) (h0:Inv i0):xc big a2 a5 (i0:Int)=res :=
 idxB (fun m i=>Inv i→wok big zh m a2 a5 (i:Int)=res) (fun _ i hl ih h=>hs _ i hl h ih) (fun _ h=>he _ h) i0 hi hn h0
theorem xer {a1:Y2}{a3:Y2}(cnt:Nat) (Inv:T12){res:Z1}(hn:cnt≤500000000000)
 (hs:∀(rc:T62) (i:Nat),i<cnt→Inv i→(Inv (i+1)→rc a1 a3 ((i+1:Nat):Int)=res)→wca (wf2 big rc ye) ye a1 a3 (i:Int)=res)
 (he:∀(rc:T62),Inv cnt→wca (wf2 big rc ye) ye a1 a3 (cnt:Int)=res)
 (i0:Nat) (hi:i0≤cnt) (h0:Inv i0):wq6 big a1 a3 (i0:Int)=res :=
 idxB (fun m i=>Inv i→wq7 big ye m a1 a3 (i:Int)=res) (fun _ i hl ih h=>hs _ i hl h ih) (fun _ h=>he _ h) i0 hi hn h0
theorem xes {rec:T62}{k:Z1}{a1:Y2}{a3:Y2}{a4:Int}(cnt:Nat) (Inv:T12){res:Z1}(hn:cnt≤500000000000)
 (hs:∀(rc:T94) (i:Nat),i<cnt→Inv i→(Inv (i+1)→rc a1 a3 a4 ((i+1:Nat):Int)=res)→wf4 rc (wb9 rec) a1 a3 a4 (i:Int)=res)
 (he:∀(rc:T94),Inv cnt→wf4 rc (wb9 rec) a1 a3 a4 (cnt:Int)=res)
 (i0:Nat) (hi:i0≤cnt) (h0:Inv i0):wf2 big rec k a1 a3 a4 (i0:Int)=res :=
 idxB (fun m i=>Inv i→wq8 big (wb9 rec) m a1 a3 a4 (i:Int)=res) (fun _ i hl ih h=>hs _ i hl h ih) (fun _ h=>he _ h) i0 hi hn h0
theorem xet {a1:Y2}{a2:Y7}{a3:Int}{a4:Y2}(cnt:Nat) (Inv:Nat→Y6→Y6→Prop){res:Z15}(hn:cnt≤500000000000)
 (hs:∀(rc:T7) (i:Nat) (a5 a6:Y6),i<cnt→Inv i a5 a6→(∀(a5':Y6) (a6':Y6),Inv (i+1) a5' a6'→rc a1 a2 a3 a4 a5' a6' ((i+1:Nat):Int)=res)→wcd (wf5 big rc yf) yf a1 a2 a3 a4 a5 a6 (i:Int)=res)
 (he:∀(rc:T7) (a5 a6:Y6),Inv cnt a5 a6→wcd (wf5 big rc yf) yf a1 a2 a3 a4 a5 a6 (cnt:Int)=res)
 (i0:Nat) (hi:i0≤cnt) (a5 a6:Y6) (h0:Inv i0 a5 a6):wq9 big a1 a2 a3 a4 a5 a6 (i0:Int)=res :=
 idxB (fun m i=>∀(a5 a6:Y6),Inv i a5 a6→wra big yf m a1 a2 a3 a4 a5 a6 (i:Int)=res) (fun _ i hl ih a5 a6 h=>hs _ i a5 a6 hl h ih) (fun _ a5 a6 h=>he _ a5 a6 h) i0 hi hn a5 a6 h0
theorem xeu {rec:T7}{k:T95}{a1:Y2}{a2:Y7}{a3:Int}{a4:Y2}{a7:Int}(cnt:Nat) (Inv:Nat→Y6→Y6→Prop){res:Z15}(hn:cnt≤500000000000)
 (hs:∀(rc:T39) (i:Nat) (a5 a6:Y6),i<cnt→Inv i a5 a6→(∀(a5':Y6) (a6':Y6),Inv (i+1) a5' a6'→rc a1 a2 a3 a4 a5' a6' a7 ((i+1:Nat):Int)=res)→wf7 rc (wcc rec) a1 a2 a3 a4 a5 a6 a7 (i:Int)=res)
 (he:∀(rc:T39) (a5 a6:Y6),Inv cnt a5 a6→wf7 rc (wcc rec) a1 a2 a3 a4 a5 a6 a7 (cnt:Int)=res)
 (i0:Nat) (hi:i0≤cnt) (a5 a6:Y6) (h0:Inv i0 a5 a6):wf5 big rec k a1 a2 a3 a4 a5 a6 a7 (i0:Int)=res :=
 idxB (fun m i=>∀(a5 a6:Y6),Inv i a5 a6→wrb big (wcc rec) m a1 a2 a3 a4 a5 a6 a7 (i:Int)=res) (fun _ i hl ih a5 a6 h=>hs _ i a5 a6 hl h ih) (fun _ a5 a6 h=>he _ a5 a6 h) i0 hi hn a5 a6 h0
theorem xev {a0:Int}(mu:Int→Int→Nat) (Inv:Int→Int→Prop){res:Z4}
 (hs:∀(rc:Int→Int→Int→Z4) (a1 a5:Int),Inv a1 a5→(∀(a1':Int) (a5':Int),Inv a1' a5'→mu a1' a5'<mu a1 a5→rc a0 a1' a5'=res)→wga rc wf9 a0 a1 a5=res)
 (a1 a5:Int) (hm:mu a1 a5≤500000000000) (h0:Inv a1 a5):wrc big a0 a1 a5=res :=
 muR (fun m=>∀(a1 a5:Int),mu a1 a5<m→Inv a1 a5→wrd big wf9 m a0 a1 a5=res) (fun a1 a5 h2 _=>absurd h2 (Nat.not_lt_zero _)) (fun _ ih a1 a5 h2 h3=>hs _ a1 a5 h3 fun a1' a5' h4 h5=>ih a1' a5' (by omega) h4) big a1 a5 (by have:=jp;omega) h0
theorem xew {a0:Int}{a3:Y6}(cnt:Nat) (Inv:T12){res:Z1}(hn:cnt≤500000000000)
 (hs:∀(rc:T109) (i:Nat),i<cnt→Inv i→(Inv (i+1)→rc a0 a3 ((i+1:Nat):Int)=res)→wgc rc wce a0 a3 (i:Int)=res)
 (he:∀(rc:T109),Inv cnt→wgc rc wce a0 a3 (cnt:Int)=res)
 (i0:Nat) (hi:i0≤cnt) (h0:Inv i0):wre big a0 a3 (i0:Int)=res :=
 idxB (fun m i=>Inv i→wrf big wce m a0 a3 (i:Int)=res) (fun _ i hl ih h=>hs _ i hl h ih) (fun _ h=>he _ h) i0 hi hn h0
theorem xex {a1:Y7}(cnt:Nat) (Inv:T12){res:Z1}(hn:cnt≤500000000000)
 (hs:∀(rc:Y7→Int→Z1) (i:Nat),i<cnt→Inv i→(Inv (i+1)→rc a1 ((i+1:Nat):Int)=res)→wge rc wcf a1 (i:Int)=res)
 (he:∀(rc:Y7→Int→Z1),Inv cnt→wge rc wcf a1 (cnt:Int)=res)
 (i0:Nat) (hi:i0≤cnt) (h0:Inv i0):wrg big a1 (i0:Int)=res :=
 idxB (fun m i=>Inv i→wrh big wcf m a1 (i:Int)=res) (fun _ i hl ih h=>hs _ i hl h ih) (fun _ h=>he _ h) i0 hi hn h0
theorem xey {a0:Int}(cnt:Nat) (Inv:T25){res:Z5}(hn:cnt≤500000000000)
 (hs:∀(rc:T110) (i:Nat) (a3:Y4),i<cnt→Inv i a3→(∀(a3':Y4),Inv (i+1) a3'→rc a0 a3' ((i+1:Nat):Int)=res)→wgg rc wcg a0 a3 (i:Int)=res)
 (he:∀(rc:T110) (a3:Y4),Inv cnt a3→wgg rc wcg a0 a3 (cnt:Int)=res)
 (i0:Nat) (hi:i0≤cnt) (a3:Y4) (h0:Inv i0 a3):wri big a0 a3 (i0:Int)=res :=
 idxB (fun m i=>∀(a3:Y4),Inv i a3→wrj big wcg m a0 a3 (i:Int)=res) (fun _ i hl ih a3 h=>hs _ i a3 hl h ih) (fun _ a3 h=>he _ a3 h) i0 hi hn a3 h0
theorem xez {a0:Y4}{a7:Int}{a8:Int}(cnt:Nat) (Inv:T25){res:Z5}(hn:cnt≤500000000000)
 (hs:∀(rc:T41) (i:Nat) (a9:Y4),i<cnt→Inv i a9→(∀(a9':Y4),Inv (i+1) a9'→rc a0 a7 a8 a9' ((i+1:Nat):Int)=res)→xj rc w5 a0 a7 a8 a9 (i:Int)=res)
 (he:∀(rc:T41) (a9:Y4),Inv cnt a9→xj rc w5 a0 a7 a8 a9 (cnt:Int)=res)
 (i0:Nat) (hi:i0≤cnt) (a9:Y4) (h0:Inv i0 a9):wgh big a0 a7 a8 a9 (i0:Int)=res :=
 idxB (fun m i=>∀(a9:Y4),Inv i a9→wlk big w5 m a0 a7 a8 a9 (i:Int)=res) (fun _ i hl ih a9 h=>hs _ i a9 hl h ih) (fun _ a9 h=>he _ a9 h) i0 hi hn a9 h0
theorem xe0 {a0:Y4}{a7:Int}{a8:Int}(cnt:Nat) (Inv:T25){Q:Z5→Prop}(hn:cnt≤500000000000)
 (hs:∀(rc:T41) (i:Nat) (a9:Y4),i<cnt→Inv i a9→(∀(a9':Y4),Inv (i+1) a9'→Q (rc a0 a7 a8 a9' ((i+1:Nat):Int)))→Q (xj rc w5 a0 a7 a8 a9 (i:Int)))
 (he:∀(rc:T41) (a9:Y4),Inv cnt a9→Q (xj rc w5 a0 a7 a8 a9 (cnt:Int)))
 (i0:Nat) (hi:i0≤cnt) (a9:Y4) (h0:Inv i0 a9):Q (wgh big a0 a7 a8 a9 (i0:Int)) :=
 idxB (fun m i=>∀(a9:Y4),Inv i a9→Q (wlk big w5 m a0 a7 a8 a9 (i:Int))) (fun _ i hl ih a9 h=>hs _ i a9 hl h ih) (fun _ a9 h=>he _ a9 h) i0 hi hn a9 h0
theorem xe1 (mu:Z14→Y4→Int→Nat) (Inv:Z14→Y4→Int→Prop){Q:Z12→Prop}
 (hs:∀(rc:Z14→Y4→Int→Z12) (a0:Z14) (a5:Y4) (a6:Int),Inv a0 a5 a6→(∀(a0':Z14) (a5':Y4) (a6':Int),Inv a0' a5' a6'→mu a0' a5' a6'<mu a0 a5 a6→Q (rc a0' a5' a6'))→Q (wrl rc wch a0 a5 a6))
 (a0:Z14) (a5:Y4) (a6:Int) (hm:mu a0 a5 a6≤500000000000) (h0:Inv a0 a5 a6):Q (wrk big a0 a5 a6) :=
 muR (fun m=>∀(a0:Z14) (a5:Y4) (a6:Int),mu a0 a5 a6<m→Inv a0 a5 a6→Q (wrm big wch m a0 a5 a6)) (fun a0 a5 a6 h2 _=>absurd h2 (Nat.not_lt_zero _)) (fun _ ih a0 a5 a6 h2 h3=>hs _ a0 a5 a6 h3 fun a0' a5' a6' h4 h5=>ih a0' a5' a6' (by omega) h4) big a0 a5 a6 (by have:=jp;omega) h0
theorem xe2 {a0:Int}(mu:Int→Y4→Int→Nat) (Inv:Int→Y4→Int→Prop){res:Z5}
 (hs:∀(rc:T112) (a2:Int) (a7:Y4) (a8:Int),Inv a2 a7 a8→(∀(a2':Int) (a7':Y4) (a8':Int),Inv a2' a7' a8'→mu a2' a7' a8'<mu a2 a7 a8→rc a0 a2' a7' a8'=res)→wgm rc wgl a0 a2 a7 a8=res)
 (a2:Int) (a7:Y4) (a8:Int) (hm:mu a2 a7 a8≤500000000000) (h0:Inv a2 a7 a8):wrn big a0 a2 a7 a8=res :=
 muR (fun m=>∀(a2:Int) (a7:Y4) (a8:Int),mu a2 a7 a8<m→Inv a2 a7 a8→wro big wgl m a0 a2 a7 a8=res) (fun a2 a7 a8 h2 _=>absurd h2 (Nat.not_lt_zero _)) (fun _ ih a2 a7 a8 h2 h3=>hs _ a2 a7 a8 h3 fun a2' a7' a8' h4 h5=>ih a2' a7' a8' (by omega) h4) big a2 a7 a8 (by have:=jp;omega) h0
theorem xe3 {a1:Int}{a2:Y4}{a3:Y7}(cnt:Nat) (Inv:T103){res:Z4}(hn:cnt≤500000000000)
 (hs:∀(rc:T78) (i:Nat) (a7:Int),i<cnt→Inv i a7→(∀(a7':Int),Inv (i+1) a7'→rc a1 a2 a3 a7' ((i+1:Nat):Int)=res)→wgo rc wci a1 a2 a3 a7 (i:Int)=res)
 (he:∀(rc:T78) (a7:Int),Inv cnt a7→wgo rc wci a1 a2 a3 a7 (cnt:Int)=res)
 (i0:Nat) (hi:i0≤cnt) (a7:Int) (h0:Inv i0 a7):wrp big a1 a2 a3 a7 (i0:Int)=res :=
 idxB (fun m i=>∀(a7:Int),Inv i a7→wrq big wci m a1 a2 a3 a7 (i:Int)=res) (fun _ i hl ih a7 h=>hs _ i a7 hl h ih) (fun _ a7 h=>he _ a7 h) i0 hi hn a7 h0
theorem xe4 {a1:Y4}{a2:Y7}(cnt:Nat) (Inv:T25){Q:Z5→Prop}(hn:cnt≤500000000000)
 (hs:∀(rc:T23) (i:Nat) (a5:Y4),i<cnt→Inv i a5→(∀(a5':Y4),Inv (i+1) a5'→Q (rc a1 a2 a5' ((i+1:Nat):Int)))→Q (wco (wgp big rc yg) yg a1 a2 a5 (i:Int)))
 (he:∀(rc:T23) (a5:Y4),Inv cnt a5→Q (wco (wgp big rc yg) yg a1 a2 a5 (cnt:Int)))
 (i0:Nat) (hi:i0≤cnt) (a5:Y4) (h0:Inv i0 a5):Q (wrr big a1 a2 a5 (i0:Int)) :=
 idxB (fun m i=>∀(a5:Y4),Inv i a5→Q (wrs big yg m a1 a2 a5 (i:Int))) (fun _ i hl ih a5 h=>hs _ i a5 hl h ih) (fun _ a5 h=>he _ a5 h) i0 hi hn a5 h0
theorem xe5 {rec:T23}{k:T77}{a1:Y4}{a2:Y7}{a6:Int}(cnt:Nat) (Inv:T25){Q:Z5→Prop}(hn:cnt≤500000000000)
 (hs:∀(rc:T22) (i:Nat) (a5:Y4),i<cnt→Inv i a5→(∀(a5':Y4),Inv (i+1) a5'→Q (rc a1 a2 a5' a6 ((i+1:Nat):Int)))→Q (wcp (wcl big rc (yh rec)) (yh rec) a1 a2 a5 a6 (i:Int)))
 (he:∀(rc:T22) (a5:Y4),Inv cnt a5→Q (wcp (wcl big rc (yh rec)) (yh rec) a1 a2 a5 a6 (cnt:Int)))
 (i0:Nat) (hi:i0≤cnt) (a5:Y4) (h0:Inv i0 a5):Q (wgp big rec k a1 a2 a5 a6 (i0:Int)) :=
 idxB (fun m i=>∀(a5:Y4),Inv i a5→Q (wrt big (yh rec) m a1 a2 a5 a6 (i:Int))) (fun _ i hl ih a5 h=>hs _ i a5 hl h ih) (fun _ a5 h=>he _ a5 h) i0 hi hn a5 h0
theorem xcb {rec:T22}{k:T23}{a1:Y4}{a2:Y7}{a6:Int}{a7:Int}{a8:Y4}(cnt:Nat) (Inv:T25){Q:Z5→Prop}(hn:cnt≤500000000000)
 (hs:∀(rc:T51) (i:Nat) (a5:Y4),i<cnt→Inv i a5→(∀(a5':Y4),Inv (i+1) a5'→Q (rc a1 a2 a5' a6 a7 a8 ((i+1:Nat):Int)))→Q (wcn rc (zi rec) a1 a2 a5 a6 a7 a8 (i:Int)))
 (he:∀(rc:T51) (a5:Y4),Inv cnt a5→Q (wcn rc (zi rec) a1 a2 a5 a6 a7 a8 (cnt:Int)))
 (i0:Nat) (hi:i0≤cnt) (a5:Y4) (h0:Inv i0 a5):Q (wcl big rec k a1 a2 a5 a6 a7 a8 (i0:Int)) :=
 idxB (fun m i=>∀(a5:Y4),Inv i a5→Q (wol big (zi rec) m a1 a2 a5 a6 a7 a8 (i:Int))) (fun _ i hl ih a5 h=>hs _ i a5 hl h ih) (fun _ a5 h=>he _ a5 h) i0 hi hn a5 h0
theorem xe6 {a2:Y7}(cnt:Nat) (Inv:T25){Q:Z5→Prop}(hn:cnt≤500000000000)
 (hs:∀(rc:T114) (i:Nat) (a1:Y4),i<cnt→Inv i a1→(∀(a1':Y4),Inv (i+1) a1'→Q (rc a1' a2 ((i+1:Nat):Int)))→Q (wgr rc wcq a1 a2 (i:Int)))
 (he:∀(rc:T114) (a1:Y4),Inv cnt a1→Q (wgr rc wcq a1 a2 (cnt:Int)))
 (i0:Nat) (hi:i0≤cnt) (a1:Y4) (h0:Inv i0 a1):Q (wru big a1 a2 (i0:Int)) :=
 idxB (fun m i=>∀(a1:Y4),Inv i a1→Q (wrv big wcq m a1 a2 (i:Int))) (fun _ i hl ih a1 h=>hs _ i a1 hl h ih) (fun _ a1 h=>he _ a1 h) i0 hi hn a1 h0
theorem xe7 {a0:Y4}(cnt:Nat) (Inv:T103){Q:Z4→Prop}(hn:cnt≤500000000000)
 (hs:∀(rc:T111) (i:Nat) (a3:Int),i<cnt→Inv i a3→(∀(a3':Int),Inv (i+1) a3'→Q (rc a0 a3' ((i+1:Nat):Int)))→Q (wgu rc wgt a0 a3 (i:Int)))
 (he:∀(rc:T111) (a3:Int),Inv cnt a3→Q (wgu rc wgt a0 a3 (cnt:Int)))
 (i0:Nat) (hi:i0≤cnt) (a3:Int) (h0:Inv i0 a3):Q (wrw big a0 a3 (i0:Int)) :=
 idxB (fun m i=>∀(a3:Int),Inv i a3→Q (wrx big wgt m a0 a3 (i:Int))) (fun _ i hl ih a3 h=>hs _ i a3 hl h ih) (fun _ a3 h=>he _ a3 h) i0 hi hn a3 h0
theorem xe8 {a0:Y4}{a1:Y4}(cnt:Nat) (Inv:T12){res:Z1}(hn:cnt≤500000000000)
 (hs:∀(rc:T10) (i:Nat),i<cnt→Inv i→(Inv (i+1)→rc a0 a1 ((i+1:Nat):Int)=res)→wgw rc wcr a0 a1 (i:Int)=res)
 (he:∀(rc:T10),Inv cnt→wgw rc wcr a0 a1 (cnt:Int)=res)
 (i0:Nat) (hi:i0≤cnt) (h0:Inv i0):wry big a0 a1 (i0:Int)=res :=
 idxB (fun m i=>Inv i→wrz big wcr m a0 a1 (i:Int)=res) (fun _ i hl ih h=>hs _ i hl h ih) (fun _ h=>he _ h) i0 hi hn h0
theorem xe9 {a0:Y4}{a1:Y4}(cnt:Nat) (Inv:T12){res:Z1}(hn:cnt≤500000000000)
 (hs:∀(rc:T10) (i:Nat),i<cnt→Inv i→(Inv (i+1)→rc a0 a1 ((i+1:Nat):Int)=res)→wgy rc wcs a0 a1 (i:Int)=res)
 (he:∀(rc:T10),Inv cnt→wgy rc wcs a0 a1 (cnt:Int)=res)
 (i0:Nat) (hi:i0≤cnt) (h0:Inv i0):wr0 big a0 a1 (i0:Int)=res :=
 idxB (fun m i=>Inv i→wr2 big wcs m a0 a1 (i:Int)=res) (fun _ i hl ih h=>hs _ i hl h ih) (fun _ h=>he _ h) i0 hi hn h0
theorem xfa {a0:Y3}{a1:Y4}(cnt:Nat) (Inv:T12){Q:Option Y2→Prop}(hn:cnt≤500000000000)
 (hs:∀(rc:Y3→Y4→Int→Option Y2) (i:Nat),i<cnt→Inv i→(Inv (i+1)→Q (rc a0 a1 ((i+1:Nat):Int)))→Q (wg0 rc wae a0 a1 (i:Int)))
 (he:∀(rc:Y3→Y4→Int→Option Y2),Inv cnt→Q (wg0 rc wae a0 a1 (cnt:Int)))
 (i0:Nat) (hi:i0≤cnt) (h0:Inv i0):Q (wr3 big a0 a1 (i0:Int)) :=
 idxB (fun m i=>Inv i→Q (wr4 big wae m a0 a1 (i:Int))) (fun _ i hl ih h=>hs _ i hl h ih) (fun _ h=>he _ h) i0 hi hn h0
theorem xfb {a1:Y4}(cnt:Nat) (Inv:T25){Q:Z5→Prop}(hn:cnt≤500000000000)
 (hs:∀(rc:T115) (i:Nat) (a5:Y4),i<cnt→Inv i a5→(∀(a5':Y4),Inv (i+1) a5'→Q (rc a1 a5' ((i+1:Nat):Int)))→Q (wg3 rc wg2 a1 a5 (i:Int)))
 (he:∀(rc:T115) (a5:Y4),Inv cnt a5→Q (wg3 rc wg2 a1 a5 (cnt:Int)))
 (i0:Nat) (hi:i0≤cnt) (a5:Y4) (h0:Inv i0 a5):Q (wr5 big a1 a5 (i0:Int)) :=
 idxB (fun m i=>∀(a5:Y4),Inv i a5→Q (wr6 big wg2 m a1 a5 (i:Int))) (fun _ i hl ih a5 h=>hs _ i a5 hl h ih) (fun _ a5 h=>he _ a5 h) i0 hi hn a5 h0
theorem xfc {a1:Int}{a2:Y7}(cnt:Nat) (Inv:Nat→Y3→Prop){Q:Option Y2→Prop}(hn:cnt≤500000000000)
 (hs:∀(rc:Int→Y7→Y3→Int→Option Y2) (i:Nat) (a5:Y3),i<cnt→Inv i a5→(∀(a5':Y3),Inv (i+1) a5'→Q (rc a1 a2 a5' ((i+1:Nat):Int)))→Q (wcy (wg4 big rc (yi (xd big))) (yi (xd big)) a1 a2 a5 (i:Int)))
 (he:∀(rc:Int→Y7→Y3→Int→Option Y2) (a5:Y3),Inv cnt a5→Q (wcy (wg4 big rc (yi (xd big))) (yi (xd big)) a1 a2 a5 (cnt:Int)))
 (i0:Nat) (hi:i0≤cnt) (a5:Y3) (h0:Inv i0 a5):Q (wr7 big a1 a2 a5 (i0:Int)) :=
 idxB (fun m i=>∀(a5:Y3),Inv i a5→Q (wr8 big (yi (xd big)) m a1 a2 a5 (i:Int))) (fun _ i hl ih a5 h=>hs _ i a5 hl h ih) (fun _ a5 h=>he _ a5 h) i0 hi hn a5 h0
theorem xfd {rec:Int→Y7→Y3→Int→Option Y2}{k:Int→Y7→Y3→Option Y2}{a1:Int}{a2:Y7}{a6:Int}(cnt:Nat) (Inv:Nat→Y3→Prop){Q:Option Y2→Prop}(hn:cnt≤500000000000)
 (hs:∀(rc:Int→Y7→Y3→Int→Int→Option Y2) (i:Nat) (a5:Y3),i<cnt→Inv i a5→(∀(a5':Y3),Inv (i+1) a5'→Q (rc a1 a2 a5' a6 ((i+1:Nat):Int)))→Q (wg6 rc (wcw rec) a1 a2 a5 a6 (i:Int)))
 (he:∀(rc:Int→Y7→Y3→Int→Int→Option Y2) (a5:Y3),Inv cnt a5→Q (wg6 rc (wcw rec) a1 a2 a5 a6 (cnt:Int)))
 (i0:Nat) (hi:i0≤cnt) (a5:Y3) (h0:Inv i0 a5):Q (wg4 big rec k a1 a2 a5 a6 (i0:Int)) :=
 idxB (fun m i=>∀(a5:Y3),Inv i a5→Q (wr9 big (wcw rec) m a1 a2 a5 a6 (i:Int))) (fun _ i hl ih a5 h=>hs _ i a5 hl h ih) (fun _ a5 h=>he _ a5 h) i0 hi hn a5 h0
theorem xck {a1:Int}{a5:Y3}(cnt:Nat) (Inv:Nat→Y3→Y3→Prop){Q:Option Y2→Prop}(hn:cnt≤500000000000)
 (hs:∀(rc:Int→Y3→Y3→Y3→Int→Option Y2) (i:Nat) (a8 a9:Y3),i<cnt→Inv i a8 a9→(∀(a8':Y3) (a9':Y3),Inv (i+1) a8' a9'→Q (rc a1 a5 a8' a9' ((i+1:Nat):Int)))→Q (zk (wcu big rc xe) xe a1 a5 a8 a9 (i:Int)))
 (he:∀(rc:Int→Y3→Y3→Y3→Int→Option Y2) (a8 a9:Y3),Inv cnt a8 a9→Q (zk (wcu big rc xe) xe a1 a5 a8 a9 (cnt:Int)))
 (i0:Nat) (hi:i0≤cnt) (a8 a9:Y3) (h0:Inv i0 a8 a9):Q (xd big a1 a5 a8 a9 (i0:Int)) :=
 idxB (fun m i=>∀(a8 a9:Y3),Inv i a8 a9→Q (wom big xe m a1 a5 a8 a9 (i:Int))) (fun _ i hl ih a8 a9 h=>hs _ i a8 a9 hl h ih) (fun _ a8 a9 h=>he _ a8 a9 h) i0 hi hn a8 a9 h0
theorem xcl {rec:Int→Y3→Y3→Y3→Int→Option Y2}{k:Y3→Option Y2}{a1:Int}{a5:Y3}{a10:Int}{a46:Int}{a47:Int}{a48:Bool}(cnt:Nat) (Inv:Nat→Y3→Y3→Prop){Q:Option Y2→Prop}(hn:cnt≤500000000000)
 (hs:∀(rc:Int→Y3→Y3→Y3→Int→Int→Int→Int→Bool→Option Y2) (i:Nat) (a8 a9:Y3),i<cnt→Inv i a8 a9→(∀(a8':Y3) (a9':Y3),Inv (i+1) a8' a9'→Q (rc a1 a5 a8' a9' a10 ((i+1:Nat):Int) a46 a47 a48))→Q (wcx rc (xy rec) a1 a5 a8 a9 a10 (i:Int) a46 a47 a48))
 (he:∀(rc:Int→Y3→Y3→Y3→Int→Int→Int→Int→Bool→Option Y2) (a8 a9:Y3),Inv cnt a8 a9→Q (wcx rc (xy rec) a1 a5 a8 a9 a10 (cnt:Int) a46 a47 a48))
 (i0:Nat) (hi:i0≤cnt) (a8 a9:Y3) (h0:Inv i0 a8 a9):Q (wcu big rec k a1 a5 a8 a9 a10 (i0:Int) a46 a47 a48) :=
 idxB (fun m i=>∀(a8 a9:Y3),Inv i a8 a9→Q (won big (xy rec) m a1 a5 a8 a9 a10 (i:Int) a46 a47 a48)) (fun _ i hl ih a8 a9 h=>hs _ i a8 a9 hl h ih) (fun _ a8 a9 h=>he _ a8 a9 h) i0 hi hn a8 a9 h0
theorem xfe {a0:Int}{a8:Int}(cnt:Nat) (Inv:T64){res:Z13}(hn:cnt≤500000000000)
 (hs:∀(rc:T90) (i:Nat) (a3:Y5),i<cnt→Inv i a3→(∀(a3':Y5),Inv (i+1) a3'→rc a0 a3' a8 ((i+1:Nat):Int)=res)→wg8 rc wcz a0 a3 a8 (i:Int)=res)
 (he:∀(rc:T90) (a3:Y5),Inv cnt a3→wg8 rc wcz a0 a3 a8 (cnt:Int)=res)
 (i0:Nat) (hi:i0≤cnt) (a3:Y5) (h0:Inv i0 a3):wsa big a0 a3 a8 (i0:Int)=res :=
 idxB (fun m i=>∀(a3:Y5),Inv i a3→wsb big wcz m a0 a3 a8 (i:Int)=res) (fun _ i hl ih a3 h=>hs _ i a3 hl h ih) (fun _ a3 h=>he _ a3 h) i0 hi hn a3 h0
theorem xff {a0:Y5}{a7:Int}(cnt:Nat) (Inv:T12){res:Z1}(hn:cnt≤500000000000)
 (hs:∀(rc:T38) (i:Nat),i<cnt→Inv i→(Inv (i+1)→rc a0 a7 ((i+1:Nat):Int)=res)→wc4 (whb big rc yj) yj a0 a7 (i:Int)=res)
 (he:∀(rc:T38),Inv cnt→wc4 (whb big rc yj) yj a0 a7 (cnt:Int)=res)
 (i0:Nat) (hi:i0≤cnt) (h0:Inv i0):wsk big a0 a7 (i0:Int)=res :=
 idxB (fun m i=>Inv i→wsl big yj m a0 a7 (i:Int)=res) (fun _ i hl ih h=>hs _ i hl h ih) (fun _ h=>he _ h) i0 hi hn h0
theorem xfg {rec:T38}{k:Z1}{a0:Y5}{a3:Int}{a7:Int}{a8:Int}{a20:Int}(cnt:Nat) (Inv:T12){res:Z1}(hn:cnt≤500000000000)
 (hs:∀(rc:T9) (i:Nat),i<cnt→Inv i→(Inv (i+1)→rc a0 a3 a7 a8 a20 ((i+1:Nat):Int)=res)→wc5 (zl big rc (xk rec)) (xk rec) a0 a3 a7 a8 a20 (i:Int)=res)
 (he:∀(rc:T9),Inv cnt→wc5 (zl big rc (xk rec)) (xk rec) a0 a3 a7 a8 a20 (cnt:Int)=res)
 (i0:Nat) (hi:i0≤cnt) (h0:Inv i0):whb big rec k a0 a3 a7 a8 a20 (i0:Int)=res :=
 idxB (fun m i=>Inv i→wsm big (xk rec) m a0 a3 a7 a8 a20 (i:Int)=res) (fun _ i hl ih h=>hs _ i hl h ih) (fun _ h=>he _ h) i0 hi hn h0
theorem xcp {rec:T9}{k:T38}{a0:Y5}{a3:Int}{a4:Int}{a7:Int}{a8:Int}{a20:Int}{a21:Int}{a46:Int}(cnt:Nat) (Inv:T12){res:Z1}(hn:cnt≤500000000000)
 (hs:∀(rc:T27) (i:Nat),i<cnt→Inv i→(Inv (i+1)→rc a0 a3 a4 a7 a8 a20 a21 a46 ((i+1:Nat):Int)=res)→wc3 rc (zm rec) a0 a3 a4 a7 a8 a20 a21 a46 (i:Int)=res)
 (he:∀(rc:T27),Inv cnt→wc3 rc (zm rec) a0 a3 a4 a7 a8 a20 a21 a46 (cnt:Int)=res)
 (i0:Nat) (hi:i0≤cnt) (h0:Inv i0):zl big rec k a0 a3 a4 a7 a8 a20 a21 a46 (i0:Int)=res :=
 idxB (fun m i=>Inv i→woo big (zm rec) m a0 a3 a4 a7 a8 a20 a21 a46 (i:Int)=res) (fun _ i hl ih h=>hs _ i hl h ih) (fun _ h=>he _ h) i0 hi hn h0
theorem xfh {a4:Int}{a18:Y3}{a19:Int}(cnt:Nat) (Inv:T64){res:Z10}(hn:cnt≤500000000000)
 (hs:∀(rc:T40) (i:Nat) (a5:Y5),i<cnt→Inv i a5→(∀(a5':Y5),Inv (i+1) a5'→rc a4 a5' a18 a19 ((i+1:Nat):Int)=res)→wda (wc7 big rc yk) yk a4 a5 a18 a19 (i:Int)=res)
 (he:∀(rc:T40) (a5:Y5),Inv cnt a5→wda (wc7 big rc yk) yk a4 a5 a18 a19 (cnt:Int)=res)
 (i0:Nat) (hi:i0≤cnt) (a5:Y5) (h0:Inv i0 a5):wsn big a4 a5 a18 a19 (i0:Int)=res :=
 idxB (fun m i=>∀(a5:Y5),Inv i a5→wso big yk m a4 a5 a18 a19 (i:Int)=res) (fun _ i hl ih a5 h=>hs _ i a5 hl h ih) (fun _ a5 h=>he _ a5 h) i0 hi hn a5 h0
theorem xcs {rec:T40}{k:Y5→Z10}{a4:Int}{a6:Int}{a18:Y3}{a19:Int}{a20:Int}{a29:Y4}{a30:Int}{a31:Bool}{a32:Bool}{a34:Y4}{a35:Int}(cnt:Nat) (Inv:T64){res:Z10}(hn:cnt≤500000000000)
 (hs:∀(rc:T8) (i:Nat) (a5:Y5),i<cnt→Inv i a5→(∀(a5':Y5),Inv (i+1) a5'→rc a4 a5' a6 a18 a19 a20 a29 a30 a31 a32 a34 a35 ((i+1:Nat):Int)=res)→wc9 rc (zn rec) a4 a5 a6 a18 a19 a20 a29 a30 a31 a32 a34 a35 (i:Int)=res)
 (he:∀(rc:T8) (a5:Y5),Inv cnt a5→wc9 rc (zn rec) a4 a5 a6 a18 a19 a20 a29 a30 a31 a32 a34 a35 (cnt:Int)=res)
 (i0:Nat) (hi:i0≤cnt) (a5:Y5) (h0:Inv i0 a5):wc7 big rec k a4 a5 a6 a18 a19 a20 a29 a30 a31 a32 a34 a35 (i0:Int)=res :=
 idxB (fun m i=>∀(a5:Y5),Inv i a5→wop big (zn rec) m a4 a5 a6 a18 a19 a20 a29 a30 a31 a32 a34 a35 (i:Int)=res) (fun _ i hl ih a5 h=>hs _ i a5 hl h ih) (fun _ a5 h=>he _ a5 h) i0 hi hn a5 h0
theorem xfi {a0:Y5}{a1:Y4}{a10:Y4}{a11:Int}(cnt:Nat) (Inv:T12){res:Z4}(hn:cnt≤500000000000)
 (hs:∀(rc:T45) (i:Nat),i<cnt→Inv i→(Inv (i+1)→rc a0 a1 a10 a11 ((i+1:Nat):Int)=res)→wdd (whc big rc yl) yl a0 a1 a10 a11 (i:Int)=res)
 (he:∀(rc:T45),Inv cnt→wdd (whc big rc yl) yl a0 a1 a10 a11 (cnt:Int)=res)
 (i0:Nat) (hi:i0≤cnt) (h0:Inv i0):wsp big a0 a1 a10 a11 (i0:Int)=res :=
 idxB (fun m i=>Inv i→wsq big yl m a0 a1 a10 a11 (i:Int)=res) (fun _ i hl ih h=>hs _ i hl h ih) (fun _ h=>he _ h) i0 hi hn h0
theorem xfj {rec:T45}{k:Z4}{a0:Y5}{a1:Y4}{a6:Int}{a10:Y4}{a11:Int}{a12:Int}{a16:Y4}{a17:Int}(cnt:Nat) (Inv:Nat→Bool→Prop){res:Z4}(hn:cnt≤500000000000)
 (hs:∀(rc:T20) (i:Nat) (a7:Bool),i<cnt→Inv i a7→(∀(a7':Bool),Inv (i+1) a7'→rc a0 a1 a6 a7' a10 a11 a12 a16 a17 ((i+1:Nat):Int)=res)→whe rc (wdc rec) a0 a1 a6 a7 a10 a11 a12 a16 a17 (i:Int)=res)
 (he:∀(rc:T20) (a7:Bool),Inv cnt a7→whe rc (wdc rec) a0 a1 a6 a7 a10 a11 a12 a16 a17 (cnt:Int)=res)
 (i0:Nat) (hi:i0≤cnt) (a7:Bool) (h0:Inv i0 a7):whc big rec k a0 a1 a6 a7 a10 a11 a12 a16 a17 (i0:Int)=res :=
 idxB (fun m i=>∀(a7:Bool),Inv i a7→wsr big (wdc rec) m a0 a1 a6 a7 a10 a11 a12 a16 a17 (i:Int)=res) (fun _ i hl ih a7 h=>hs _ i a7 hl h ih) (fun _ a7 h=>he _ a7 h) i0 hi hn a7 h0
theorem xfk {a1:(Y5×Z0)}{a9:Int}(cnt:Nat) (Inv:T25){res:Z5}(hn:cnt≤500000000000)
 (hs:∀(rc:T18) (i:Nat) (a5:Y4),i<cnt→Inv i a5→(∀(a5':Y4),Inv (i+1) a5'→rc a1 a5' a9 ((i+1:Nat):Int)=res)→whg rc wde a1 a5 a9 (i:Int)=res)
 (he:∀(rc:T18) (a5:Y4),Inv cnt a5→whg rc wde a1 a5 a9 (cnt:Int)=res)
 (i0:Nat) (hi:i0≤cnt) (a5:Y4) (h0:Inv i0 a5):wss big a1 a5 a9 (i0:Int)=res :=
 idxB (fun m i=>∀(a5:Y4),Inv i a5→wst big wde m a1 a5 a9 (i:Int)=res) (fun _ i hl ih a5 h=>hs _ i a5 hl h ih) (fun _ a5 h=>he _ a5 h) i0 hi hn a5 h0
theorem xfm {a1:Y5}{a11:Int}(cnt:Nat) (Inv:Nat→Y3→Prop){res:Z9}(hn:cnt≤500000000000)
 (hs:∀(rc:T63) (i:Nat) (a4:Y3),i<cnt→Inv i a4→(∀(a4':Y3),Inv (i+1) a4'→rc a1 a4' a11 ((i+1:Nat):Int)=res)→wdh (whh big rc ym) ym a1 a4 a11 (i:Int)=res)
 (he:∀(rc:T63) (a4:Y3),Inv cnt a4→wdh (whh big rc ym) ym a1 a4 a11 (cnt:Int)=res)
 (i0:Nat) (hi:i0≤cnt) (a4:Y3) (h0:Inv i0 a4):wsu big a1 a4 a11 (i0:Int)=res :=
 idxB (fun m i=>∀(a4:Y3),Inv i a4→wsv big ym m a1 a4 a11 (i:Int)=res) (fun _ i hl ih a4 h=>hs _ i a4 hl h ih) (fun _ a4 h=>he _ a4 h) i0 hi hn a4 h0
theorem xfn {rec:T63}{k:Y3→Z9}{a1:Y5}{a4:Y3}{a5:Int}{a11:Int}{a12:Int}{a17:Int}(cnt:Nat) (Inv:T25){res:Z9}(hn:cnt≤500000000000)
 (hs:∀(rc:T37) (i:Nat) (a6:Y4),i<cnt→Inv i a6→(∀(a6':Y4),Inv (i+1) a6'→rc a1 a4 a5 a6' a11 a12 a17 ((i+1:Nat):Int)=res)→whj rc (wdg rec) a1 a4 a5 a6 a11 a12 a17 (i:Int)=res)
 (he:∀(rc:T37) (a6:Y4),Inv cnt a6→whj rc (wdg rec) a1 a4 a5 a6 a11 a12 a17 (cnt:Int)=res)
 (i0:Nat) (hi:i0≤cnt) (a6:Y4) (h0:Inv i0 a6):whh big rec k a1 a4 a5 a6 a11 a12 a17 (i0:Int)=res :=
 idxB (fun m i=>∀(a6:Y4),Inv i a6→wsw big (wdg rec) m a1 a4 a5 a6 a11 a12 a17 (i:Int)=res) (fun _ i hl ih a6 h=>hs _ i a6 hl h ih) (fun _ a6 h=>he _ a6 h) i0 hi hn a6 h0
theorem xfo {a0:Y5}{a10:Int}(cnt:Nat) (Inv:T64){res:Z13}(hn:cnt≤500000000000)
 (hs:∀(rc:T30) (i:Nat) (a3:Y5),i<cnt→Inv i a3→(∀(a3':Y5),Inv (i+1) a3'→rc a0 a3' a10 ((i+1:Nat):Int)=res)→wdk (whk big rc yn) yn a0 a3 a10 (i:Int)=res)
 (he:∀(rc:T30) (a3:Y5),Inv cnt a3→wdk (whk big rc yn) yn a0 a3 a10 (cnt:Int)=res)
 (i0:Nat) (hi:i0≤cnt) (a3:Y5) (h0:Inv i0 a3):wsx big a0 a3 a10 (i0:Int)=res :=
 idxB (fun m i=>∀(a3:Y5),Inv i a3→wsy big yn m a0 a3 a10 (i:Int)=res) (fun _ i hl ih a3 h=>hs _ i a3 hl h ih) (fun _ a3 h=>he _ a3 h) i0 hi hn a3 h0
theorem xfp {rec:T30}{k:Y5→Z13}{a0:Y5}{a4:Int}{a10:Int}{a11:Int}{a15:Int}(cnt:Nat) (Inv:T64){res:Z13}(hn:cnt≤500000000000)
 (hs:∀(rc:T46) (i:Nat) (a3:Y5),i<cnt→Inv i a3→(∀(a3':Y5),Inv (i+1) a3'→rc a0 a3' a4 a10 a11 a15 ((i+1:Nat):Int)=res)→whm rc (wdj rec) a0 a3 a4 a10 a11 a15 (i:Int)=res)
 (he:∀(rc:T46) (a3:Y5),Inv cnt a3→whm rc (wdj rec) a0 a3 a4 a10 a11 a15 (cnt:Int)=res)
 (i0:Nat) (hi:i0≤cnt) (a3:Y5) (h0:Inv i0 a3):whk big rec k a0 a3 a4 a10 a11 a15 (i0:Int)=res :=
 idxB (fun m i=>∀(a3:Y5),Inv i a3→wsz big (wdj rec) m a0 a3 a4 a10 a11 a15 (i:Int)=res) (fun _ i hl ih a3 h=>hs _ i a3 hl h ih) (fun _ a3 h=>he _ a3 h) i0 hi hn a3 h0
theorem xfq {a2:Y6}{a7:Y3}{a8:Int}(cnt:Nat) (Inv:Nat→Y6→Prop){res:Option (Y6×Unit)}(hn:cnt≤500000000000)
 (hs:∀(rc:Y6→Y6→Y3→Int→Int→Option (Y6×Unit)) (i:Nat) (a3:Y6),i<cnt→Inv i a3→(∀(a3':Y6),Inv (i+1) a3'→rc a2 a3' a7 a8 ((i+1:Nat):Int)=res)→who rc wdl a2 a3 a7 a8 (i:Int)=res)
 (he:∀(rc:Y6→Y6→Y3→Int→Int→Option (Y6×Unit)) (a3:Y6),Inv cnt a3→who rc wdl a2 a3 a7 a8 (cnt:Int)=res)
 (i0:Nat) (hi:i0≤cnt) (a3:Y6) (h0:Inv i0 a3):ws0 big a2 a3 a7 a8 (i0:Int)=res :=
 idxB (fun m i=>∀(a3:Y6),Inv i a3→ws1 big wdl m a2 a3 a7 a8 (i:Int)=res) (fun _ i hl ih a3 h=>hs _ i a3 hl h ih) (fun _ a3 h=>he _ a3 h) i0 hi hn a3 h0
theorem xfr {a1:Y4}{a11:Y4}{a12:Int}(cnt:Nat) (Inv:T12){res:Z1}(hn:cnt≤500000000000)
 (hs:∀(rc:T96) (i:Nat),i<cnt→Inv i→(Inv (i+1)→rc a1 a11 a12 ((i+1:Nat):Int)=res)→whq rc wdm a1 a11 a12 (i:Int)=res)
 (he:∀(rc:T96),Inv cnt→whq rc wdm a1 a11 a12 (cnt:Int)=res)
 (i0:Nat) (hi:i0≤cnt) (h0:Inv i0):ws2 big a1 a11 a12 (i0:Int)=res :=
 idxB (fun m i=>Inv i→ws3 big wdm m a1 a11 a12 (i:Int)=res) (fun _ i hl ih h=>hs _ i hl h ih) (fun _ h=>he _ h) i0 hi hn h0
theorem xfs {a1:Int}{a2:Int}{a25:Int}(cnt:Nat) (Inv:T25){res:Z7}(hn:cnt≤500000000000)
 (hs:∀(rc:T74) (i:Nat) (a0:Y4),i<cnt→Inv i a0→(∀(a0':Y4),Inv (i+1) a0'→rc a0' a1 a2 a25 ((i+1:Nat):Int)=res)→whs rc wdn a0 a1 a2 a25 (i:Int)=res)
 (he:∀(rc:T74) (a0:Y4),Inv cnt a0→whs rc wdn a0 a1 a2 a25 (cnt:Int)=res)
 (i0:Nat) (hi:i0≤cnt) (a0:Y4) (h0:Inv i0 a0):wms big a0 a1 a2 a25 (i0:Int)=res :=
 idxB (fun m i=>∀(a0:Y4),Inv i a0→ws4 big wdn m a0 a1 a2 a25 (i:Int)=res) (fun _ i hl ih a0 h=>hs _ i a0 hl h ih) (fun _ a0 h=>he _ a0 h) i0 hi hn a0 h0
theorem xfu {a2:Y7}(mu:Y4→Bool→Bool→Nat) (Inv:Y4→Bool→Bool→Prop){Q:Z7→Prop}
 (hs:∀(rc:T24) (a1:Y4) (a5 a6:Bool),Inv a1 a5 a6→(∀(a1':Y4) (a5':Bool) (a6':Bool),Inv a1' a5' a6'→mu a1' a5' a6'<mu a1 a5 a6→Q (rc a1' a2 a5' a6'))→Q (wmz (wmu big rc wht) wht a1 a2 a5 a6))
 (a1:Y4) (a5 a6:Bool) (hm:mu a1 a5 a6≤500000000000) (h0:Inv a1 a5 a6):Q (ws5 big a1 a2 a5 a6) :=
 muR (fun m=>∀(a1:Y4) (a5 a6:Bool),mu a1 a5 a6<m→Inv a1 a5 a6→Q (ws6 big wht m a1 a2 a5 a6)) (fun a1 a5 a6 h2 _=>absurd h2 (Nat.not_lt_zero _)) (fun _ ih a1 a5 a6 h2 h3=>hs _ a1 a5 a6 h3 fun a1' a5' a6' h4 h5=>ih a1' a5' a6' (by omega) h4) big a1 a5 a6 (by have:=jp;omega) h0
theorem xft {rec:T24}{k:Y4→Bool→Z7}{a2:Y7}{a16:(List Y6)}{a17:Int}(cnt:Nat) (Inv:Nat→Y4→Bool→Bool→Prop){Q:Z7→Prop}(hn:cnt≤500000000000)
 (hs:∀(rc:T2) (i:Nat) (a1:Y4) (a5 a6:Bool),i<cnt→Inv i a1 a5 a6→(∀(a1':Y4) (a5':Bool) (a6':Bool),Inv (i+1) a1' a5' a6'→Q (rc a1' a2 a5' a6' a16 a17 ((i+1:Nat):Int)))→Q (wdu (wdq big rc (yo rec)) (yo rec) a1 a2 a5 a6 a16 a17 (i:Int)))
 (he:∀(rc:T2) (a1:Y4) (a5 a6:Bool),Inv cnt a1 a5 a6→Q (wdu (wdq big rc (yo rec)) (yo rec) a1 a2 a5 a6 a16 a17 (cnt:Int)))
 (i0:Nat) (hi:i0≤cnt) (a1:Y4) (a5 a6:Bool) (h0:Inv i0 a1 a5 a6):Q (wmu big rec k a1 a2 a5 a6 a16 a17 (i0:Int)) :=
 idxB (fun m i=>∀(a1:Y4) (a5 a6:Bool),Inv i a1 a5 a6→Q (ws7 big (yo rec) m a1 a2 a5 a6 a16 a17 (i:Int))) (fun _ i hl ih a1 a5 a6 h=>hs _ i a1 a5 a6 hl h ih) (fun _ a1 a5 a6 h=>he _ a1 a5 a6 h) i0 hi hn a1 a5 a6 h0
theorem xc6 {rec:T2}{k:T24}{a2:Y7}{a8:Y6}{a16:(List Y6)}{a17:Int}{a18:Int}(cnt:Nat) (Inv:Nat→Y4→Bool→Bool→Int→Prop){Q:Z7→Prop}(hn:cnt≤500000000000)
 (hs:∀(rc:T0) (i:Nat) (a1:Y4) (a5 a6:Bool) (a9:Int),i<cnt→Inv i a1 a5 a6 a9→(∀(a1':Y4) (a5':Bool) (a6':Bool) (a9':Int),Inv (i+1) a1' a5' a6' a9'→Q (rc a1' a2 a5' a6' a8 a9' ((i+1:Nat):Int) a16 a17 a18))→Q (zq (wdr big rc (xf rec)) (xf rec) a1 a2 a5 a6 a8 a9 (i:Int) a16 a17 a18))
 (he:∀(rc:T0) (a1:Y4) (a5 a6:Bool) (a9:Int),Inv cnt a1 a5 a6 a9→Q (zq (wdr big rc (xf rec)) (xf rec) a1 a2 a5 a6 a8 a9 (cnt:Int) a16 a17 a18))
 (i0:Nat) (hi:i0≤cnt) (a1:Y4) (a5 a6:Bool) (a9:Int) (h0:Inv i0 a1 a5 a6 a9):Q (wdq big rec k a1 a2 a5 a6 a8 a9 (i0:Int) a16 a17 a18) :=
 idxB (fun m i=>∀(a1:Y4) (a5 a6:Bool) (a9:Int),Inv i a1 a5 a6 a9→Q (woq big (xf rec) m a1 a2 a5 a6 a8 a9 (i:Int) a16 a17 a18)) (fun _ i hl ih a1 a5 a6 a9 h=>hs _ i a1 a5 a6 a9 hl h ih) (fun _ a1 a5 a6 a9 h=>he _ a1 a5 a6 a9 h) i0 hi hn a1 a5 a6 a9 h0
theorem xc7 {rec:T0}{k:T2}{a2:Y7}{a8:Y6}{a9:Int}{a10:Int}{a16:(List Y6)}{a17:Int}{a18:Int}{a29:Y4}{a30:Int}(cnt:Nat) (Inv:Nat→Y4→Bool→Bool→Prop){Q:Z7→Prop}(hn:cnt≤500000000000)
 (hs:∀(rc:T6) (i:Nat) (a1:Y4) (a5 a6:Bool),i<cnt→Inv i a1 a5 a6→(∀(a1':Y4) (a5':Bool) (a6':Bool),Inv (i+1) a1' a5' a6'→Q (rc a1' a2 a5' a6' a8 a9 a10 a16 a17 a18 a29 a30 ((i+1:Nat):Int)))→Q (wdt rc (zp rec) a1 a2 a5 a6 a8 a9 a10 a16 a17 a18 a29 a30 (i:Int)))
 (he:∀(rc:T6) (a1:Y4) (a5 a6:Bool),Inv cnt a1 a5 a6→Q (wdt rc (zp rec) a1 a2 a5 a6 a8 a9 a10 a16 a17 a18 a29 a30 (cnt:Int)))
 (i0:Nat) (hi:i0≤cnt) (a1:Y4) (a5 a6:Bool) (h0:Inv i0 a1 a5 a6):Q (wdr big rec k a1 a2 a5 a6 a8 a9 a10 a16 a17 a18 a29 a30 (i0:Int)) :=
 idxB (fun m i=>∀(a1:Y4) (a5 a6:Bool),Inv i a1 a5 a6→Q (wor big (zp rec) m a1 a2 a5 a6 a8 a9 a10 a16 a17 a18 a29 a30 (i:Int))) (fun _ i hl ih a1 a5 a6 h=>hs _ i a1 a5 a6 hl h ih) (fun _ a1 a5 a6 h=>he _ a1 a5 a6 h) i0 hi hn a1 a5 a6 h0
theorem xfv {a0:Y1}{a9:Int}(cnt:Nat) (Inv:T103){res:Z4}(hn:cnt≤500000000000)
 (hs:∀(rc:T31) (i:Nat) (a3:Int),i<cnt→Inv i a3→(∀(a3':Int),Inv (i+1) a3'→rc a0 a3' a9 ((i+1:Nat):Int)=res)→whv rc wdv a0 a3 a9 (i:Int)=res)
 (he:∀(rc:T31) (a3:Int),Inv cnt a3→whv rc wdv a0 a3 a9 (cnt:Int)=res)
 (i0:Nat) (hi:i0≤cnt) (a3:Int) (h0:Inv i0 a3):ws8 big a0 a3 a9 (i0:Int)=res :=
 idxB (fun m i=>∀(a3:Int),Inv i a3→ws9 big wdv m a0 a3 a9 (i:Int)=res) (fun _ i hl ih a3 h=>hs _ i a3 hl h ih) (fun _ a3 h=>he _ a3 h) i0 hi hn a3 h0
theorem xfw {a0:Y1}{a10:Y4}{a11:Int}(cnt:Nat) (Inv:T103){res:Z4}(hn:cnt≤500000000000)
 (hs:∀(rc:T19) (i:Nat) (a5:Int),i<cnt→Inv i a5→(∀(a5':Int),Inv (i+1) a5'→rc a0 a5' a10 a11 ((i+1:Nat):Int)=res)→whx rc wdw a0 a5 a10 a11 (i:Int)=res)
 (he:∀(rc:T19) (a5:Int),Inv cnt a5→whx rc wdw a0 a5 a10 a11 (cnt:Int)=res)
 (i0:Nat) (hi:i0≤cnt) (a5:Int) (h0:Inv i0 a5):wta big a0 a5 a10 a11 (i0:Int)=res :=
 idxB (fun m i=>∀(a5:Int),Inv i a5→wtb big wdw m a0 a5 a10 a11 (i:Int)=res) (fun _ i hl ih a5 h=>hs _ i a5 hl h ih) (fun _ a5 h=>he _ a5 h) i0 hi hn a5 h0
theorem xfx {a0:Y1}{a9:Int}(cnt:Nat) (Inv:T103){res:Z4}(hn:cnt≤500000000000)
 (hs:∀(rc:T31) (i:Nat) (a3:Int),i<cnt→Inv i a3→(∀(a3':Int),Inv (i+1) a3'→rc a0 a3' a9 ((i+1:Nat):Int)=res)→whz rc wdx a0 a3 a9 (i:Int)=res)
 (he:∀(rc:T31) (a3:Int),Inv cnt a3→whz rc wdx a0 a3 a9 (cnt:Int)=res)
 (i0:Nat) (hi:i0≤cnt) (a3:Int) (h0:Inv i0 a3):wtc big a0 a3 a9 (i0:Int)=res :=
 idxB (fun m i=>∀(a3:Int),Inv i a3→wtd big wdx m a0 a3 a9 (i:Int)=res) (fun _ i hl ih a3 h=>hs _ i a3 hl h ih) (fun _ a3 h=>he _ a3 h) i0 hi hn a3 h0
theorem xfy {a0:Y1}{a10:Y4}{a11:Int}(cnt:Nat) (Inv:T103){res:Z4}(hn:cnt≤500000000000)
 (hs:∀(rc:T19) (i:Nat) (a5:Int),i<cnt→Inv i a5→(∀(a5':Int),Inv (i+1) a5'→rc a0 a5' a10 a11 ((i+1:Nat):Int)=res)→wh1 rc wdy a0 a5 a10 a11 (i:Int)=res)
 (he:∀(rc:T19) (a5:Int),Inv cnt a5→wh1 rc wdy a0 a5 a10 a11 (cnt:Int)=res)
 (i0:Nat) (hi:i0≤cnt) (a5:Int) (h0:Inv i0 a5):wte big a0 a5 a10 a11 (i0:Int)=res :=
 idxB (fun m i=>∀(a5:Int),Inv i a5→wtf big wdy m a0 a5 a10 a11 (i:Int)=res) (fun _ i hl ih a5 h=>hs _ i a5 hl h ih) (fun _ a5 h=>he _ a5 h) i0 hi hn a5 h0
theorem xfz {a6:Y1}{a28:Y3}{a29:Int}(cnt:Nat) (Inv:T52){res:Z2}(hn:cnt≤500000000000)
 (hs:∀(rc:T80) (i:Nat) (a8:Z8),i<cnt→Inv i a8→(∀(a8':Z8),Inv (i+1) a8'→rc a6 a8' a28 a29 ((i+1:Nat):Int)=res)→wh3 rc wdz a6 a8 a28 a29 (i:Int)=res)
 (he:∀(rc:T80) (a8:Z8),Inv cnt a8→wh3 rc wdz a6 a8 a28 a29 (cnt:Int)=res)
 (i0:Nat) (hi:i0≤cnt) (a8:Z8) (h0:Inv i0 a8):wm4 big a6 a8 a28 a29 (i0:Int)=res :=
 idxB (fun m i=>∀(a8:Z8),Inv i a8→wtg big wdz m a6 a8 a28 a29 (i:Int)=res) (fun _ i hl ih a8 h=>hs _ i a8 hl h ih) (fun _ a8 h=>he _ a8 h) i0 hi hn a8 h0
theorem xf0 {a0:Int}{a1:Y4}(cnt:Nat) (Inv:T12){res:Z1}(hn:cnt≤500000000000)
 (hs:∀(rc:T55) (i:Nat),i<cnt→Inv i→(Inv (i+1)→rc a0 a1 ((i+1:Nat):Int)=res)→wh5 rc wd0 a0 a1 (i:Int)=res)
 (he:∀(rc:T55),Inv cnt→wh5 rc wd0 a0 a1 (cnt:Int)=res)
 (i0:Nat) (hi:i0≤cnt) (h0:Inv i0):wth big a0 a1 (i0:Int)=res :=
 idxB (fun m i=>Inv i→wti big wd0 m a0 a1 (i:Int)=res) (fun _ i hl ih h=>hs _ i hl h ih) (fun _ h=>he _ h) i0 hi hn h0
theorem xf1 {a0:Y4}(cnt:Nat) (Inv:Nat→Y3→Prop){res:Option Y2}(hn:cnt≤500000000000)
 (hs:∀(rc:Y4→Y3→Int→Option Y2) (i:Nat) (a3:Y3),i<cnt→Inv i a3→(∀(a3':Y3),Inv (i+1) a3'→rc a0 a3' ((i+1:Nat):Int)=res)→wd2 rc (wh6 big rc yq) yq a0 a3 (i:Int)=res)
 (he:∀(rc:Y4→Y3→Int→Option Y2) (a3:Y3),Inv cnt a3→wd2 rc (wh6 big rc yq) yq a0 a3 (cnt:Int)=res)
 (i0:Nat) (hi:i0≤cnt) (a3:Y3) (h0:Inv i0 a3):wtj big a0 a3 (i0:Int)=res :=
 idxB (fun m i=>∀(a3:Y3),Inv i a3→wtk big yq m a0 a3 (i:Int)=res) (fun _ i hl ih a3 h=>hs _ i a3 hl h ih) (fun _ a3 h=>he _ a3 h) i0 hi hn a3 h0
theorem xf2 {rec:Y4→Y3→Int→Option Y2}{k:Y3→Option Y2}{a0:Y4}{a3:Y3}{a4:Int}(cnt:Nat) (Inv:T25){res:Option Y2}(hn:cnt≤500000000000)
 (hs:∀(rc:Y4→Y3→Int→Y4→Int→Option Y2) (i:Nat) (a5:Y4),i<cnt→Inv i a5→(∀(a5':Y4),Inv (i+1) a5'→rc a0 a3 a4 a5' ((i+1:Nat):Int)=res)→wh8 rc (wd1 rec) a0 a3 a4 a5 (i:Int)=res)
 (he:∀(rc:Y4→Y3→Int→Y4→Int→Option Y2) (a5:Y4),Inv cnt a5→wh8 rc (wd1 rec) a0 a3 a4 a5 (cnt:Int)=res)
 (i0:Nat) (hi:i0≤cnt) (a5:Y4) (h0:Inv i0 a5):wh6 big rec k a0 a3 a4 a5 (i0:Int)=res :=
 idxB (fun m i=>∀(a5:Y4),Inv i a5→wtl big (wd1 rec) m a0 a3 a4 a5 (i:Int)=res) (fun _ i hl ih a5 h=>hs _ i a5 hl h ih) (fun _ a5 h=>he _ a5 h) i0 hi hn a5 h0
theorem xf3 {a2:Y2}{a7:Y3}(cnt:Nat) (Inv:T52){res:Z2}(hn:cnt≤500000000000)
 (hs:∀(rc:T98) (i:Nat) (a6:Z8),i<cnt→Inv i a6→(∀(a6':Z8),Inv (i+1) a6'→rc a2 a6' a7 ((i+1:Nat):Int)=res)→wia rc wd3 a2 a6 a7 (i:Int)=res)
 (he:∀(rc:T98) (a6:Z8),Inv cnt a6→wia rc wd3 a2 a6 a7 (cnt:Int)=res)
 (i0:Nat) (hi:i0≤cnt) (a6:Z8) (h0:Inv i0 a6):wna big a2 a6 a7 (i0:Int)=res :=
 idxB (fun m i=>∀(a6:Z8),Inv i a6→wtm big wd3 m a2 a6 a7 (i:Int)=res) (fun _ i hl ih a6 h=>hs _ i a6 hl h ih) (fun _ a6 h=>he _ a6 h) i0 hi hn a6 h0
theorem xf5 {a1:(Y5×Z0)}{a9:Int}(cnt:Nat) (Inv:T25){res:Z5}(hn:cnt≤500000000000)
 (hs:∀(rc:T18) (i:Nat) (a5:Y4),i<cnt→Inv i a5→(∀(a5':Y4),Inv (i+1) a5'→rc a1 a5' a9 ((i+1:Nat):Int)=res)→wic rc wd4 a1 a5 a9 (i:Int)=res)
 (he:∀(rc:T18) (a5:Y4),Inv cnt a5→wic rc wd4 a1 a5 a9 (cnt:Int)=res)
 (i0:Nat) (hi:i0≤cnt) (a5:Y4) (h0:Inv i0 a5):wtn big a1 a5 a9 (i0:Int)=res :=
 idxB (fun m i=>∀(a5:Y4),Inv i a5→wto big wd4 m a1 a5 a9 (i:Int)=res) (fun _ i hl ih a5 h=>hs _ i a5 hl h ih) (fun _ a5 h=>he _ a5 h) i0 hi hn a5 h0
theorem xf6 {a0:Y4}{a1:Y4}(cnt:Nat) (Inv:T12){res:Z1}(hn:cnt≤500000000000)
 (hs:∀(rc:T10) (i:Nat),i<cnt→Inv i→(Inv (i+1)→rc a0 a1 ((i+1:Nat):Int)=res)→wie rc wd5 a0 a1 (i:Int)=res)
 (he:∀(rc:T10),Inv cnt→wie rc wd5 a0 a1 (cnt:Int)=res)
 (i0:Nat) (hi:i0≤cnt) (h0:Inv i0):wtp big a0 a1 (i0:Int)=res :=
 idxB (fun m i=>Inv i→wtq big wd5 m a0 a1 (i:Int)=res) (fun _ i hl ih h=>hs _ i hl h ih) (fun _ h=>he _ h) i0 hi hn h0
theorem xf7 {a0:Y5}{a1:Int}{a2:Int}{a14:Int}(cnt:Nat) (Inv:T12){res:Z1}(hn:cnt≤500000000000)
 (hs:∀(rc:T75) (i:Nat),i<cnt→Inv i→(Inv (i+1)→rc a0 a1 a2 a14 ((i+1:Nat):Int)=res)→wig rc wd6 a0 a1 a2 a14 (i:Int)=res)
 (he:∀(rc:T75),Inv cnt→wig rc wd6 a0 a1 a2 a14 (cnt:Int)=res)
 (i0:Nat) (hi:i0≤cnt) (h0:Inv i0):wtr big a0 a1 a2 a14 (i0:Int)=res :=
 idxB (fun m i=>Inv i→wts big wd6 m a0 a1 a2 a14 (i:Int)=res) (fun _ i hl ih h=>hs _ i hl h ih) (fun _ h=>he _ h) i0 hi hn h0
theorem xf9 {a0:Y5}{a8:Int}(cnt:Nat) (Inv:T52){res:Z11}(hn:cnt≤500000000000)
 (hs:∀(rc:T32) (i:Nat) (a3:Z8),i<cnt→Inv i a3→(∀(a3':Z8),Inv (i+1) a3'→rc a0 a3' a8 ((i+1:Nat):Int)=res)→wd9 (wih big rc yr) yr a0 a3 a8 (i:Int)=res)
 (he:∀(rc:T32) (a3:Z8),Inv cnt a3→wd9 (wih big rc yr) yr a0 a3 a8 (cnt:Int)=res)
 (i0:Nat) (hi:i0≤cnt) (a3:Z8) (h0:Inv i0 a3):wtt big a0 a3 a8 (i0:Int)=res :=
 idxB (fun m i=>∀(a3:Z8),Inv i a3→wtu big yr m a0 a3 a8 (i:Int)=res) (fun _ i hl ih a3 h=>hs _ i a3 hl h ih) (fun _ a3 h=>he _ a3 h) i0 hi hn a3 h0
theorem xga {rec:T32}{k:Z8→Z11}{a0:Y5}{a4:Int}{a8:Int}{a9:Int}{a13:Int}(cnt:Nat) (Inv:T52){res:Z11}(hn:cnt≤500000000000)
 (hs:∀(rc:T47) (i:Nat) (a3:Z8),i<cnt→Inv i a3→(∀(a3':Z8),Inv (i+1) a3'→rc a0 a3' a4 a8 a9 a13 ((i+1:Nat):Int)=res)→wij rc (wd8 rec) a0 a3 a4 a8 a9 a13 (i:Int)=res)
 (he:∀(rc:T47) (a3:Z8),Inv cnt a3→wij rc (wd8 rec) a0 a3 a4 a8 a9 a13 (cnt:Int)=res)
 (i0:Nat) (hi:i0≤cnt) (a3:Z8) (h0:Inv i0 a3):wih big rec k a0 a3 a4 a8 a9 a13 (i0:Int)=res :=
 idxB (fun m i=>∀(a3:Z8),Inv i a3→wtv big (wd8 rec) m a0 a3 a4 a8 a9 a13 (i:Int)=res) (fun _ i hl ih a3 h=>hs _ i a3 hl h ih) (fun _ a3 h=>he _ a3 h) i0 hi hn a3 h0
theorem xgb {a1:Y4}{a31:Z8}{a32:Int}(cnt:Nat) (Inv:T52){res:Z2}(hn:cnt≤500000000000)
 (hs:∀(rc:T81) (i:Nat) (a8:Z8),i<cnt→Inv i a8→(∀(a8':Z8),Inv (i+1) a8'→rc a1 a8' a31 a32 ((i+1:Nat):Int)=res)→wil rc wea a1 a8 a31 a32 (i:Int)=res)
 (he:∀(rc:T81) (a8:Z8),Inv cnt a8→wil rc wea a1 a8 a31 a32 (cnt:Int)=res)
 (i0:Nat) (hi:i0≤cnt) (a8:Z8) (h0:Inv i0 a8):wnm big a1 a8 a31 a32 (i0:Int)=res :=
 idxB (fun m i=>∀(a8:Z8),Inv i a8→wtw big wea m a1 a8 a31 a32 (i:Int)=res) (fun _ i hl ih a8 h=>hs _ i a8 hl h ih) (fun _ a8 h=>he _ a8 h) i0 hi hn a8 h0
theorem xgc {a1:Y4}{a7:Z8}(cnt:Nat) (Inv:T52){res:Z2}(hn:cnt≤500000000000)
 (hs:∀(rc:T99) (i:Nat) (a6:Z8),i<cnt→Inv i a6→(∀(a6':Z8),Inv (i+1) a6'→rc a1 a6' a7 ((i+1:Nat):Int)=res)→wio rc web a1 a6 a7 (i:Int)=res)
 (he:∀(rc:T99) (a6:Z8),Inv cnt a6→wio rc web a1 a6 a7 (cnt:Int)=res)
 (i0:Nat) (hi:i0≤cnt) (a6:Z8) (h0:Inv i0 a6):wno big a1 a6 a7 (i0:Int)=res :=
 idxB (fun m i=>∀(a6:Z8),Inv i a6→wtx big web m a1 a6 a7 (i:Int)=res) (fun _ i hl ih a6 h=>hs _ i a6 hl h ih) (fun _ a6 h=>he _ a6 h) i0 hi hn a6 h0
theorem xgd {a8:Y1}(cnt:Nat) (Inv:Nat→Z16→Z8→Prop){res:Z2}(hn:cnt≤500000000000)
 (hs:∀(rc:T33) (i:Nat) (a10:Z16) (a11:Z8),i<cnt→Inv i a10 a11→(∀(a10':Z16) (a11':Z8),Inv (i+1) a10' a11'→rc a8 a10' a11' ((i+1:Nat):Int)=res)→weh (zr big rc (yt (wt big))) (yt (wt big)) a8 a10 a11 (i:Int)=res)
 (he:∀(rc:T33) (a10:Z16) (a11:Z8),Inv cnt a10 a11→weh (zr big rc (yt (wt big))) (yt (wt big)) a8 a10 a11 (cnt:Int)=res)
 (i0:Nat) (hi:i0≤cnt) (a10:Z16) (a11:Z8) (h0:Inv i0 a10 a11):wnq big a8 a10 a11 (i0:Int)=res :=
 idxB (fun m i=>∀(a10:Z16) (a11:Z8),Inv i a10 a11→wty big (yt (wt big)) m a8 a10 a11 (i:Int)=res) (fun _ i hl ih a10 a11 h=>hs _ i a10 a11 hl h ih) (fun _ a10 a11 h=>he _ a10 a11 h) i0 hi hn a10 a11 h0
theorem xdo {rec:T33}{k:Y1→Z16→Z2}{a8:Y1}{a12:Int}{a52:Z8}{a53:Int}(cnt:Nat) (Inv:Nat→Z16→Z8→Prop){res:Z2}(hn:cnt≤500000000000)
 (hs:∀(rc:T48) (i:Nat) (a10:Z16) (a11:Z8),i<cnt→Inv i a10 a11→(∀(a10':Z16) (a11':Z8),Inv (i+1) a10' a11'→rc a8 a10' a11' a12 a52 a53 ((i+1:Nat):Int)=res)→wef rc (zt rec) a8 a10 a11 a12 a52 a53 (i:Int)=res)
 (he:∀(rc:T48) (a10:Z16) (a11:Z8),Inv cnt a10 a11→wef rc (zt rec) a8 a10 a11 a12 a52 a53 (cnt:Int)=res)
 (i0:Nat) (hi:i0≤cnt) (a10:Z16) (a11:Z8) (h0:Inv i0 a10 a11):zr big rec k a8 a10 a11 a12 a52 a53 (i0:Int)=res :=
 idxB (fun m i=>∀(a10:Z16) (a11:Z8),Inv i a10 a11→wos big (zt rec) m a8 a10 a11 a12 a52 a53 (i:Int)=res) (fun _ i hl ih a10 a11 h=>hs _ i a10 a11 hl h ih) (fun _ a10 a11 h=>he _ a10 a11 h) i0 hi hn a10 a11 h0
theorem xdp {a10:Z16}{a92:Z8}{a93:Int}(cnt:Nat) (Inv:T52){res:Z2}(hn:cnt≤500000000000)
 (hs:∀(rc:T79) (i:Nat) (a15:Z8),i<cnt→Inv i a15→(∀(a15':Z8),Inv (i+1) a15'→rc a10 a15' a92 a93 ((i+1:Nat):Int)=res)→weg rc zu a10 a15 a92 a93 (i:Int)=res)
 (he:∀(rc:T79) (a15:Z8),Inv cnt a15→weg rc zu a10 a15 a92 a93 (cnt:Int)=res)
 (i0:Nat) (hi:i0≤cnt) (a15:Z8) (h0:Inv i0 a15):wt big a10 a15 a92 a93 (i0:Int)=res :=
 idxB (fun m i=>∀(a15:Z8),Inv i a15→wot big zu m a10 a15 a92 a93 (i:Int)=res) (fun _ i hl ih a15 h=>hs _ i a15 hl h ih) (fun _ a15 h=>he _ a15 h) i0 hi hn a15 h0
theorem xdw {a0:Y4}{a3:Y2}{a4:Y4}{a5:Z8}{a7:Z8}{a9:Y3}(cnt:Nat) (Inv:T12){res:Z1}(hn:cnt≤500000000000)
 (hs:∀(rc:T54) (i:Nat),i<cnt→Inv i→(Inv (i+1)→rc a0 a3 a4 a5 a7 a9 ((i+1:Nat):Int)=res)→wev rc (x7 (x5 big)) a0 a3 a4 a5 a7 a9 (i:Int)=res)
 (he:∀(rc:T54),Inv cnt→wev rc (x7 (x5 big)) a0 a3 a4 a5 a7 a9 (cnt:Int)=res)
 (i0:Nat) (hi:i0≤cnt) (h0:Inv i0):wjw big a0 a3 a4 a5 a7 a9 (i0:Int)=res :=
 idxB (fun m i=>Inv i→wou big (x7 (x5 big)) m a0 a3 a4 a5 a7 a9 (i:Int)=res) (fun _ i hl ih h=>hs _ i hl h ih) (fun _ h=>he _ h) i0 hi hn h0
theorem xdz {a27:Int}{a28:Int}{a33:Z8}{a34:Bool}(cnt:Nat) (Inv:Nat→Bool→Prop){res:Z1}(hn:cnt≤500000000000)
 (hs:∀(rc:T35) (i:Nat) (a35:Bool),i<cnt→Inv i a35→(∀(a35':Bool),Inv (i+1) a35'→rc a27 a28 a33 a34 a35' ((i+1:Nat):Int)=res)→wex rc weu a27 a28 a33 a34 a35 (i:Int)=res)
 (he:∀(rc:T35) (a35:Bool),Inv cnt a35→wex rc weu a27 a28 a33 a34 a35 (cnt:Int)=res)
 (i0:Nat) (hi:i0≤cnt) (a35:Bool) (h0:Inv i0 a35):wl big a27 a28 a33 a34 a35 (i0:Int)=res :=
 idxB (fun m i=>∀(a35:Bool),Inv i a35→wox big weu m a27 a28 a33 a34 a35 (i:Int)=res) (fun _ i hl ih a35 h=>hs _ i a35 hl h ih) (fun _ a35 h=>he _ a35 h) i0 hi hn a35 h0
theorem xdx {a0:Y4}{a3:Y2}{a4:Y4}{a14:Z8}{a16:Z8}(cnt:Nat) (Inv:T12){res:Z1}(hn:cnt≤500000000000)
 (hs:∀(rc:T13) (i:Nat),i<cnt→Inv i→(Inv (i+1)→rc a0 a3 a4 a14 a16 ((i+1:Nat):Int)=res)→zy (weq big rc (wn (wl big))) (wn (wl big)) a0 a3 a4 a14 a16 (i:Int)=res)
 (he:∀(rc:T13),Inv cnt→zy (weq big rc (wn (wl big))) (wn (wl big)) a0 a3 a4 a14 a16 (cnt:Int)=res)
 (i0:Nat) (hi:i0≤cnt) (h0:Inv i0):x5 big a0 a3 a4 a14 a16 (i0:Int)=res :=
 idxB (fun m i=>Inv i→wov big (wn (wl big)) m a0 a3 a4 a14 a16 (i:Int)=res) (fun _ i hl ih h=>hs _ i hl h ih) (fun _ h=>he _ h) i0 hi hn h0
theorem xdy {rec:T13}{k:Y4→Z1}{a0:Y4}{a3:Y2}{a4:Y4}{a14:Z8}{a16:Z8}{a18:Int}{a19:Z8}(cnt:Nat) (Inv:T12){res:Z1}(hn:cnt≤500000000000)
 (hs:∀(rc:T42) (i:Nat),i<cnt→Inv i→(Inv (i+1)→rc a0 a3 a4 a14 a16 a18 a19 ((i+1:Nat):Int)=res)→wew rc (zx rec) a0 a3 a4 a14 a16 a18 a19 (i:Int)=res)
 (he:∀(rc:T42),Inv cnt→wew rc (zx rec) a0 a3 a4 a14 a16 a18 a19 (cnt:Int)=res)
 (i0:Nat) (hi:i0≤cnt) (h0:Inv i0):weq big rec k a0 a3 a4 a14 a16 a18 a19 (i0:Int)=res :=
 idxB (fun m i=>Inv i→wow big (zx rec) m a0 a3 a4 a14 a16 a18 a19 (i:Int)=res) (fun _ i hl ih h=>hs _ i hl h ih) (fun _ h=>he _ h) i0 hi hn h0
end Go.Proofs.YteanfidobhpchaaGreat
