import Derived.Test.YtnolmlelfmadkaaPLib
import Derived.Test.YtnolmlelfmadkaaGSX
set_option linter.unusedVariables false
namespace Go.Proofs.Ytnolmlelfmadkaa
open Go Go.Gx Go.Proofs
theorem wgx {a0:Y3}(cnt:Nat) (Inv:T19){res:Z2}(hn:cnt≤500000000000)
 (hs:∀(rc:T17) (i:Nat),i<cnt→Inv i→(Inv (i+1)→rc a0 ((i+1:Nat):Int)=res)→xw (yk big rc xu) xu a0 (i:Int)=res)
 (he:∀(rc:T17),Inv cnt→xw (yk big rc xu) xu a0 (cnt:Int)=res)
 (i0:Nat) (hi:i0≤cnt) (h0:Inv i0):wdq big a0 (i0:Int)=res :=
 idxB (fun m i=>Inv i→wdr big xu m a0 (i:Int)=res) (fun _ i hl ih h=>hs _ i hl h ih) (fun _ h=>he _ h) i0 hi hn h0
theorem wgy {rec:T17}{k:Z2}{a0:Y3}{a3:Int}(cnt:Nat) (Inv:T19){res:Z2}(hn:cnt≤500000000000)
 (hs:∀(rc:T21) (i:Nat),i<cnt→Inv i→(Inv (i+1)→rc a0 a3 ((i+1:Nat):Int)=res)→xx rc (za rec) a0 a3 (i:Int)=res)
 (he:∀(rc:T21),Inv cnt→xx rc (za rec) a0 a3 (cnt:Int)=res)
 (i0:Nat) (hi:i0≤cnt) (h0:Inv i0):yk big rec k a0 a3 (i0:Int)=res :=
 idxB (fun m i=>Inv i→wds big (za rec) m a0 a3 (i:Int)=res) (fun _ i hl ih h=>hs _ i hl h ih) (fun _ h=>he _ h) i0 hi hn h0
theorem wg5 {a0:Y3}{a1:Y4}(cnt:Nat) (Inv:T19){res:Z6}(hn:cnt≤500000000000)
 (hs:∀(rc:T5) (i:Nat),i<cnt→Inv i→(Inv (i+1)→rc a0 a1 ((i+1:Nat):Int)=res)→x5 rc (xy big rc w8) w8 a0 a1 (i:Int)=res)
 (he:∀(rc:T5),Inv cnt→x5 rc (xy big rc w8) w8 a0 a1 (cnt:Int)=res)
 (i0:Nat) (hi:i0≤cnt) (h0:Inv i0):wdt big a0 a1 (i0:Int)=res :=
 idxB (fun m i=>Inv i→wdv big w8 m a0 a1 (i:Int)=res) (fun _ i hl ih h=>hs _ i hl h ih) (fun _ h=>he _ h) i0 hi hn h0
theorem wg6 {rec:T5}{k:Z6}{a0:Y3}{a1:Y4}{a6:Int}{a7:Y3}(cnt:Nat) (Inv:T19){res:Z6}(hn:cnt≤500000000000)
 (hs:∀(rc:T12) (i:Nat),i<cnt→Inv i→(Inv (i+1)→rc a0 a1 a6 a7 ((i+1:Nat):Int)=res)→yn rc (zb rec) a0 a1 a6 a7 (i:Int)=res)
 (he:∀(rc:T12),Inv cnt→yn rc (zb rec) a0 a1 a6 a7 (cnt:Int)=res)
 (i0:Nat) (hi:i0≤cnt) (h0:Inv i0):xy big rec k a0 a1 a6 a7 (i0:Int)=res :=
 idxB (fun m i=>Inv i→wdw big (zb rec) m a0 a1 a6 a7 (i:Int)=res) (fun _ i hl ih h=>hs _ i hl h ih) (fun _ h=>he _ h) i0 hi hn h0
theorem wkr {a0:Y4}{a1:Y4}(cnt:Nat) (Inv:T19){res:Z4}(hn:cnt≤500000000000)
 (hs:∀(rc:T15) (i:Nat),i<cnt→Inv i→(Inv (i+1)→rc a0 a1 ((i+1:Nat):Int)=res)→wac rc zd a0 a1 (i:Int)=res)
 (he:∀(rc:T15),Inv cnt→wac rc zd a0 a1 (cnt:Int)=res)
 (i0:Nat) (hi:i0≤cnt) (h0:Inv i0):wdx big a0 a1 (i0:Int)=res :=
 idxB (fun m i=>Inv i→wdy big zd m a0 a1 (i:Int)=res) (fun _ i hl ih h=>hs _ i hl h ih) (fun _ h=>he _ h) i0 hi hn h0
theorem wks {a0:Y3}{a1:Y4}(mu:Int→Nat) (Inv:Int→Prop){Q:Option Y2→Prop}
 (hs:∀(rc:Y3→Y4→Int→Option Y2) (a5:Int),Inv a5→(∀(a5':Int),Inv a5'→mu a5'<mu a5→Q (rc a0 a1 a5'))→Q (wd0 rc yo a0 a1 a5))
 (a5:Int) (hm:mu a5≤500000000000) (h0:Inv a5):Q (wdz big a0 a1 a5) :=
 muR (fun m=>∀(a5:Int),mu a5<m→Inv a5→Q (wd1 big yo m a0 a1 a5)) (fun a5 h2 _=>absurd h2 (Nat.not_lt_zero _)) (fun _ ih a5 h2 h3=>hs _ a5 h3 fun a5' h4 h5=>ih a5' (by omega) h4) big a5 (by have:=jq;omega) h0
theorem wkt (self_V18:T0){a0:Y4}(mu:Y3→Nat) (Inv:Y3→Prop){res:Z0}
 (hs:∀(rc:T11) (a5:Y3),Inv a5→(∀(a5':Y3),Inv a5'→mu a5'<mu a5→rc a0 a5'=res)→wd2 self_V18 rc (yp self_V18 (xn self_V18 big)) a0 a5=res)
 (a5:Y3) (hm:mu a5≤500000000000) (h0:Inv a5):wbd self_V18 big a0 a5=res :=
 muR (fun m=>∀(a5:Y3),mu a5<m→Inv a5→wd3 self_V18 big (yp self_V18 (xn self_V18 big)) m a0 a5=res) (fun a5 h2 _=>absurd h2 (Nat.not_lt_zero _)) (fun _ ih a5 h2 h3=>hs _ a5 h3 fun a5' h4 h5=>ih a5' (by omega) h4) big a5 (by have:=jq;omega) h0
theorem wjy (self_V18:T0){a5:Y3}(cnt:Nat) (Inv:Nat→Y3→Prop){res:Z0}(hn:cnt≤500000000000)
 (hs:∀(rc:T23) (i:Nat) (a9:Y3),i<cnt→Inv i a9→(∀(a9':Y3),Inv (i+1) a9'→rc a5 a9' ((i+1:Nat):Int)=res)→zh self_V18 rc (yh self_V18 (xo self_V18 big)) a5 a9 (i:Int)=res)
 (he:∀(rc:T23) (a9:Y3),Inv cnt a9→zh self_V18 rc (yh self_V18 (xo self_V18 big)) a5 a9 (cnt:Int)=res)
 (i0:Nat) (hi:i0≤cnt) (a9:Y3) (h0:Inv i0 a9):xn self_V18 big a5 a9 (i0:Int)=res :=
 idxB (fun m i=>∀(a9:Y3),Inv i a9→wck self_V18 big (yh self_V18 (xo self_V18 big)) m a5 a9 (i:Int)=res) (fun _ i hl ih a9 h=>hs _ i a9 hl h ih) (fun _ a9 h=>he _ a9 h) i0 hi hn a9 h0
theorem wj0 (self_V18:T0){a9:Y3}(mu:Y4→Int→Nat) (Inv:Y4→Int→Prop){res:Z0}
 (hs:∀(rc:T16) (a11:Y4) (a12:Int),Inv a11 a12→(∀(a11':Y4) (a12':Int),Inv a11' a12'→mu a11' a12'<mu a11 a12→rc a9 a11' a12'=res)→wcj self_V18 rc (zg self_V18) a9 a11 a12=res)
 (a11:Y4) (a12:Int) (hm:mu a11 a12≤500000000000) (h0:Inv a11 a12):xo self_V18 big a9 a11 a12=res :=
 muR (fun m=>∀(a11:Y4) (a12:Int),mu a11 a12<m→Inv a11 a12→wcl self_V18 big (zg self_V18) m a9 a11 a12=res) (fun a11 a12 h2 _=>absurd h2 (Nat.not_lt_zero _)) (fun _ ih a11 a12 h2 h3=>hs _ a11 a12 h3 fun a11' a12' h4 h5=>ih a11' a12' (by omega) h4) big a11 a12 (by have:=jq;omega) h0
theorem whr {a0:Y3}{a7:Y3}{a8:Int}(cnt:Nat) (Inv:T19){res:Z2}(hn:cnt≤500000000000)
 (hs:∀(rc:T3) (i:Nat),i<cnt→Inv i→(Inv (i+1)→rc a0 a7 a8 ((i+1:Nat):Int)=res)→ya (yt big rc x9) x9 a0 a7 a8 (i:Int)=res)
 (he:∀(rc:T3),Inv cnt→ya (yt big rc x9) x9 a0 a7 a8 (cnt:Int)=res)
 (i0:Nat) (hi:i0≤cnt) (h0:Inv i0):wec big a0 a7 a8 (i0:Int)=res :=
 idxB (fun m i=>Inv i→wed big x9 m a0 a7 a8 (i:Int)=res) (fun _ i hl ih h=>hs _ i hl h ih) (fun _ h=>he _ h) i0 hi hn h0
theorem whs {rec:T3}{k:Z2}{a0:Y3}{a3:Int}{a4:Y4}{a7:Y3}{a8:Int}{a9:Int}{a14:Y3}{a15:Int}(cnt:Nat) (Inv:T19){res:Z2}(hn:cnt≤500000000000)
 (hs:∀(rc:T2) (i:Nat),i<cnt→Inv i→(Inv (i+1)→rc a0 a3 a4 a7 a8 a9 a14 a15 ((i+1:Nat):Int)=res)→yb rc (zj rec) a0 a3 a4 a7 a8 a9 a14 a15 (i:Int)=res)
 (he:∀(rc:T2),Inv cnt→yb rc (zj rec) a0 a3 a4 a7 a8 a9 a14 a15 (cnt:Int)=res)
 (i0:Nat) (hi:i0≤cnt) (h0:Inv i0):yt big rec k a0 a3 a4 a7 a8 a9 a14 a15 (i0:Int)=res :=
 idxB (fun m i=>Inv i→wee big (zj rec) m a0 a3 a4 a7 a8 a9 a14 a15 (i:Int)=res) (fun _ i hl ih h=>hs _ i hl h ih) (fun _ h=>he _ h) i0 hi hn h0
theorem whz {a1:Y4}{a10:Y3}{a11:Int}(cnt:Nat) (Inv:T19){res:Z3}(hn:cnt≤500000000000)
 (hs:∀(rc:T1) (i:Nat),i<cnt→Inv i→(Inv (i+1)→rc a1 a10 a11 ((i+1:Nat):Int)=res)→ye rc (yc big rc w9) w9 a1 a10 a11 (i:Int)=res)
 (he:∀(rc:T1),Inv cnt→ye rc (yc big rc w9) w9 a1 a10 a11 (cnt:Int)=res)
 (i0:Nat) (hi:i0≤cnt) (h0:Inv i0):wef big a1 a10 a11 (i0:Int)=res :=
 idxB (fun m i=>Inv i→weg big w9 m a1 a10 a11 (i:Int)=res) (fun _ i hl ih h=>hs _ i hl h ih) (fun _ h=>he _ h) i0 hi hn h0
theorem wh0 {rec:T1}{k:Z3}{a1:Y4}{a6:Int}{a10:Y3}{a11:Int}{a12:Int}{a22:Y3}{a23:Int}(cnt:Nat) (Inv:T19){res:Z3}(hn:cnt≤500000000000)
 (hs:∀(rc:T4) (i:Nat),i<cnt→Inv i→(Inv (i+1)→rc a1 a6 a10 a11 a12 a22 a23 ((i+1:Nat):Int)=res)→yw rc (zk rec) a1 a6 a10 a11 a12 a22 a23 (i:Int)=res)
 (he:∀(rc:T4),Inv cnt→yw rc (zk rec) a1 a6 a10 a11 a12 a22 a23 (cnt:Int)=res)
 (i0:Nat) (hi:i0≤cnt) (h0:Inv i0):yc big rec k a1 a6 a10 a11 a12 a22 a23 (i0:Int)=res :=
 idxB (fun m i=>Inv i→weh big (zk rec) m a1 a6 a10 a11 a12 a22 a23 (i:Int)=res) (fun _ i hl ih h=>hs _ i hl h ih) (fun _ h=>he _ h) i0 hi hn h0
theorem wkv (self_V36:T0){a0:Y4}(mu:Y3→Nat) (Inv:Y3→Prop){res:Z0}
 (hs:∀(rc:T11) (a5:Y3),Inv a5→(∀(a5':Y3),Inv a5'→mu a5'<mu a5→rc a0 a5'=res)→wbx self_V36 (wbt self_V36 big rc (yz self_V36 (xd self_V36 big))) a0 a5=res)
 (a5:Y3) (hm:mu a5≤500000000000) (h0:Inv a5):wbs self_V36 big a0 a5=res :=
 muR (fun m=>∀(a5:Y3),mu a5<m→Inv a5→wej self_V36 big (yz self_V36 (xd self_V36 big)) m a0 a5=res) (fun a5 h2 _=>absurd h2 (Nat.not_lt_zero _)) (fun _ ih a5 h2 h3=>hs _ a5 h3 fun a5' h4 h5=>ih a5' (by omega) h4) big a5 (by have:=jq;omega) h0
theorem wkw (self_V36:T0){rec:T11}{k:Y3→Z0}{a0:Y4}(mu:Y3→Int→Nat) (Inv:Y3→Int→Prop){res:Z0}
 (hs:∀(rc:Y4→Y3→Int→Z0) (a5:Y3) (a6:Int),Inv a5 a6→(∀(a5':Y3) (a6':Int),Inv a5' a6'→mu a5' a6'<mu a5 a6→rc a0 a5' a6'=res)→wei self_V36 rc (zo self_V36 k rec) a0 a5 a6=res)
 (a5:Y3) (a6:Int) (hm:mu a5 a6≤500000000000) (h0:Inv a5 a6):wbt self_V36 big rec k a0 a5 a6=res :=
 muR (fun m=>∀(a5:Y3) (a6:Int),mu a5 a6<m→Inv a5 a6→wek self_V36 big (zo self_V36 k rec) m a0 a5 a6=res) (fun a5 a6 h2 _=>absurd h2 (Nat.not_lt_zero _)) (fun _ ih a5 a6 h2 h3=>hs _ a5 a6 h3 fun a5' a6' h4 h5=>ih a5' a6' (by omega) h4) big a5 a6 (by have:=jq;omega) h0
theorem wj9 (self_V36:T0){a5:Y3}(mu:Y4→Int→Nat) (Inv:Y4→Int→Prop){res:Z0}
 (hs:∀(rc:T16) (a10:Y4) (a11:Int),Inv a10 a11→(∀(a10':Y4) (a11':Int),Inv a10' a11'→mu a10' a11'<mu a10 a11→rc a5 a10' a11'=res)→wcm self_V36 rc (zn self_V36) a5 a10 a11=res)
 (a10:Y4) (a11:Int) (hm:mu a10 a11≤500000000000) (h0:Inv a10 a11):xd self_V36 big a5 a10 a11=res :=
 muR (fun m=>∀(a10:Y4) (a11:Int),mu a10 a11<m→Inv a10 a11→wcn self_V36 big (zn self_V36) m a5 a10 a11=res) (fun a10 a11 h2 _=>absurd h2 (Nat.not_lt_zero _)) (fun _ ih a10 a11 h2 h3=>hs _ a10 a11 h3 fun a10' a11' h4 h5=>ih a10' a11' (by omega) h4) big a10 a11 (by have:=jq;omega) h0
end Go.Proofs.Ytnolmlelfmadkaa
