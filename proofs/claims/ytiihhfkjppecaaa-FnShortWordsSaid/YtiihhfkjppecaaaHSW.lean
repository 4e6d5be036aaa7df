import Derived.Test.YtiihhfkjppecaaaPLib
import Derived.Test.YtiihhfkjppecaaaGSW
set_option linter.unusedVariables false
namespace Go.Proofs.Ytiihhfkjppecaaa
open Go Go.Gx Go.Proofs
theorem wgw {a0:Y3}{a7:Y3}{a8:Int}(cnt:Nat) (Inv:T11){res:Option Z2}(hn:cnt≤500000000000)
 (hs:∀(rc:Y3→Y3→Int→Int→Option Z2) (i:Nat),i<cnt→Inv i→(Inv (i+1)→rc a0 a7 a8 ((i+1:Nat):Int)=res)→yb (yv big rc ya) ya a0 a7 a8 (i:Int)=res)
 (he:∀(rc:Y3→Y3→Int→Int→Option Z2),Inv cnt→yb (yv big rc ya) ya a0 a7 a8 (cnt:Int)=res)
 (i0:Nat) (hi:i0≤cnt) (h0:Inv i0):wd2 big a0 a7 a8 (i0:Int)=res :=
 idxB (fun m i=>Inv i→wd3 big ya m a0 a7 a8 (i:Int)=res) (fun _ i hl ih h=>hs _ i hl h ih) (fun _ h=>he _ h) i0 hi hn h0
theorem wgx {rec:Y3→Y3→Int→Int→Option Z2}{k:Option Z2}{a0:Y3}{a3:Int}{a4:Y4}{a7:Y3}{a8:Int}{a9:Int}{a14:Y3}{a15:Int}(cnt:Nat) (Inv:T11){res:Option Z2}(hn:cnt≤500000000000)
 (hs:∀(rc:Y3→Int→Y4→Y3→Int→Int→Y3→Int→Int→Option Z2) (i:Nat),i<cnt→Inv i→(Inv (i+1)→rc a0 a3 a4 a7 a8 a9 a14 a15 ((i+1:Nat):Int)=res)→yc rc (zl rec) a0 a3 a4 a7 a8 a9 a14 a15 (i:Int)=res)
 (he:∀(rc:Y3→Int→Y4→Y3→Int→Int→Y3→Int→Int→Option Z2),Inv cnt→yc rc (zl rec) a0 a3 a4 a7 a8 a9 a14 a15 (cnt:Int)=res)
 (i0:Nat) (hi:i0≤cnt) (h0:Inv i0):yv big rec k a0 a3 a4 a7 a8 a9 a14 a15 (i0:Int)=res :=
 idxB (fun m i=>Inv i→wd4 big (zl rec) m a0 a3 a4 a7 a8 a9 a14 a15 (i:Int)=res) (fun _ i hl ih h=>hs _ i hl h ih) (fun _ h=>he _ h) i0 hi hn h0
theorem wg4 {a1:Y4}{a10:Y3}{a11:Int}(cnt:Nat) (Inv:T11){res:Z3}(hn:cnt≤500000000000)
 (hs:∀(rc:T1) (i:Nat),i<cnt→Inv i→(Inv (i+1)→rc a1 a10 a11 ((i+1:Nat):Int)=res)→yf rc (yd big rc xg) xg a1 a10 a11 (i:Int)=res)
 (he:∀(rc:T1),Inv cnt→yf rc (yd big rc xg) xg a1 a10 a11 (cnt:Int)=res)
 (i0:Nat) (hi:i0≤cnt) (h0:Inv i0):wd5 big a1 a10 a11 (i0:Int)=res :=
 idxB (fun m i=>Inv i→wd6 big xg m a1 a10 a11 (i:Int)=res) (fun _ i hl ih h=>hs _ i hl h ih) (fun _ h=>he _ h) i0 hi hn h0
theorem wg5 {rec:T1}{k:Z3}{a1:Y4}{a6:Int}{a10:Y3}{a11:Int}{a12:Int}{a22:Y3}{a23:Int}(cnt:Nat) (Inv:T11){res:Z3}(hn:cnt≤500000000000)
 (hs:∀(rc:T2) (i:Nat),i<cnt→Inv i→(Inv (i+1)→rc a1 a6 a10 a11 a12 a22 a23 ((i+1:Nat):Int)=res)→yz rc (zm rec) a1 a6 a10 a11 a12 a22 a23 (i:Int)=res)
 (he:∀(rc:T2),Inv cnt→yz rc (zm rec) a1 a6 a10 a11 a12 a22 a23 (cnt:Int)=res)
 (i0:Nat) (hi:i0≤cnt) (h0:Inv i0):yd big rec k a1 a6 a10 a11 a12 a22 a23 (i0:Int)=res :=
 idxB (fun m i=>Inv i→wd7 big (zm rec) m a1 a6 a10 a11 a12 a22 a23 (i:Int)=res) (fun _ i hl ih h=>hs _ i hl h ih) (fun _ h=>he _ h) i0 hi hn h0
theorem wk3 (self_V36:T0){a0:Y4}(mu:Y3→Nat) (Inv:Y3→Prop){res:Z0}
 (hs:∀(rc:T7) (a5:Y3),Inv a5→(∀(a5':Y3),Inv a5'→mu a5'<mu a5→rc a0 a5'=res)→wb2 self_V36 (wby self_V36 big rc (y4 self_V36 (xm self_V36 big))) a0 a5=res)
 (a5:Y3) (hm:mu a5≤500000000000) (h0:Inv a5):wbx self_V36 big a0 a5=res :=
 muR (fun m=>∀(a5:Y3),mu a5<m→Inv a5→wd9 self_V36 big (y4 self_V36 (xm self_V36 big)) m a0 a5=res) (fun a5 h2 _=>absurd h2 (Nat.not_lt_zero _)) (fun _ ih a5 h2 h3=>hs _ a5 h3 fun a5' h4 h5=>ih a5' (by omega) h4) big a5 (by have:=jp;omega) h0
theorem wk4 (self_V36:T0){rec:T7}{k:Y3→Z0}{a0:Y4}(mu:Y3→Int→Nat) (Inv:Y3→Int→Prop){res:Z0}
 (hs:∀(rc:Y4→Y3→Int→Z0) (a5:Y3) (a6:Int),Inv a5 a6→(∀(a5':Y3) (a6':Int),Inv a5' a6'→mu a5' a6'<mu a5 a6→rc a0 a5' a6'=res)→wd8 self_V36 rc (zq self_V36 k rec) a0 a5 a6=res)
 (a5:Y3) (a6:Int) (hm:mu a5 a6≤500000000000) (h0:Inv a5 a6):wby self_V36 big rec k a0 a5 a6=res :=
 muR (fun m=>∀(a5:Y3) (a6:Int),mu a5 a6<m→Inv a5 a6→wea self_V36 big (zq self_V36 k rec) m a0 a5 a6=res) (fun a5 a6 h2 _=>absurd h2 (Nat.not_lt_zero _)) (fun _ ih a5 a6 h2 h3=>hs _ a5 a6 h3 fun a5' a6' h4 h5=>ih a5' a6' (by omega) h4) big a5 a6 (by have:=jp;omega) h0
theorem wkb (self_V36:T0){a5:Y3}(mu:Y4→Int→Nat) (Inv:Y4→Int→Prop){res:Z0}
 (hs:∀(rc:T9) (a10:Y4) (a11:Int),Inv a10 a11→(∀(a10':Y4) (a11':Int),Inv a10' a11'→mu a10' a11'<mu a10 a11→rc a5 a10' a11'=res)→wct self_V36 rc (zp self_V36) a5 a10 a11=res)
 (a10:Y4) (a11:Int) (hm:mu a10 a11≤500000000000) (h0:Inv a10 a11):xm self_V36 big a5 a10 a11=res :=
 muR (fun m=>∀(a10:Y4) (a11:Int),mu a10 a11<m→Inv a10 a11→wcu self_V36 big (zp self_V36) m a5 a10 a11=res) (fun a10 a11 h2 _=>absurd h2 (Nat.not_lt_zero _)) (fun _ ih a10 a11 h2 h3=>hs _ a10 a11 h3 fun a10' a11' h4 h5=>ih a10' a11' (by omega) h4) big a10 a11 (by have:=jp;omega) h0
theorem whj {a0:Y3}(cnt:Nat) (Inv:T11){res:Option Z2}(hn:cnt≤500000000000)
 (hs:∀(rc:Y3→Int→Option Z2) (i:Nat),i<cnt→Inv i→(Inv (i+1)→rc a0 ((i+1:Nat):Int)=res)→yh (y6 big rc yg) yg a0 (i:Int)=res)
 (he:∀(rc:Y3→Int→Option Z2),Inv cnt→yh (y6 big rc yg) yg a0 (cnt:Int)=res)
 (i0:Nat) (hi:i0≤cnt) (h0:Inv i0):wee big a0 (i0:Int)=res :=
 idxB (fun m i=>Inv i→wef big yg m a0 (i:Int)=res) (fun _ i hl ih h=>hs _ i hl h ih) (fun _ h=>he _ h) i0 hi hn h0
theorem whk {rec:Y3→Int→Option Z2}{k:Option Z2}{a0:Y3}{a3:Int}(cnt:Nat) (Inv:T11){res:Option Z2}(hn:cnt≤500000000000)
 (hs:∀(rc:Y3→Int→Int→Option Z2) (i:Nat),i<cnt→Inv i→(Inv (i+1)→rc a0 a3 ((i+1:Nat):Int)=res)→yi rc (zt rec) a0 a3 (i:Int)=res)
 (he:∀(rc:Y3→Int→Int→Option Z2),Inv cnt→yi rc (zt rec) a0 a3 (cnt:Int)=res)
 (i0:Nat) (hi:i0≤cnt) (h0:Inv i0):y6 big rec k a0 a3 (i0:Int)=res :=
 idxB (fun m i=>Inv i→weg big (zt rec) m a0 a3 (i:Int)=res) (fun _ i hl ih h=>hs _ i hl h ih) (fun _ h=>he _ h) i0 hi hn h0
theorem whr {a0:Y3}{a1:Y4}(cnt:Nat) (Inv:T11){res:Z7}(hn:cnt≤500000000000)
 (hs:∀(rc:T3) (i:Nat),i<cnt→Inv i→(Inv (i+1)→rc a0 a1 ((i+1:Nat):Int)=res)→yl rc (yj big rc xh) xh a0 a1 (i:Int)=res)
 (he:∀(rc:T3),Inv cnt→yl rc (yj big rc xh) xh a0 a1 (cnt:Int)=res)
 (i0:Nat) (hi:i0≤cnt) (h0:Inv i0):weh big a0 a1 (i0:Int)=res :=
 idxB (fun m i=>Inv i→wei big xh m a0 a1 (i:Int)=res) (fun _ i hl ih h=>hs _ i hl h ih) (fun _ h=>he _ h) i0 hi hn h0
theorem whs {rec:T3}{k:Z7}{a0:Y3}{a1:Y4}{a6:Int}{a7:Y3}(cnt:Nat) (Inv:T11){res:Z7}(hn:cnt≤500000000000)
 (hs:∀(rc:T8) (i:Nat),i<cnt→Inv i→(Inv (i+1)→rc a0 a1 a6 a7 ((i+1:Nat):Int)=res)→y9 rc (zu rec) a0 a1 a6 a7 (i:Int)=res)
 (he:∀(rc:T8),Inv cnt→y9 rc (zu rec) a0 a1 a6 a7 (cnt:Int)=res)
 (i0:Nat) (hi:i0≤cnt) (h0:Inv i0):yj big rec k a0 a1 a6 a7 (i0:Int)=res :=
 idxB (fun m i=>Inv i→wej big (zu rec) m a0 a1 a6 a7 (i:Int)=res) (fun _ i hl ih h=>hs _ i hl h ih) (fun _ h=>he _ h) i0 hi hn h0
theorem wk5 {a0:Y4}{a1:Y4}(cnt:Nat) (Inv:T11){res:Z4}(hn:cnt≤500000000000)
 (hs:∀(rc:T4) (i:Nat),i<cnt→Inv i→(Inv (i+1)→rc a0 a1 ((i+1:Nat):Int)=res)→wax rc zv a0 a1 (i:Int)=res)
 (he:∀(rc:T4),Inv cnt→wax rc zv a0 a1 (cnt:Int)=res)
 (i0:Nat) (hi:i0≤cnt) (h0:Inv i0):wek big a0 a1 (i0:Int)=res :=
 idxB (fun m i=>Inv i→wel big zv m a0 a1 (i:Int)=res) (fun _ i hl ih h=>hs _ i hl h ih) (fun _ h=>he _ h) i0 hi hn h0
theorem wk6 {a0:Y3}{a1:Y4}(mu:Int→Nat) (Inv:Int→Prop){Q:Option Y2→Prop}
 (hs:∀(rc:Y3→Y4→Int→Option Y2) (a5:Int),Inv a5→(∀(a5':Int),Inv a5'→mu a5'<mu a5→Q (rc a0 a1 a5'))→Q (wen rc za a0 a1 a5))
 (a5:Int) (hm:mu a5≤500000000000) (h0:Inv a5):Q (wem big a0 a1 a5) :=
 muR (fun m=>∀(a5:Int),mu a5<m→Inv a5→Q (weo big za m a0 a1 a5)) (fun a5 h2 _=>absurd h2 (Nat.not_lt_zero _)) (fun _ ih a5 h2 h3=>hs _ a5 h3 fun a5' h4 h5=>ih a5' (by omega) h4) big a5 (by have:=jp;omega) h0
theorem wk7 (self_V48:T0){a0:Y4}(mu:Y3→Nat) (Inv:Y3→Prop){res:Z0}
 (hs:∀(rc:T7) (a5:Y3),Inv a5→(∀(a5':Y3),Inv a5'→mu a5'<mu a5→rc a0 a5'=res)→wep self_V48 rc (zb self_V48 (x5 self_V48 big)) a0 a5=res)
 (a5:Y3) (hm:mu a5≤500000000000) (h0:Inv a5):wcf self_V48 big a0 a5=res :=
 muR (fun m=>∀(a5:Y3),mu a5<m→Inv a5→weq self_V48 big (zb self_V48 (x5 self_V48 big)) m a0 a5=res) (fun a5 h2 _=>absurd h2 (Nat.not_lt_zero _)) (fun _ ih a5 h2 h3=>hs _ a5 h3 fun a5' h4 h5=>ih a5' (by omega) h4) big a5 (by have:=jp;omega) h0
theorem wkj (self_V48:T0){a5:Y3}(cnt:Nat) (Inv:Nat→Y3→Prop){res:Z0}(hn:cnt≤500000000000)
 (hs:∀(rc:T13) (i:Nat) (a9:Y3),i<cnt→Inv i a9→(∀(a9':Y3),Inv (i+1) a9'→rc a5 a9' ((i+1:Nat):Int)=res)→zz self_V48 rc (yp self_V48 (x6 self_V48 big)) a5 a9 (i:Int)=res)
 (he:∀(rc:T13) (a9:Y3),Inv cnt a9→zz self_V48 rc (yp self_V48 (x6 self_V48 big)) a5 a9 (cnt:Int)=res)
 (i0:Nat) (hi:i0≤cnt) (a9:Y3) (h0:Inv i0 a9):x5 self_V48 big a5 a9 (i0:Int)=res :=
 idxB (fun m i=>∀(a9:Y3),Inv i a9→wcw self_V48 big (yp self_V48 (x6 self_V48 big)) m a5 a9 (i:Int)=res) (fun _ i hl ih a9 h=>hs _ i a9 hl h ih) (fun _ a9 h=>he _ a9 h) i0 hi hn a9 h0
theorem wkl (self_V48:T0){a9:Y3}(mu:Y4→Int→Nat) (Inv:Y4→Int→Prop){res:Z0}
 (hs:∀(rc:T9) (a11:Y4) (a12:Int),Inv a11 a12→(∀(a11':Y4) (a12':Int),Inv a11' a12'→mu a11' a12'<mu a11 a12→rc a9 a11' a12'=res)→wcv self_V48 rc (zy self_V48) a9 a11 a12=res)
 (a11:Y4) (a12:Int) (hm:mu a11 a12≤500000000000) (h0:Inv a11 a12):x6 self_V48 big a9 a11 a12=res :=
 muR (fun m=>∀(a11:Y4) (a12:Int),mu a11 a12<m→Inv a11 a12→wcx self_V48 big (zy self_V48) m a9 a11 a12=res) (fun a11 a12 h2 _=>absurd h2 (Nat.not_lt_zero _)) (fun _ ih a11 a12 h2 h3=>hs _ a11 a12 h3 fun a11' a12' h4 h5=>ih a11' a12' (by omega) h4) big a11 a12 (by have:=jp;omega) h0
theorem wk8 {a0:Y4}{a1:Y4}(cnt:Nat) (Inv:T11){res:Z4}(hn:cnt≤500000000000)
 (hs:∀(rc:T4) (i:Nat),i<cnt→Inv i→(Inv (i+1)→rc a0 a1 ((i+1:Nat):Int)=res)→wa1 rc z6 a0 a1 (i:Int)=res)
 (he:∀(rc:T4),Inv cnt→wa1 rc z6 a0 a1 (cnt:Int)=res)
 (i0:Nat) (hi:i0≤cnt) (h0:Inv i0):wer big a0 a1 (i0:Int)=res :=
 idxB (fun m i=>Inv i→wes big z6 m a0 a1 (i:Int)=res) (fun _ i hl ih h=>hs _ i hl h ih) (fun _ h=>he _ h) i0 hi hn h0
end Go.Proofs.Ytiihhfkjppecaaa
