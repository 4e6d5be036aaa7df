import Derived.Test.YtiihhfkjppecaaaPTab
import Derived.Test.YtiihhfkjppecaaaHSW
import Derived.KernelRfl
set_option linter.unusedVariables false
set_option linter.unusedSimpArgs false
namespace Go.Proofs.Ytiihhfkjppecaaa
open Go Go.Gx Go.Proofs
def we:List Int→Nat→Nat→Option Nat
 | _,0,c=>some c
 | [],_+1,_=>none
 | x::xs,n+1,c=>if x < -2∨5≤x then none else if 0≤x then we xs n (c+1) else we xs (n+2) (c+1)
theorem x8 (xs:List Int) (c:Nat):we xs 0 c=some c:=by cases xs<;>rfl
def wEnd (w:List Int) (i:Nat):Int:=match we (w.drop i) 1 i with
 | some e=>e
 | none => -1
theorem wa7 (N:Nat) (k:Int→Option (Int×Unit)):∀(n:Nat) (w:List Int) (i need:Nat),w.length-i+1<n→i≤w.length→need+(w.length-i)≤4611686018427387904→w.length≤4611686018427387904 →
  wao N k n w i need=match we (w.drop i) need i with|some e=>k e|none=>some (-1,())
 | 0,_,_,_,h,_,_,_=>by omega
 | n+1,w,i,need,h,hi,hn,hb=>by
  simp only[wao,wdy]
  cases need with
  | zero=>rw[cdf (by omega),x8]
  | succ need =>
   rw[cdt (by omega)]
   by_cases hlt:i<w.length
   ·rw[cdf (by omega),jf w i hlt,obS,obS,obS,wr (n:=(i:Int)+1) (by omega) (by omega),wr (n:=((need+1:Nat):Int)-1) (by omega) (by omega),wr (n:=((need+1:Nat):Int)+1) (by omega) (by omega)]
    have h1:=wa7 N k n w (i+1) need (by omega) (by omega) (by omega) hb
    have h2:=wa7 N k n w (i+1) (need+2) (by omega) (by omega) (by omega) hb
    rw[show((i:Int)+1)=((i+1:Nat):Int) by omega,show(((need+1:Nat):Int)-1)=(need:Int) by omega,show(((need+1:Nat):Int)+1)=((need+2:Nat):Int) by omega,h1,h2]
    rw[List.drop_eq_getElem_cons hlt]
    simp only[we]
    by_cases c1:w[i] < -2
    ·rw[cdt c1,if_pos (.inl c1)]
    ·rw[cdf c1]
     by_cases c2:5≤w[i]
     ·rw[cdt c2,if_pos (.inr c2)]
     ·rw[cdf c2,if_neg (by omega)]
      by_cases c3:0≤w[i]
      ·rw[cdt c3,if_pos c3]
      ·rw[cdf c3,if_neg c3]
   ·rw[cdt (by omega),List.drop_eq_nil_of_le (by omega)]
    rfl
theorem wam (w:List Int) (i:Nat) (hi:i≤w.length) (hb:w.length≤1000000000):V14 big w i=some (wEnd w i,()):=by
 have hg:=jp
 unfold V14 wfu wdv
 have:=wa7 big wdx big w i 1 (by omega) hi (by omega) (by omega)
 rw[show(1:Int)=((1:Nat):Int) from rfl,this]
 unfold wEnd
 cases we (w.drop i) 1 i<;>rfl
theorem wks (x a b:Int):V9 x a b=some (decide (a≤x∧x≤b),()):=by
 unfold V9 V9_s
 by_cases h:a≤x<;>simp[h]
theorem wbi (N:Nat):∀(n:Nat) (w:List Int) (i o:Nat),w.length-i<n→i≤w.length→o+1+(w.length-i)≤4611686018427387904→w.length≤4611686018427387904 →
  wan N wds n w ((o+1:Nat):Int) i=some (match we (w.drop i) (o+1) i with|some e=>e|none => -1,())
 | 0,_,_,_,h,_,_,_=>by omega
 | n+1,w,i,o,h,hi,hn,hb=>by
  simp only[wan,wdt]
  by_cases hlt:i<w.length
  ·rw[cdt (by omega),jf w i hlt]
   simp only[obS,wks]
   rw[wr (n:=(i:Int)+1) (by omega) (by omega),wr (n:=((o+1:Nat):Int)-1) (by omega) (by omega),wr (n:=((o+1:Nat):Int)+1) (by omega) (by omega)]
   have h2:=wbi N n w (i+1) (o+1) (by omega) (by omega) (by omega) hb
   rw[show((i:Int)+1)=((i+1:Nat):Int) by omega,show(((o+1:Nat):Int)+1)=((o+1+1:Nat):Int) by omega,h2]
   rw[List.drop_eq_getElem_cons hlt]
   simp only[we]
   rw[cdf (show ¬(((o+1+1:Nat):Int)=0) by omega)]
   by_cases c1:w[i] = -1
   ·rw[cdt c1,if_neg (by omega),if_neg (by omega)]
   ·rw[cdf c1]
    by_cases c2:w[i] = -2
    ·rw[cdt c2,if_neg (by omega),if_neg (by omega)]
    ·rw[cdf c2]
     by_cases c3:0≤w[i]∧w[i]≤4
     ·rw[cdt c3,if_neg (by omega),if_pos c3.1]
      cases o with
      | zero=>rw[cdt (by omega),x8]
      | succ o =>
       have h1:=wbi N n w (i+1) o (by omega) (by omega) (by omega) hb
       rw[cdf (by omega),show(((o+1+1:Nat):Int)-1)=((o+1:Nat):Int) by omega,h1]
     ·rw[cdf c3,if_pos (by omega)]
  ·rw[cdf (by omega),List.drop_eq_nil_of_le (by omega)]
   rfl
theorem wa5 (w:List Int) (i:Nat) (hi:i≤w.length) (hb:w.length≤1000000000):V10 big w i=some (wEnd w i,()):=by
 have hg:=jp
 unfold V10 wfs wdq
 have:=wbi big big w i 0 (by omega) hi (by omega) (by omega)
 rw[show(1:Int)=((0+1:Nat):Int) from rfl,this]
 rfl
def isWord (w:List Int):Bool:=decide (w.length≤40)&&decide (wEnd w 0=w.length)
theorem wk (w:List Int):V15 w=some (isWord w,()):=by
 unfold V15 wjd isWord
 by_cases h:w.length≤40
 ·rw[cdt (by omega),show(0:Int)=((0:Nat):Int) from rfl,wam w 0 (by omega) (by omega),obS]
  simp[h]
 ·rw[cdf (by omega)]
  simp[h]
theorem xy (w:List Int):V11 w=some (isWord w,()):=by
 unfold V11 wja isWord
 by_cases h:w.length≤40
 ·rw[cdt (by omega),show(0:Int)=((0:Nat):Int) from rfl,wa5 w 0 (by omega) (by omega),obS]
  by_cases he:wEnd w 0=w.length
  ·rw[cdt he]
   have:0<w.length:=by
    rcases Nat.eq_zero_or_pos w.length with h0|h0
    ·have:w=[]:=List.eq_nil_of_length_eq_zero h0
     subst this
     simp[wEnd,we]at he
    ·exact h0
   simp[h,he];omega
  ·rw[cdf he];simp[h,he]
 ·rw[cdf (by omega)]
  simp[h]
theorem wah (w:List Int):isWord w=true↔w.length≤40∧we w 1 0=some w.length:=by
 unfold isWord wEnd
 simp only[List.drop_zero,Bool.and_eq_true,decide_eq_true_eq]
 refine and_congr Iff.rfl ?_
 cases h:we w 1 0 with
 | none=>simp
 | some e=>simp;omega
theorem wai {w:List Int}(h:isWord w=true):w.length≤40:=((wah w).1 h).1
theorem zh (s t:List Int):V12 s t=some (isWord s&&isWord t,()):=by
 unfold V12 wjb
 rw[xy,xy,obS,obS]
 cases isWord s<;>rfl
theorem zj (s t:List Int):V16 s t=some (isWord s&&isWord t,()):=by
 unfold V16 wje
 rw[wk,wk,obS,obS]
 cases isWord s<;>rfl
def dual1 (x:Int):Int:=if x<0 then -3-x else x
theorem wcq (N:Nat) (k:List Int→Option (List Int×Unit)):∀(n:Nat) (w out:List Int) (i:Nat),w.length-i<n→i≤w.length→w.length≤1000000→out.length=i→(∀x∈w, -2≤x∧x<5) →
  wat N k n w out i=k (out++(w.drop i).map dual1)
 | 0,_,_,_,h,_,_,_,_=>by omega
 | n+1,w,out,i,h,hi,hb,ho,hw=>by
  simp only[wat,wed]
  by_cases hlt:i<w.length
  ·have hx:=hw w[i] (List.getElem_mem hlt)
   have ih:=wcq N k n w (out++[dual1 w[i]]) (i+1) (by omega) (by omega) hb (by simp[ho]) hw
   rw[cdt (by omega),jf w i hlt,obS,obS,obS,jk (by simp;omega),jk (by simp;omega),obS,obS,wr (n:=(i:Int)+1) (by omega) (by omega),wr (n:=(-3:Int)-w[i]) (by omega) (by omega)]
   rw[show((i:Int)+1)=((i+1:Nat):Int) by omega]
   rw[List.drop_eq_getElem_cons hlt,List.map_cons]
   rw[List.append_assoc,List.singleton_append]at ih
   rw[←ih]
   by_cases hn:w[i]<0
   ·rw[cdt hn,dual1,if_pos hn]
   ·rw[cdf hn,dual1,if_neg hn]
  ·rw[cdf (by omega),List.drop_eq_nil_of_le (by omega)]
   simp
theorem wbg (w:List Int) (hb:w.length≤1000000) (hw:∀x∈w, -2≤x∧x<5):V40 big w=some (w.map dual1,()):=by
 have hg:=jp
 unfold V40 wf3 web
 refine Eq.trans (wcq big wb6 big w [] 0 (by omega) (by omega) hb rfl hw) ?_
 simp[wb6]
theorem wag (N:Nat) (k:List Int→Option (List Int×Unit)):∀(n:Nat) (d:List Int) (i:Nat),d.length-i<n→i≤d.length→d.length≤1000000→(∀x∈d, -2≤x∧x<5) →
  wap N k n d (d.length:Int) i=k (d.take i++(d.drop i).map dual1)
 | 0,_,_,h,_,_,_=>by omega
 | n+1,d,i,h,hi,hb,hw=>by
  simp only[wap,wd1]
  by_cases hlt:i<d.length
  ·have hx:=hw d[i] (List.getElem_mem hlt)
   rw[cdt (by omega),jf d i hlt,obS,Int.toNat_natCast,List.getElem?_eq_getElem hlt,obS,obS,obS,wr (n:=(i:Int)+1) (by omega) (by omega),wr (n:=(-3:Int)-d[i]) (by omega) (by omega)]
   rw[show((i:Int)+1)=((i+1:Nat):Int) by omega]
   rw[List.drop_eq_getElem_cons hlt,List.map_cons]
   by_cases hn:d[i]<0
   ·have ih:=wag N k n (d.set i (-3-d[i])) (i+1) (by simp;omega) (by simp;omega) (by simpa using hb) (fun x hx'=>by
     rcases List.mem_or_eq_of_mem_set hx' with h'|h'
     ·exact hw x h'
     ·omega)
    rw[List.length_set]at ih
    rw[cdt hn,ih,dual1,if_pos hn]
    rw[List.take_succ_eq_append_getElem (by simp;omega),List.take_set,List.set_eq_of_length_le (by simp[Nat.min_le_left]),List.append_assoc,List.getElem_set_self,List.drop_set_of_lt (by omega)]
    rfl
   ·have ih:=wag N k n d (i+1) (by omega) (by omega) hb hw
    rw[cdf hn,ih,dual1,if_neg hn,List.take_succ_eq_append_getElem hlt,List.append_assoc]
    rfl
  ·rw[cdf (by omega),List.drop_eq_nil_of_le (by omega),List.take_of_length_le (by omega)]
   simp
theorem wac (w:List Int) (h:w.length≤4294967296):V28 w=some (w,()):=by
 unfold V28 wjm
 rw[jk (by simp;omega),obS]
 simp
theorem wbf (w:List Int) (hb:w.length≤1000000) (hw:∀x∈w, -2≤x∧x<5):V29 big w=some (w.map dual1,()):=by
 have hg:=jp
 unfold V29 wfx wdz
 rw[wac w (by omega),obS]
 refine Eq.trans (wag big wbq big w 0 (by omega) (by omega) hb hw) ?_
 simp[wbq]
def subst (l:Int) (s:List Int):List Int→List Int
 | []=>[]
 | x::xs=>if x=l then s++subst l s xs else x::subst l s xs
theorem wgq:∀(xs:List Int) (n c e:Nat),we xs n c=some e→c≤e
 | xs,0,c,e,h=>by rw[x8]at h;cases h;omega
 | [],n+1,c,e,h=>by simp[we]at h
 | x::xs,n+1,c,e,h=>by
  simp only[we]at h
  split at h
  ·cases h
  split at h
  ·have:=wgq xs n (c+1) e h;omega
  ·have:=wgq xs (n+2) (c+1) e h;omega
theorem wbh (w:List Int) (h:w.length≤4294967296):V39 w=some (w,()):=by
 unfold V39 wjo
 rw[jk (by simp;omega),obS]
 rfl
theorem wi0 {x:Int}{xs:List Int}{e:Nat}(hb:xs.length≤1000000) (h:we xs 1 1=some e) (h2:e-1≤xs.length) :
  V41 (x::xs)=some ((xs.take (e-1),xs.drop (e-1),()),())∧V30 (x::xs)=some ((xs.take (e-1),xs.drop (e-1),()),()):=by
 have he:=wgq _ _ _ _ h
 have hw:wEnd (x::xs) 1=(e:Int):=by
  unfold wEnd
  simp only[List.drop_succ_cons,List.drop_zero,h]
 have s1:slI (x::xs) ((1:Nat):Int) (e:Int)=some (xs.take (e-1)):=by
  have:=qn (x::xs) 1 e (by omega) (by simp;omega)
  rw[this]
  simp
 have s2:slI (x::xs) (e:Int) ((x::xs).length:Int)=some (xs.drop (e-1)):=by
  have:=qn (x::xs) e (x::xs).length (by simp;omega) (by simp)
  rw[this]
  rw[List.take_of_length_le (by simp)]
  rw[show e=(e-1)+1 by omega,List.drop_succ_cons]
  simp
 constructor
 ·unfold V41 wjp
  rw[show(1:Int)=((1:Nat):Int) from rfl,wa5 _ 1 (by simp) (by simp;omega),obS,hw]
  rw[s1,obS,s2,obS]
 ·unfold V30 wjn
  rw[show(1:Int)=((1:Nat):Int) from rfl,wam _ 1 (by simp) (by simp;omega),obS,hw]
  rw[s1,obS,s2,obS]
theorem wr1 {i:Nat}(h:i≤4611686018427387904):IntKind.i64.wrap ((i:Int)+1)=((i+1:Nat):Int):=by rw[wr (by omega) (by omega)];omega
abbrev PT:=List (List Int)×Unit
def pos (n:Nat) (le:Nat→Nat→Bool):PT:=(mkR n fun y=>cs (fl n fun x=>le x y),())
structure Ord (n:Nat) (le:Nat→Nat→Bool):Prop where
 refl:∀x,x<n→le x x=true
 anti:∀x y,x<n→y<n→x≠y→le x y=true→le y x=false
 trans:∀x y z,x<n→y<n→z<n→le x y=true→le y z=true→le x z=true
abbrev du (le:Nat→Nat→Bool):Nat→Nat→Bool:=fun x y=>le y x
def low (n:Nat) (le:Nat→Nat→Bool) (S:List Nat):List Nat:=fl n fun z=>S.all fun s=>le z s
def grt (le:Nat→Nat→Bool) (L:List Nat):Int:=match L.find? fun x=>L.all fun y=>le y x with
 | some x=>(x:Int)
 | none => -1
def bnd (n:Nat) (le:Nat→Nat→Bool) (S:List Nat):Int:=grt le (low n le S)
structure IsGlb (n:Nat) (le:Nat→Nat→Bool) (S:List Nat) (m:Nat):Prop where
 lt:m<n
 lo:∀s∈S,le m s=true
 gr:∀z,z<n→(∀s∈S,le z s=true)→le z m=true
theorem low_mem {n:Nat}{le:Nat→Nat→Bool}{S:List Nat}{z:Nat}:z∈low n le S↔z<n∧∀s∈S,le z s=true:=by
 unfold low
 rw[fl_mem,List.all_eq_true]
theorem wco {n:Nat}{le:Nat→Nat→Bool}{S:List Nat}(h:0≤bnd n le S):IsGlb n le S (bnd n le S).toNat:=by
 unfold bnd grt at *
 cases hf:(low n le S).find? fun x=>(low n le S).all fun y=>le y x with
 | none=>rw[hf]at h;exact absurd h (by decide)
 | some x =>
  have h1:=List.find?_some hf
  have h2:=low_mem.1 (List.mem_of_find?_eq_some hf)
  simp only[Int.toNat_natCast]
  exact⟨h2.1,h2.2,fun z hz hs=>List.all_eq_true.1 h1 z (low_mem.2 ⟨hz,hs⟩)⟩
theorem wgh {n:Nat}{le:Nat→Nat→Bool}(ho:Ord n le){S:List Nat}{m k:Nat}(h:IsGlb n le S m) (h2:IsGlb n le S k):m=k:=by
 by_cases e:m=k
 ·exact e
 ·have h3:=h.gr k h2.lt h2.lo
  have h4:=h2.gr m h.lt h.lo
  have:=ho.anti m k h.lt h2.lt e h4
  rw[this]at h3;cases h3
theorem wgf {n:Nat}{le:Nat→Nat→Bool}(ho:Ord n le){S:List Nat}{m:Nat}(h:IsGlb n le S m):bnd n le S=(m:Int):=by
 have h0:0≤bnd n le S:=by
  unfold bnd grt
  cases hf:(low n le S).find? fun x=>(low n le S).all fun y=>le y x with
  | none =>
   have:=List.find?_eq_none.1 hf m (low_mem.2 ⟨h.lt,h.lo⟩)
   exact absurd (List.all_eq_true.2 fun y hy=>h.gr y (low_mem.1 hy).1 (low_mem.1 hy).2) this
  | some x=>simp
 have:=wgh ho (wco h0) h
 omega
structure Lat (n:Nat) (le:Nat→Nat→Bool):Prop where
 ne:0<n
 meet:∀x y,x<n→y<n→0≤bnd n le [x,y]
 join:∀x y,x<n→y<n→0≤bnd n (du le) [x,y]
def mt (n:Nat) (le:Nat→Nat→Bool) (x y:Nat):Nat:=(bnd n le [x,y]).toNat
def gb (n:Nat) (le:Nat→Nat→Bool) (S:List Nat):Nat:=(bnd n le S).toNat
def lat (n:Nat) (le:Nat→Nat→Bool):List (List Bool)×List (List Int)×List (List Int)×Unit :=
 (mkT n le,mkT n (fun x y=>((mt n le x y:Nat):Int)),mkT n (fun x y=>((mt n (du le) x y:Nat):Int)),())
structure LatP (n:Nat) (le:Nat→Nat→Bool):Prop where
 le10:n≤10
 ord:Ord n le
 lat:Lat n le
theorem Ord.du {n:Nat}{le:Nat→Nat→Bool}(h:Ord n le):Ord n (du le) where
 refl:=h.refl
 anti x y hx hy hxy h1:=by
  have h3:le y x=true:=h1
  show le x y=false
  by_cases h2:le x y=true
  ·rw[h.anti x y hx hy hxy h2]at h3;cases h3
  ·simpa using h2
 trans x y z hx hy hz h1 h2:=h.trans z y x hz hy hx h2 h1
def ls (le:Nat→Nat→Bool) (x y:Nat):Bool:=decide (x≠y)&&le x y
theorem LatP.du {n:Nat}{le:Nat→Nat→Bool}(h:LatP n le):LatP n (du le):=⟨h.le10,Ord.du h.ord,h.lat.ne,h.lat.join,h.lat.meet⟩
theorem LatP.glb {n:Nat}{le:Nat→Nat→Bool}(h:LatP n le){x y:Nat}(hx:x<n) (hy:y<n):IsGlb n le [x,y] (mt n le x y):=wco (h.lat.meet x y hx hy)
theorem LatP.mlt {n:Nat}{le:Nat→Nat→Bool}(h:LatP n le){x y:Nat}(hx:x<n) (hy:y<n):mt n le x y<n:=(h.glb hx hy).lt
theorem LatP.m1 {n:Nat}{le:Nat→Nat→Bool}(h:LatP n le){x y:Nat}(hx:x<n) (hy:y<n):le (mt n le x y) x=true:=(h.glb hx hy).lo x (by simp)
theorem LatP.m2 {n:Nat}{le:Nat→Nat→Bool}(h:LatP n le){x y:Nat}(hx:x<n) (hy:y<n):le (mt n le x y) y=true:=(h.glb hx hy).lo y (by simp)
theorem LatP.mg {n:Nat}{le:Nat→Nat→Bool}(h:LatP n le){x y z:Nat}(hx:x<n) (hy:y<n) (hz:z<n) (h1:le z x=true) (h2:le z y=true):le z (mt n le x y)=true :=
 (h.glb hx hy).gr z hz (by simp[h1,h2])
theorem LatP.tr {n:Nat}{le:Nat→Nat→Bool}(h:LatP n le){x y z:Nat}(hx:x<n) (hy:y<n) (hz:z<n) (h1:le x y=true) (h2:le y z=true):le x z=true:=h.ord.trans x y z hx hy hz h1 h2
theorem LatP.as {n:Nat}{le:Nat→Nat→Bool}(h:LatP n le){x y:Nat}(hx:x<n) (hy:y<n) (h1:le x y=true) (h2:le y x=true):x=y:=by
 by_cases e:x=y
 ·exact e
 ·rw[h.ord.anti x y hx hy e h1]at h2;cases h2
theorem topEx {n:Nat}{le:Nat→Nat→Bool}(h:LatP n le):∃t,IsGlb n le [] t:=by
 have key:∀i,i≤n→∃t,t<n∧∀x,x<i→le x t=true:=by
  intro i
  induction i with
  | zero=>exact fun _=>⟨0,h.lat.ne,by intro x hx;omega⟩
  | succ i ih =>
   intro hi
   obtain⟨t,ht,h1⟩:=ih (by omega)
   have hin:i<n:=by omega
   refine⟨mt n (Ytiihhfkjppecaaa.du le) t i,h.du.mlt ht hin,all_lt_succ.2 ⟨fun x hx => ?_,h.du.m2 ht hin⟩⟩
   exact h.tr (by omega) ht (h.du.mlt ht hin) (h1 x hx) (h.du.m1 ht hin)
 obtain⟨t,ht,h1⟩:=key n (by omega)
 exact⟨t,ht,by simp,fun z hz _=>h1 z hz⟩
theorem glbEx {n:Nat}{le:Nat→Nat→Bool}(h:LatP n le):∀S:List Nat,(∀s∈S,s<n)→∃m,IsGlb n le S m
 | [],_=>topEx h
 | s::S,hS=>by
  obtain⟨m,hm⟩:=glbEx h S fun x hx=>hS x (by simp[hx])
  have hs:=hS s (by simp)
  refine⟨mt n le s m,h.mlt hs hm.lt,fun x hx => ?_,fun z hz hx => ?_⟩
  ·rcases List.mem_cons.1 hx with rfl|hx'
   ·exact h.m1 hs hm.lt
   ·exact h.tr (h.mlt hs hm.lt) hm.lt (hS x hx) (h.m2 hs hm.lt) (hm.lo x hx')
  ·exact h.mg hs hm.lt hz (hx s (by simp)) (hm.gr z hz fun x hx'=>hx x (by simp[hx']))
theorem LatP.gbs {n:Nat}{le:Nat→Nat→Bool}(h:LatP n le){S:List Nat}(hS:∀s∈S,s<n):IsGlb n le S (gb n le S):=by
 obtain⟨m,hm⟩:=glbEx h S hS
 unfold gb
 rw[wgf h.ord hm]
 exact hm
theorem noneLt {n:Nat}:∀s∈([]:List Nat),s<n:=fun s hs=>by cases hs
abbrev bt (n:Nat) (le:Nat→Nat→Bool):Nat:=gb n (du le) []
abbrev tp (n:Nat) (le:Nat→Nat→Bool):Nat:=gb n le []
theorem wlj {n:Nat}{le:Nat→Nat→Bool}(h:LatP n le):bt n le<n:=(h.du.gbs noneLt).lt
theorem wlq {n:Nat}{le:Nat→Nat→Bool}(h:LatP n le):tp n le<n:=(h.gbs noneLt).lt
theorem wli {n:Nat}{le:Nat→Nat→Bool}(h:LatP n le){x:Nat}(hx:x<n):le (bt n le) x=true:=(h.du.gbs noneLt).gr x hx (by simp)
theorem wlm {n:Nat}{le:Nat→Nat→Bool}(h:LatP n le){x:Nat}(hx:x<n):le x (tp n le)=true:=(h.gbs noneLt).gr x hx (by simp)
theorem jlt {n:Nat}{le:Nat→Nat→Bool}(h:LatP n le){x y:Nat}(hx:x<n) (hy:y<n):mt n (du le) x y<n:=h.du.mlt hx hy
theorem j1 {n:Nat}{le:Nat→Nat→Bool}(h:LatP n le){x y:Nat}(hx:x<n) (hy:y<n):le x (mt n (du le) x y)=true:=h.du.m1 hx hy
theorem j2 {n:Nat}{le:Nat→Nat→Bool}(h:LatP n le){x y:Nat}(hx:x<n) (hy:y<n):le y (mt n (du le) x y)=true:=h.du.m2 hx hy
theorem jg {n:Nat}{le:Nat→Nat→Bool}(h:LatP n le){x y z:Nat}(hx:x<n) (hy:y<n) (hz:z<n) (h1:le x z=true) (h2:le y z=true):le (mt n (du le) x y) z=true:=h.du.mg hx hy hz h1 h2
def rel (n:Nat) (le:Nat→Nat→Bool) (x y z:Nat):List Nat:=fl n fun c=>decide (mt n le c y=x)&&decide (mt n (du le) c y=z)
def comp (n:Nat) (le:Nat→Nat→Bool) (x:Nat):List Nat:=rel n le (bt n le) x (tp n le)
def Cen (n:Nat) (le:Nat→Nat→Bool) (x y:Nat):Prop:=∀z,z<n→mt n (du le) (mt n le z x) (mt n le z y)=z∧mt n le (mt n (du le) z x) (mt n (du le) z y)=z
abbrev P2:=Int×Int×Unit
def lx:List Int→List Int→Bool
 | a::s,b::t=>if a≠b then decide (a<b) else lx s t
 | _,_=>false
theorem wky {a b:List Int}{i:Nat}(h1:i<a.length) (h2:i<b.length):lx (a.drop i) (b.drop i)=if a[i]≠b[i] then decide (a[i]<b[i]) else lx (a.drop (i+1)) (b.drop (i+1)):=by
 rw[List.drop_eq_getElem_cons h1,List.drop_eq_getElem_cons h2,lx]
structure Pt (n:Nat) (P:Nat→Nat):Prop where
 lo:∀x,x<n→P x≤x
 id:∀x,x<n→P (P x)=P x
theorem Pt.lt {n:Nat}{P:Nat→Nat}(h:Pt n P){x:Nat}(hx:x<n):P x<n:=Nat.lt_of_le_of_lt (h.lo x hx) hx
def Lep (n:Nat) (P C:Nat→Nat):Prop:=∀x,x<n→C (P x)=C x
theorem Lep.refl {n:Nat}{P:Nat→Nat}(h:Pt n P):Lep n P P:=h.id
theorem Lep.trans {n:Nat}{P Q C:Nat→Nat}(h:Pt n P) (h1:Lep n P Q) (h2:Lep n Q C):Lep n P C:=fun x hx=>by
 have e1:=h1 x hx
 have e2:=h2 (P x) (h.lt hx)
 have e3:=h2 x hx
 rw[←e2,e1,e3]
theorem wik (a b:List Int) (h:a.length=b.length) (h2:a.length≤4294967296):V46 big a b=some (lx a b,()):=by
 unfold V46 wf6
 refine wk5 a.length (fun i=>lx a b=lx (a.drop i) (b.drop i)) (by omega) ?_ ?_ 0 (by omega) rfl
 ·intro rc i hi hv ih
  have hib:i<b.length:=by omega
  unfold wax
  simp only[cdt (show(i:Int)<(a.length:Int) by omega),jf a i hi,jf b i hib,obS,wr1 (show i≤4611686018427387904 by omega)]
  rw[wky hi hib]at hv
  by_cases e:a[i]=b[i]
  ·rw[cdf (by simp[e])]
   rw[if_neg (by simp[e])]at hv
   exact ih hv
  ·rw[cdt e,hv,if_pos e]
 ·intro rc hv
  rw[List.drop_length]at hv
  unfold wax
  rw[cdf (by omega),zv,hv];rfl
inductive Wd where
 | v (n:Int)
 | op (g:Int) (a b:Wd)
def Wd.fl:Wd→List Int
 | .v n=>[n]
 | .op g a b=>g::(a.fl++b.fl)
def Wd.hd:Wd→Int
 | .v n=>n
 | .op g _ _=>g
theorem hd_v (n:Int):(Wd.v n).hd=n:=rfl
theorem x9 (g:Int) (a b:Wd):(Wd.op g a b).hd=g:=rfl
def Wd.ok:Wd→Prop
 | .v n=>0≤n∧n<5
 | .op g a b=>(g = -1∨g = -2)∧a.ok∧b.ok
theorem Wd.pos:∀A:Wd,0<A.fl.length
 | .v n=>by simp[Wd.fl]
 | .op g a b=>by simp[Wd.fl]
theorem wcr:∀(A:Wd),A.ok→∀(r:List Int) (n c:Nat),we (A.fl++r) (n+1) c=we r n (c+A.fl.length)
 | .v x,h,r,n,c=>by
  simp only[Wd.ok]at h
  simp only[Wd.fl,List.cons_append,List.nil_append,we,List.length_cons,List.length_nil]
  rw[if_neg (by omega),if_pos h.1]
 | .op g a b,h,r,n,c=>by
  obtain⟨hg,ha,hb⟩:=h
  simp only[Wd.fl,List.cons_append,we]
  rw[if_neg (by omega),if_neg (by omega),List.append_assoc,wcr a ha,wcr b hb]
  simp only[List.length_cons,List.length_append]
  congr 1
  omega
theorem wbj:∀(m:Nat) (xs:List Int) (n c e:Nat),xs.length≤m→we xs (n+1) c=some e→∃A r,A.ok∧xs=Wd.fl A++r∧we r n (c+A.fl.length)=some e
 | _,[],n,c,e,_,h=>by simp[we]at h
 | 0,_::_,_,_,_,hm,_=>by simp at hm
 | m+1,x::xs,n,c,e,hm,h=>by
  simp only[List.length_cons]at hm
  simp only[we]at h
  split at h
  ·cases h
  rename_i hx
  split at h
  ·rename_i h0
   exact⟨.v x,xs,⟨h0,by omega⟩,rfl,h⟩
  ·rename_i h0
   obtain⟨A,r1,hA,e1,h1⟩:=wbj m xs (n+1) (c+1) e (by omega) h
   have hl:r1.length≤m:=by
    have:=congrArg List.length e1
    simp only[List.length_append]at this
    omega
   obtain⟨B,r2,hB,e2,h2⟩:=wbj m r1 n _ e hl h1
   refine⟨.op x A B,r2,⟨by omega,hA,hB⟩, ?_, ?_⟩
   ·rw[e1,e2];simp[Wd.fl]
   ·rw[←h2]
    congr 1
    simp[Wd.fl]
    omega
theorem z8:∀(A B:Wd),A.ok→B.ok→∀(r r':List Int),A.fl++r=B.fl++r'→A=B∧r=r'
 | .v x,.v y,_,_,r,r',h=>by
  simp only[Wd.fl,List.cons_append,List.nil_append,List.cons.injEq]at h
  exact⟨by rw[h.1],h.2⟩
 | .v x,.op g a b,ha,hb,r,r',h=>by
  simp only[Wd.fl,List.cons_append,List.nil_append,List.cons.injEq]at h
  have h1:=ha.1
  have h2:=hb.1
  omega
 | .op g a b,.v x,ha,hb,r,r',h=>by
  simp only[Wd.fl,List.cons_append,List.nil_append,List.cons.injEq]at h
  have h1:=ha.1
  have h2:=hb.1
  omega
 | .op g a b,.op g' a' b',ha,hb,r,r',h=>by
  simp only[Wd.fl,List.cons_append,List.append_assoc,List.cons.injEq]at h
  obtain⟨e0,h⟩:=h
  obtain⟨e1,h⟩:=z8 a a' ha.2.1 hb.2.1 _ _ h
  obtain⟨e2,h⟩:=z8 b b' ha.2.2 hb.2.2 _ _ h
  exact⟨by rw[e0,e1,e2],h⟩
theorem wa8 {w:List Int}(h:isWord w=true):∃A:Wd,A.ok∧A.fl=w:=by
 obtain⟨_,h⟩:=(wah w).1 h
 obtain⟨A,r,hA,e,h2⟩:=wbj w.length w 0 0 w.length (Nat.le_refl _) h
 rw[x8]at h2
 simp only[Option.some.injEq]at h2
 have:=congrArg List.length e
 simp only[List.length_append]at this
 have hr:r=[]:=List.eq_nil_of_length_eq_zero (by omega)
 exact⟨A,hA,by rw[e,hr,List.append_nil]⟩
def wle:Wd→Wd→Bool
 | .v n,.v m=>decide (n=m)
 | .v n,.op h c d=>if h = -1 then wle (.v n) c&&wle (.v n) d else wle (.v n) c||wle (.v n) d
 | .op g a b,.v m=>if g = -2 then wle a (.v m)&&wle b (.v m) else wle a (.v m)||wle b (.v m)
 | .op g a b,.op h c d=>if g = -2 then wle a (.op h c d)&&wle b (.op h c d) else if h = -1 then wle (.op g a b) c&&wle (.op g a b) d else(wle a (.op h c d)||wle b (.op h c d))||(wle (.op g a b) c||wle (.op g a b) d)
  termination_by A B=>A.fl.length+B.fl.length
  decreasing_by all_goals (simp[Wd.fl];try omega)
def At (s:List Int) (i:Nat) (A:Wd):Prop:=A.ok∧∃r,s.drop i=A.fl++r
theorem At.lt {s:List Int}{i:Nat}{A:Wd}(h:At s i A):i+A.fl.length≤s.length:=by
 obtain⟨_,r,e⟩:=h
 have:=congrArg List.length e
 have:=A.pos
 simp only[List.length_drop,List.length_append]at *
 omega
theorem At.uniq {s:List Int}{i:Nat}{A B:Wd}(h:At s i A) (h':At s i B):A=B:=by
 obtain⟨ha,r,e⟩:=h
 obtain⟨hb,r',e'⟩:=h'
 rw[e]at e'
 exact(z8 A B ha hb _ _ e').1
theorem At.end_ {s:List Int}{i:Nat}{A:Wd}(h:At s i A):wEnd s i=((i+A.fl.length:Nat):Int):=by
 obtain⟨ha,r,e⟩:=h
 unfold wEnd
 rw[e,wcr A ha,x8]
theorem At.head {s:List Int}{i:Nat}{A:Wd}(h:At s i A):atI s (i:Int)=some A.hd:=by
 have hl:=h.lt
 have hp:=A.pos
 obtain⟨_,r,e⟩:=h
 rw[qc]
 have:s[i]? = (s.drop i)[0]? := by rw[List.getElem?_drop];rfl
 rw[this,e]
 cases A<;>simp[Wd.fl,Wd.hd]
theorem At.left {s:List Int}{i:Nat}{g:Int}{a b:Wd}(h:At s i (.op g a b)):At s (i+1) a:=by
 obtain⟨⟨_,ha,_⟩,r,e⟩:=h
 refine⟨ha,b.fl++r, ?_⟩
 rw[←List.drop_drop,e]
 simp[Wd.fl]
theorem At.right {s:List Int}{i:Nat}{g:Int}{a b:Wd}(h:At s i (.op g a b)):At s (i+1+a.fl.length) b:=by
 obtain⟨⟨_,_,hb⟩,r,e⟩:=h
 refine⟨hb,r, ?_⟩
 rw[←List.drop_drop,←List.drop_drop,e]
 simp[Wd.fl]
theorem At.zero {A:Wd}(h:A.ok):At A.fl 0 A:=⟨h,[],by simp⟩
abbrev K2:Ty := .pair I (.pair I .unit)
def OkM (s t:List Int) (m:List ((Int×(Int×Unit))×Bool)):Prop :=
 ∀(i k:Nat) A B,At s i A→At t k B→∀b,mget K2 .bool m ((i:Int),((k:Int),()))=some b→b=wle A B
theorem wa4 (x y:Int×(Int×Unit)):eqD K2 x y=decide (x=y):=by
 obtain⟨a,b,u⟩:=x
 obtain⟨c,d,v⟩:=y
 show(decide (a=c)&&(decide (b=d)&&true))=decide ((a,b,u)=(c,d,v))
 rw[Bool.eq_iff_iff]
 simp
theorem wc6 (x y:Int×(Int×Unit)) (b:Bool):∀m:List ((Int×(Int×Unit))×Bool),mget K2 .bool (mput K2 .bool m x b) y=if y=x then some b else mget K2 .bool m y
 | []=>by
  show cond (eqD K2 y x) (some b) none=_
  rw[wa4,cd]
  rfl
 | (z,c)::m=>by
  have ih:=wc6 x y b m
  show mget K2 .bool (cond (eqD K2 x z) ((x,b)::m) ((z,c)::mput K2 .bool m x b)) y=(if y=x then some b else cond (eqD K2 y z) (some c) (mget K2 .bool m y))
  rw[wa4,cd,wa4,cd]
  by_cases hx:x=z
  ·rw[if_pos hx,←hx]
   show cond (eqD K2 y x) (some b) (mget K2 .bool m y)=_
   rw[wa4,cd]
   by_cases h:y=x<;>simp[h]
  ·rw[if_neg hx]
   show cond (eqD K2 y z) (some c) (mget K2 .bool (mput K2 .bool m x b) y)=_
   rw[wa4,cd,ih]
   by_cases hz:y=z
   ·rw[if_pos hz,if_neg (by rintro rfl;exact hx hz),if_pos hz]
   ·rw[if_neg hz,if_neg hz]
theorem wrN {n:Nat}(h:n≤1000000000000):IntKind.i64.wrap ((n:Int)+1)=((n+1:Nat):Int):=by rw[wr (by omega) (by omega)];omega
theorem w7 {s:List Int}{i:Nat}{A:Wd}(hs:s.length≤1000000) (h:At s i A):V14 big s (i:Int)=some (((i+A.fl.length:Nat):Int),()):=by
 rw[wam s i (by have:=h.lt;omega) (by omega),h.end_]
theorem w9 {s:List Int}{i:Nat}{A:Wd}(hs:s.length≤1000000) (h:At s i A):V10 big s (i:Int)=some (((i+A.fl.length:Nat):Int),()):=by
 rw[wa5 s i (by have:=h.lt;omega) (by omega),h.end_]
def Res (s t:List Int) (o:Option (Bool×(((List Int)×((List Int)×((List ((Int×(Int×Unit))×Bool))×Unit)))×Unit))) (b:Bool):Prop:=∃m',o=some (b,(s,(t,(m',()))),())∧OkM s t m'
def GivesB (s t:List Int) (d:Nat) (A B:Wd):Prop:=∀(i k:Nat) m,At s i A→At t k B→OkM s t m→Res s t (R_V17 d ((s,(t,(m,()))),(i:Int),(k:Int),())) (wle A B)
def GivesD (s t:List Int) (d:Nat) (A B:Wd):Prop:=∀(i k:Nat) m,At s i A→At t k B→OkM s t m→Res s t (R_V18 d ((s,(t,(m,()))),(i:Int),(k:Int),())) (wle A B)
theorem wew {s t:List Int}{d:Nat}{A B:Wd}(h:GivesD s t d A B):GivesB s t (d+1) A B:=by
 intro i k m hA hB hm
 show Res s t (V17 (R_V17 d) (R_V18 d) (s,(t,(m,()))) (i:Int) (k:Int)) (wle A B)
 unfold V17 wjf
 simp only
 cases hg:mget K2 .bool m ((i:Int),((k:Int),())) with
 | none =>
  obtain⟨m',h1,h2⟩:=h i k m hA hB hm
  rw[h1]
  refine⟨_,rfl,fun i' k' A' B' hA' hB' b hb => ?_⟩
  simp only[wc6]at hb
  split at hb
  ·rename_i e
   simp only[Prod.mk.injEq,and_true]at e
   have e1:(i':Int)=(i:Int):=e.1
   have e2:(k':Int)=(k:Int):=e.2
   have e1:i'=i:=by omega
   have e2:k'=k:=by omega
   subst e1 e2
   cases hb
   rw[hA'.uniq hA,hB'.uniq hB]
  ·exact h2 i' k' A' B' hA' hB' b hb
 | some b =>
  refine⟨m, ?_,hm⟩
  rw[←hm i k A B hA hB b hg]
  rfl
theorem wgi {s t:List Int}(hs:s.length≤1000000) (ht:t.length≤1000000):∀(n:Nat) (A B:Wd),A.fl.length+B.fl.length≤n→(∀d,2*(A.fl.length+B.fl.length)≤d→GivesD s t d A B):=by
 intro n
 induction n with
 | zero=>intro A B h;have:=A.pos;omega
 | succ n ih =>
  intro A B hn d hd
  have pa:=A.pos
  have pb:=B.pos
  cases d with
  | zero=>omega
  | succ d =>
  have sub:∀A' B':Wd,A'.fl.length+B'.fl.length<A.fl.length+B.fl.length→GivesB s t d A' B':=by
   intro A' B' h
   have:=A'.pos
   cases d with
   | zero=>omega
   | succ d=>exact wew (ih A' B' (by omega) d (by omega))
  intro i k m hA hB hm
  show Res s t (V18 (R_V17 d) (R_V18 d) (s,(t,(m,()))) (i:Int) (k:Int)) (wle A B)
  unfold V18 wjg
  have hAl:=hA.lt
  have hBl:=hB.lt
  have okA:=hA.1
  have okB:=hB.1
  obtain⟨x,hx⟩:∃x,x=A.hd:=⟨_,rfl⟩
  obtain⟨y,hy⟩:∃y,y=B.hd:=⟨_,rfl⟩
  have hah:=hA.head
  have hbh:=hB.head
  rw[←hx]at hah
  rw[←hy]at hbh
  simp only[hah,hbh,obS]
  rw[wrN (n:=i) (by omega),wrN (n:=k) (by omega)]
  cases A with
  | v x' =>
   have hx:x=x':=hx
   have hx0:0≤x:=by rw[hx];exact okA.1
   cases B with
   | v y' =>
    have hy:y=y':=hy
    have hy0:0≤y:=by rw[hy];exact okB.1
    rw[cdf (by omega),cdf (by omega),cdt hx0,cdt hy0]
    exact⟨m,by simp[wle,hx,hy],hm⟩
   | op g a b =>
    have hy:y=g:=hy
    have hgo:=okB.1
    obtain⟨m1,q1,o1⟩:=sub (.v x') a (by simp[Wd.fl];omega) i (k+1) m hA hB.left hm
    rw[cdf (by omega)]
    by_cases hg:y = -1
    ·rw[cdt hg,q1]
     simp only[obS]
     rw[w7 ht hB.left]
     obtain⟨m2,q2,o2⟩:=sub (.v x') b (by simp[Wd.fl];omega) i (k+1+a.fl.length) m1 hA hB.right o1
     simp only[obS,q2]
     rw[wle,if_pos (hy▸hg)]
     cases wle (.v x') a
     ·exact⟨m1,by simp,o1⟩
     ·exact⟨m2,by simp,o2⟩
    ·rw[cdf hg,cdt hx0,cdf (by omega),cdf (by omega),cdt (by omega),q1]
     simp only[obS]
     rw[w7 ht hB.left]
     obtain⟨m2,q2,o2⟩:=sub (.v x') b (by simp[Wd.fl];omega) i (k+1+a.fl.length) m1 hA hB.right o1
     simp only[obS,q2]
     rw[wle,if_neg (by omega)]
     cases wle (.v x') a
     ·exact⟨m2,by simp,o2⟩
     ·exact⟨m1,by simp,o1⟩
  | op g a b =>
   have hx:x=g:=hx
   have hgo:=okA.1
   by_cases hg:x = -2
   ·obtain⟨m1,q1,o1⟩:=sub a B (by simp[Wd.fl];omega) (i+1) k m hA.left hB hm
    obtain⟨m2,q2,o2⟩:=sub b B (by simp[Wd.fl];omega) (i+1+a.fl.length) k m1 hA.right hB o1
    rw[cdt hg,q1]
    simp only[obS]
    rw[w7 hs hA.left]
    simp only[obS,q2]
    have e:wle (.op g a b) B=(wle a B&&wle b B):=by cases B<;>rw[wle,if_pos (by omega)]
    rw[e]
    cases wle a B
    ·exact⟨m1,by simp,o1⟩
    ·exact⟨m2,by simp,o2⟩
   ·cases B with
    | v y' =>
     have hy:y=y':=hy
     have hy0:0≤y:=by rw[hy];exact okB.1
     obtain⟨m1,q1,o1⟩:=sub a (.v y') (by simp[Wd.fl];omega) (i+1) k m hA.left hB hm
     obtain⟨m2,q2,o2⟩:=sub b (.v y') (by simp[Wd.fl];omega) (i+1+a.fl.length) k m1 hA.right hB o1
     rw[cdf hg,cdf (by omega),cdf (by omega),cdt (by omega),q1]
     simp only[obS]
     rw[w7 hs hA.left]
     simp only[obS,q2]
     rw[cdf (by omega),wle,if_neg (by omega)]
     cases wle a (.v y')
     ·cases wle b (.v y')
      ·exact⟨m2,by simp,o2⟩
      ·exact⟨m2,by simp,o2⟩
     ·exact⟨m1,by simp,o1⟩
    | op h c e =>
     have hy:y=h:=hy
     have hho:=okB.1
     rw[cdf hg]
     by_cases hh:y = -1
     ·obtain⟨m1,q1,o1⟩:=sub (.op g a b) c (by simp[Wd.fl];omega) i (k+1) m hA hB.left hm
      obtain⟨m2,q2,o2⟩:=sub (.op g a b) e (by simp[Wd.fl];omega) i (k+1+c.fl.length) m1 hA hB.right o1
      rw[cdt hh,q1]
      simp only[obS]
      rw[w7 ht hB.left]
      simp only[obS,q2]
      rw[wle,if_neg (by omega),if_pos (by omega)]
      cases wle (.op g a b) c
      ·exact⟨m1,by simp,o1⟩
      ·exact⟨m2,by simp,o2⟩
     ·obtain⟨m1,q1,o1⟩:=sub a (.op h c e) (by simp[Wd.fl];omega) (i+1) k m hA.left hB hm
      obtain⟨m2,q2,o2⟩:=sub b (.op h c e) (by simp[Wd.fl];omega) (i+1+a.fl.length) k m1 hA.right hB o1
      obtain⟨m3,q3,o3⟩:=sub (.op g a b) c (by simp[Wd.fl];omega) i (k+1) m2 hA hB.left o2
      obtain⟨m4,q4,o4⟩:=sub (.op g a b) e (by simp[Wd.fl];omega) i (k+1+c.fl.length) m3 hA hB.right o3
      rw[cdf hh,cdf (by omega),cdt (by omega),q1]
      simp only[obS]
      rw[w7 hs hA.left]
      simp only[obS,q2]
      rw[cdt (show y = -2 by omega),q3]
      simp only[obS]
      rw[w7 ht hB.left]
      simp only[obS,q4]
      rw[wle,if_neg (by omega),if_neg (by omega)]
      cases wle a (.op h c e)
      ·cases wle b (.op h c e)
       ·cases wle (.op g a b) c
        ·exact⟨m4,by simp,o4⟩
        ·exact⟨m3,by simp,o3⟩
       ·exact⟨m2,by simp,o2⟩
      ·exact⟨m1,by simp,o1⟩
theorem wu {A B:Wd}(hA:A.ok) (hB:B.ok) (ha:A.fl.length≤40) (hb:B.fl.length≤40):V20 A.fl B.fl=some (wle A B,()):=by
 have hg:=jp
 unfold V20 wjh
 obtain⟨d,hd⟩:∃d,big=d+1:=⟨big-1,by omega⟩
 have h:=wew (wgi (s:=A.fl) (t:=B.fl) (by omega) (by omega) _ A B (Nat.le_refl _) d (by omega))
 obtain⟨m',q,_⟩:=h 0 0 [] (At.zero hA) (At.zero hB) (fun i k A B _ _ b hb=>by simp[mget]at hb)
 rw[hd]
 have q:R_V17 (d+1) ((A.fl,(B.fl,([],()))),(0:Int),(0:Int),())=some (wle A B,(A.fl,(B.fl,(m',()))),()):=q
 rw[q]
 rfl
def OkL (s t:List Int) (L:List Int) (i k:Nat):Prop:=∀A B,At s i A→At t k B→∀x:Int,L[i*t.length+k]? = some x→x=0∨x=if wle A B then 1 else 2
def SRes (s t L:List Int) (o:Option (Bool×((List Int)×Unit))) (b:Bool):Prop:=∃L',o=some (b,(L',()))∧L'.length=L.length∧∀i k,k<t.length→OkL s t L i k→OkL s t L' i k
def GivesF (s t:List Int) (d:Nat) (A B:Wd):Prop:=∀(i k:Nat) L,At s i A→At t k B→L.length=s.length*t.length→(∀i' k',k'<t.length→i+k≤i'+k'→OkL s t L i' k')→SRes s t L (R_V23 d (s,t,(i:Int),(k:Int),L,())) (wle A B)
def GivesA (s t:List Int) (d:Nat) (A B:Wd):Prop:=∀(i k:Nat) L,At s i A→At t k B→L.length=s.length*t.length→(∀i' k',k'<t.length→i+k+1≤i'+k'→OkL s t L i' k')→SRes s t L (R_V24 d (s,t,(i:Int),(k:Int),L,())) (wle A B)
theorem wim {n i k i' k':Nat}(hk:k<n) (hk':k'<n) (h:i*n+k=i'*n+k'):i=i'∧k=k':=by
 have e1:(i*n+k) / n=i:=by rw[Nat.mul_comm,Nat.mul_add_div (by omega),Nat.div_eq_of_lt hk];omega
 have e2:(i'*n+k') / n=i':=by rw[Nat.mul_comm,Nat.mul_add_div (by omega),Nat.div_eq_of_lt hk'];omega
 have e:i=i':=by rw[←e1,←e2,h]
 subst e
 omega
theorem wi2 {m n i k:Nat}(hi:i<m) (hk:k<n):i*n+k<m*n:=by
 have:(i+1)*n≤m*n:=Nat.mul_le_mul_right n hi
 rw[Nat.succ_mul]at this
 omega
theorem wi3 {m n i k:Nat}(hm:m≤1000) (hn:n≤1000) (hi:i<m) (hk:k<n):IntKind.i64.wrap ((IntKind.i64.wrap ((i:Int)*(n:Int)))+(k:Int))=((i*n+k:Nat):Int):=by
 have h1:i*n≤1000*1000:=Nat.mul_le_mul (by omega) hn
 have e:(i:Int)*(n:Int)=((i*n:Nat):Int):=by simp
 rw[e,wr (n:=((i*n:Nat):Int)) (by omega) (by omega),wr (by omega) (by omega)]
 simp
theorem wfn {s t:List Int}(hs:s.length≤1000) (ht:t.length≤1000){d:Nat}{A B:Wd}(h:GivesA s t d A B):GivesF s t (d+1) A B:=by
 intro i k L hA hB hL hok
 have hi:i<s.length:=by have:=hA.lt;have:=A.pos;omega
 have hk:k<t.length:=by have:=hB.lt;have:=B.pos;omega
 have hp:=wi2 hi hk
 show SRes s t L (V23 (R_V23 d) (R_V24 d) s t (i:Int) (k:Int) L) (wle A B)
 unfold V23 wji
 simp only[wi3 hs ht hi hk,Int.toNat_natCast]
 generalize hpp:i*t.length+k=p at *
 have hpL:p<L.length:=by omega
 rw[jf L p hpL,obS,List.getElem?_eq_getElem hpL,obS]
 by_cases h0:L[p]=0
 ·rw[cdt h0]
  have other:∀(M:List Int) (v:Int) i' k',k'<t.length→(i'≠i∨k'≠k)→OkL s t M i' k'→OkL s t (M.set p v) i' k':=by
   intro M v i' k' hk' hne ho A' B' hA' hB' x hx
   rw[List.getElem?_set_ne]at hx
   ·exact ho A' B' hA' hB' x hx
   ·intro e
    rw[←hpp]at e
    have:=wim hk hk' e
    omega
  obtain⟨L3,q,l3,o3⟩:=h i k (L.set p 2) hA hB (by rw[List.length_set];exact hL) (fun i' k' hk' hle=>other L 2 i' k' hk' (by omega) (hok i' k' hk' (by omega)))
  rw[List.length_set]at l3
  have hp3:p<L3.length:=by omega
  rw[obS,obS,q]
  simp only[obS]
  have keep:∀i' k',k'<t.length→(i'≠i∨k'≠k)→OkL s t L i' k'→OkL s t L3 i' k':=fun i' k' hk' hne ho=>o3 i' k' hk' (other L 2 i' k' hk' hne ho)
  cases hw:wle A B with
  | true =>
   rw[cond_true,jf L3 p hp3,obS,List.getElem?_eq_getElem hp3,obS,jf _ p (by rw[List.length_set];exact hp3),obS,List.getElem?_set_self hp3,obS]
   refine⟨L3.set p 1,by simp,by rw[List.length_set];exact l3,fun i' k' hk' ho => ?_⟩
   by_cases hne:i'≠i∨k'≠k
   ·exact other L3 1 i' k' hk' hne (keep i' k' hk' hne ho)
   ·obtain⟨rfl,rfl⟩:i'=i∧k'=k:=by omega
    intro A' B' hA' hB' x hx
    rw[hpp,List.getElem?_set_self hp3]at hx
    cases hx
    rw[hA'.uniq hA,hB'.uniq hB,hw]
    simp
  | false =>
   rw[cond_false,jf L3 p hp3,obS,List.getElem?_eq_getElem hp3,obS]
   have ok3:OkL s t L3 i k:=o3 i k hk (fun A' B' hA' hB' x hx=>by
    rw[hpp,List.getElem?_set_self hpL]at hx
    cases hx
    rw[hA'.uniq hA,hB'.uniq hB,hw]
    simp)
   have hx3:=ok3 A B hA hB L3[p] (by rw[hpp,List.getElem?_eq_getElem hp3])
   rw[hw]at hx3
   have hne1:L3[p]≠1:=by
    rcases hx3 with hx3|hx3
    ·omega
    ·simp at hx3;omega
   refine⟨L3,by simp[hne1],l3,fun i' k' hk' ho => ?_⟩
   by_cases hne:i'≠i∨k'≠k
   ·exact keep i' k' hk' hne ho
   ·obtain⟨rfl,rfl⟩:i'=i∧k'=k:=by omega
    exact ok3
 ·rw[cdf h0,obS,obS]
  have hx:=hok i k hk (Nat.le_refl _) A B hA hB L[p] (by rw[hpp,List.getElem?_eq_getElem hpL])
  refine⟨L, ?_,rfl,fun _ _ _ ho=>ho⟩
  rcases hx with hx|hx
  ·exact absurd hx h0
  ·rw[hx]
   cases wle A B<;>simp
theorem wgp {s t:List Int}(hs:s.length≤1000) (ht:t.length≤1000):∀(n:Nat) (A B:Wd),A.fl.length+B.fl.length≤n→(∀d,2*(A.fl.length+B.fl.length)≤d→GivesA s t d A B):=by
 intro n
 induction n with
 | zero=>intro A B h;have:=A.pos;omega
 | succ n ih =>
  intro A B hn d hd
  have pa:=A.pos
  have pb:=B.pos
  cases d with
  | zero=>omega
  | succ d =>
  have sub0:∀A' B':Wd,A'.fl.length+B'.fl.length<A.fl.length+B.fl.length→GivesF s t d A' B':=by
   intro A' B' h
   have:=A'.pos
   cases d with
   | zero=>omega
   | succ d=>exact wfn hs ht (ih A' B' (by omega) d (by omega))
  intro i k L hA hB hL hok
  show SRes s t L (V24 (R_V23 d) (R_V24 d) s t (i:Int) (k:Int) L) (wle A B)
  have sub:∀(A' B':Wd),A'.fl.length+B'.fl.length<A.fl.length+B.fl.length→∀(i' k':Nat) (M:List Int),At s i' A'→At t k' B'→i+k+1≤i'+k'→M.length=L.length→(∀i' k',k'<t.length→OkL s t L i' k'→OkL s t M i' k') →
    ∃M',R_V23 d (s,t,(i':Int),(k':Int),M,())=some (wle A' B',(M',()))∧M'.length=L.length∧∀i' k',k'<t.length→OkL s t L i' k'→OkL s t M' i' k':=by
   intro A' B' h i' k' M hA' hB' hle hM hk
   obtain⟨M',q,l,o⟩:=sub0 A' B' h i' k' M hA' hB' (by rw[hM,hL]) (fun i2 k2 hk2 hle2=>hk i2 k2 hk2 (hok i2 k2 hk2 (by omega)))
   exact⟨M',q,by rw[l,hM],fun i2 k2 hk2 ho=>o i2 k2 hk2 (hk i2 k2 hk2 ho)⟩
  unfold V24 wjj
  have hAl:=hA.lt
  have hBl:=hB.lt
  have okA:=hA.1
  have okB:=hB.1
  obtain⟨x,hx⟩:∃x,x=A.hd:=⟨_,rfl⟩
  obtain⟨y,hy⟩:∃y,y=B.hd:=⟨_,rfl⟩
  have hah:=hA.head
  have hbh:=hB.head
  rw[←hx]at hah
  rw[←hy]at hbh
  simp only[hah,hbh,obS]
  rw[wrN (n:=i) (by omega),wrN (n:=k) (by omega)]
  cases A with
  | v x' =>
   have hx:x=x':=hx
   have hx0:0≤x:=by rw[hx];exact okA.1
   cases B with
   | v y' =>
    have hy:y=y':=hy
    have hy0:0≤y:=by rw[hy];exact okB.1
    rw[cdf (by omega),cdf (by omega),cdt hx0,cdt hy0]
    exact⟨L,by simp[wle,hx,hy],rfl,fun _ _ _ h=>h⟩
   | op g a b =>
    have hy:y=g:=hy
    have hgo:=okB.1
    obtain⟨m1,q1,l1,o1⟩:=sub (.v x') a (by simp[Wd.fl];omega) i (k+1) L hA hB.left (by omega) rfl fun _ _ _ h=>h
    obtain⟨m2,q2,l2,o2⟩:=sub (.v x') b (by simp[Wd.fl];omega) i (k+1+a.fl.length) m1 hA hB.right (by omega) l1 o1
    rw[cdf (by omega)]
    by_cases hg:y = -1
    ·rw[cdt hg,q1]
     simp only[obS]
     rw[w9 (by omega) hB.left]
     simp only[obS,q2]
     rw[wle,if_pos (by omega)]
     cases wle (.v x') a
     ·exact⟨m1,by simp,l1,o1⟩
     ·exact⟨m2,by simp,l2,o2⟩
    ·rw[cdf hg,cdt hx0,cdf (by omega),cdf (by omega),cdt (by omega),q1]
     simp only[obS]
     rw[w9 (by omega) hB.left]
     simp only[obS,q2]
     rw[wle,if_neg (by omega)]
     cases wle (.v x') a
     ·exact⟨m2,by simp,l2,o2⟩
     ·exact⟨m1,by simp,l1,o1⟩
  | op g a b =>
   have hx:x=g:=hx
   have hgo:=okA.1
   by_cases hg:x = -2
   ·obtain⟨m1,q1,l1,o1⟩:=sub a B (by simp[Wd.fl];omega) (i+1) k L hA.left hB (by omega) rfl fun _ _ _ h=>h
    obtain⟨m2,q2,l2,o2⟩:=sub b B (by simp[Wd.fl];omega) (i+1+a.fl.length) k m1 hA.right hB (by omega) l1 o1
    rw[cdt hg,q1]
    simp only[obS]
    rw[w9 (by omega) hA.left]
    simp only[obS,q2]
    have e:wle (.op g a b) B=(wle a B&&wle b B):=by cases B<;>rw[wle,if_pos (by omega)]
    rw[e]
    cases wle a B
    ·exact⟨m1,by simp,l1,o1⟩
    ·exact⟨m2,by simp,l2,o2⟩
   ·cases B with
    | v y' =>
     have hy:y=y':=hy
     have hy0:0≤y:=by rw[hy];exact okB.1
     obtain⟨m1,q1,l1,o1⟩:=sub a (.v y') (by simp[Wd.fl];omega) (i+1) k L hA.left hB (by omega) rfl fun _ _ _ h=>h
     obtain⟨m2,q2,l2,o2⟩:=sub b (.v y') (by simp[Wd.fl];omega) (i+1+a.fl.length) k m1 hA.right hB (by omega) l1 o1
     rw[cdf hg,cdf (by omega),cdf (by omega),cdt (by omega),q1]
     simp only[obS]
     rw[w9 (by omega) hA.left]
     simp only[obS,q2]
     rw[cdf (by omega),wle,if_neg (by omega)]
     cases wle a (.v y')
     ·cases wle b (.v y')
      ·exact⟨m2,by simp,l2,o2⟩
      ·exact⟨m2,by simp,l2,o2⟩
     ·exact⟨m1,by simp,l1,o1⟩
    | op h c e =>
     have hy:y=h:=hy
     have hho:=okB.1
     rw[cdf hg]
     by_cases hh:y = -1
     ·obtain⟨m1,q1,l1,o1⟩:=sub (.op g a b) c (by simp[Wd.fl];omega) i (k+1) L hA hB.left (by omega) rfl fun _ _ _ h=>h
      obtain⟨m2,q2,l2,o2⟩:=sub (.op g a b) e (by simp[Wd.fl];omega) i (k+1+c.fl.length) m1 hA hB.right (by omega) l1 o1
      rw[cdt hh,q1]
      simp only[obS]
      rw[w9 (by omega) hB.left]
      simp only[obS,q2]
      rw[wle,if_neg (by omega),if_pos (by omega)]
      cases wle (.op g a b) c
      ·exact⟨m1,by simp,l1,o1⟩
      ·exact⟨m2,by simp,l2,o2⟩
     ·obtain⟨m1,q1,l1,o1⟩:=sub a (.op h c e) (by simp[Wd.fl];omega) (i+1) k L hA.left hB (by omega) rfl fun _ _ _ h=>h
      obtain⟨m2,q2,l2,o2⟩:=sub b (.op h c e) (by simp[Wd.fl];omega) (i+1+a.fl.length) k m1 hA.right hB (by omega) l1 o1
      obtain⟨m3,q3,l3,o3⟩:=sub (.op g a b) c (by simp[Wd.fl];omega) i (k+1) m2 hA hB.left (by omega) l2 o2
      obtain⟨m4,q4,l4,o4⟩:=sub (.op g a b) e (by simp[Wd.fl];omega) i (k+1+c.fl.length) m3 hA hB.right (by omega) l3 o3
      rw[cdf hh,cdf (by omega),cdt (show x = -1 by omega),q1]
      simp only[obS]
      rw[w9 (by omega) hA.left]
      simp only[obS,q2]
      rw[cdt (show y = -2 by omega),q3]
      simp only[obS]
      rw[w9 (by omega) hB.left]
      simp only[obS,q4]
      rw[wle,if_neg (by omega),if_neg (by omega)]
      cases wle a (.op h c e)
      ·cases wle b (.op h c e)
       ·cases wle (.op g a b) c
        ·exact⟨m4,by simp,l4,o4⟩
        ·exact⟨m3,by simp,l3,o3⟩
       ·exact⟨m2,by simp,l2,o2⟩
      ·exact⟨m1,by simp,l1,o1⟩
theorem w5 {A B:Wd}(hA:A.ok) (hB:B.ok) (ha:A.fl.length≤40) (hb:B.fl.length≤40):V26 A.fl B.fl=some (wle A B,()):=by
 have hg:=jp
 unfold V26 wjk
 have h1:A.fl.length*B.fl.length≤40*40:=Nat.mul_le_mul ha hb
 have e:(A.fl.length:Int)*(B.fl.length:Int)=((A.fl.length*B.fl.length:Nat):Int):=by simp
 rw[e,wr (by omega) (by omega),ul _ _ (by omega),obS,obS,cdt (Int.le_refl _)]
 obtain⟨d,hd⟩:∃d,big=d+1:=⟨big-1,by omega⟩
 have h:=wfn (s:=A.fl) (t:=B.fl) (by omega) (by omega) (wgp (by omega) (by omega) _ A B (Nat.le_refl _) d (by omega))
 obtain⟨m',q,_⟩:=h 0 0 (List.replicate (A.fl.length*B.fl.length) 0) (At.zero hA) (At.zero hB) (by simp) (fun i k _ _ A B _ _ x hx=>by
  rw[List.getElem?_replicate]at hx
  split at hx
  ·cases hx;exact .inl rfl
  ·cases hx)
 rw[hd]
 have q:R_V23 (d+1) (A.fl,B.fl,(0:Int),(0:Int),List.replicate (A.fl.length*B.fl.length) 0,())=some (wle A B,(m',())):=q
 rw[q]
 rfl
theorem wcl {s t:List Int}(hs:isWord s=true) (ht:isWord t=true):∃b,V20 s t=some (b,())∧V26 s t=some (b,()):=by
 have ls:=wai hs
 have lt:=wai ht
 obtain⟨A,hA,rfl⟩:=wa8 hs
 obtain⟨B,hB,rfl⟩:=wa8 ht
 exact⟨wle A B,wu hA hB ls lt,w5 hA hB ls lt⟩
theorem wcs (s t:List Int):∃r,V22 s t=some (r,())∧V27 s t=some (r,()):=by
 unfold V22 wda V21 wfw V27 wjl
 rw[zj,zh,obS,obS]
 cases h:isWord s&&isWord t with
 | false=>exact⟨_,rfl,rfl⟩
 | true =>
  simp only[Bool.and_eq_true]at h
  obtain⟨b,h1,h2⟩:=wcl h.1 h.2
  obtain⟨c,h3,h4⟩:=wcl h.2 h.1
  rw[h1,h2,h3,h4]
  cases b with
  | false=>exact⟨_,rfl,rfl⟩
  | true=>exact⟨_,rfl,rfl⟩
def ea (E:List P2) (i:Nat):Nat:=(E.getD i (0,0,())).1.toNat
def sAg (n m:Nat) (lp lq:Nat→Nat→Bool) (S:List Nat) (y z:Nat):Prop :=
 (mt m lq y z<S.length→mt n lp (S.getD y 0) (S.getD z 0)=S.getD (mt m lq y z) 0)∧(mt m (du lq) y z<S.length→mt n (du lp) (S.getD y 0) (S.getD z 0)=S.getD (mt m (du lq) y z) 0)
def sAgr (n m:Nat) (lp lq:Nat→Nat→Bool) (S:List Nat):Prop:=∀y z,y<S.length→z<S.length→sAg n m lp lq S y z
noncomputable def sub (n m:Nat) (lp lq:Nat→Nat→Bool):Nat→List Nat→Option (List Nat)
 | 0,S=>some S
 | k+1,S=>(List.range n).findSome? fun x=>if x∈S then none else bif tv (sAgr n m lp lq (S++[x])) then sub n m lp lq k (S++[x]) else none
theorem wo (a b C:Wd):wle (.op (-2) a b) C=(wle a C&&wle b C):=by
 cases C with
 | v m=>rw[wle];simp
 | op h c d=>rw[wle];simp
theorem wq {A:Wd}(hA:A.ok) (C D:Wd):wle A (.op (-1) C D)=(wle A C&&wle A D):=by
 induction A with
 | v n=>rw[wle];simp
 | op g a b iha ihb =>
  obtain⟨hg,ha,hb⟩:=hA
  rcases hg with rfl|rfl
  ·rw[wle];simp
  ·rw[wo,iha ha,ihb hb,wo,wo]
   cases wle a C<;>cases wle a D<;>cases wle b C<;>cases wle b D<;>rfl
theorem xe {A C:Wd}(hA:A.ok) (D:Wd) (h:wle A C=true):wle A (.op (-2) C D)=true:=by
 induction A with
 | v n=>rw[wle];simp[h]
 | op g a b iha ihb =>
  obtain⟨hg,ha,hb⟩:=hA
  rcases hg with rfl|rfl
  ·rw[wle];simp[h]
  ·rw[wo]at h ⊢
   rw[Bool.and_eq_true]at h
   rw[iha ha h.1,ihb hb h.2];rfl
theorem xb {A D:Wd}(hA:A.ok) (C:Wd) (h:wle A D=true):wle A (.op (-2) C D)=true:=by
 induction A with
 | v n=>rw[wle];simp[h]
 | op g a b iha ihb =>
  obtain⟨hg,ha,hb⟩:=hA
  rcases hg with rfl|rfl
  ·rw[wle];simp[h]
  ·rw[wo]at h ⊢
   rw[Bool.and_eq_true]at h
   rw[iha ha h.1,ihb hb h.2];rfl
theorem wak {A B C:Wd}(hA:A.ok) (hB:B.ok) (hC:C.ok) (h:wle A C=true):wle (.op (-1) A B) C=true:=by
 induction C with
 | v n=>rw[wle];simp[h]
 | op g c d ihc ihd =>
  obtain⟨hg,hc,hd⟩:=hC
  rcases hg with rfl|rfl
  ·rw[wq hA]at h
   rw[Bool.and_eq_true]at h
   rw[wq (show(Wd.op (-1) A B).ok from⟨.inl rfl,hA,hB⟩),ihc hc h.1,ihd hd h.2];rfl
  ·rw[wle];simp[h]
theorem wal {A B C:Wd}(hA:A.ok) (hB:B.ok) (hC:C.ok) (h:wle B C=true):wle (.op (-1) A B) C=true:=by
 induction C with
 | v n=>rw[wle];simp[h]
 | op g c d ihc ihd =>
  obtain⟨hg,hc,hd⟩:=hC
  rcases hg with rfl|rfl
  ·rw[wq hB]at h
   rw[Bool.and_eq_true]at h
   rw[wq (show(Wd.op (-1) A B).ok from⟨.inl rfl,hA,hB⟩),ihc hc h.1,ihd hd h.2];rfl
  ·rw[wle];simp[h]
theorem ww {A:Wd}(h:A.ok):wle A A=true:=by
 induction A with
 | v n=>rw[wle];simp
 | op g a b iha ihb =>
  obtain⟨hg,ha,hb⟩:=h
  rcases hg with rfl|rfl
  ·rw[wq (show(Wd.op (-1) a b).ok from⟨.inl rfl,ha,hb⟩),wak ha hb ha (iha ha),wal ha hb hb (ihb hb)];rfl
  ·rw[wo,xe ha b (iha ha),xb hb a (ihb hb)];rfl
abbrev Cu:=List Int×Int×Int×Unit
def COk (k:Nat) (c:Cu):Prop:=0≤c.2.1∧c.2.1+k≤4611686018427387904∧c.1.length≤65536∧∀x∈c.1,0≤x∧x≤255
theorem and255 (x:Int):∃n:Nat,n≤255∧bitI .and .u64 x 255=(n:Int):=by
 refine⟨(BitVec.ofInt IntKind.u64.bits x &&& BitVec.ofInt IntKind.u64.bits 255).toNat, ?_, ?_⟩
 ·rw[BitVec.toNat_and]
  exact Nat.le_trans Nat.and_le_right (by decide)
 ·have h:(BitVec.ofInt IntKind.u64.bits x &&& BitVec.ofInt IntKind.u64.bits 255).toNat≤255:=by
   rw[BitVec.toNat_and]
   exact Nat.le_trans Nat.and_le_right (by decide)
  unfold bitI
  exact IntWalk.u64_in _ (by omega)
theorem wey {k:Nat}{c:Cu}(h:COk (k+1) c):∃v c',V1 c=some (v,(c',()))∧0≤v∧v≤255∧COk k c':=by
 obtain⟨h0,h1,h2,h3⟩:=h
 obtain⟨l,a,s,u⟩:=c
 simp only at h0 h1 h2 h3
 have hw:IntKind.i64.wrap (a+1)=a+1:=wr (by omega) (by omega)
 have key:∀s':Int,COk k (l,a+1,s',u):=fun s'=>⟨by show 0≤a+1;omega,by show a+1+k≤_;omega,h2,h3⟩
 have tail:∀s':Int,∃v c',((shrI IntKind.u64 s' (40:Int)).bind fun xq=>some (IntKind.i64.wrap (bitI .and IntKind.u64 xq (255:Int)),((l,a+1,s',u),())))=some (v,(c',()))∧0≤v∧v≤255∧COk k c':=by
  intro s'
  obtain⟨n,hn,e⟩:=and255 (s'.fdiv (2 ^ min (40:Int).toNat IntKind.u64.bits))
  unfold shrI
  rw[if_neg (by omega),obS,e,wr (by omega) (by omega)]
  exact⟨_,_,rfl,by omega,by omega,key s'⟩
 unfold V1 V1_s
 dsimp only
 rw[hw]
 by_cases ha:a<(l.length:Int)
 ·rw[cdt ha]
  have hal:a.toNat<l.length:=by omega
  have e:atI l a=some l[a.toNat]:=by
   have:=jf l a.toNat hal
   rwa [show((a.toNat:Nat):Int)=a by omega]at this
  have hb:=h3 _ (List.getElem_mem hal)
  rw[e,obS]
  by_cases c:a+1≤(l.length:Int)
  ·rw[cdt c,wr (by omega) (by omega)]
   exact⟨_,_,rfl,hb.1,hb.2,key _⟩
  ·rw[cdf c]
   exact tail _
 ·rw[cdf ha]
  by_cases c:a+1≤(l.length:Int)
  ·rw[cdt c]
   exact⟨_,_,rfl,by omega,by omega,key _⟩
  ·rw[cdf c]
   exact tail _
theorem COk.mono {k j:Nat}{c:Cu}(h:COk k c) (hj:j≤k):COk j c:=by
 obtain⟨h0,h1,h2,h3⟩:=h
 exact⟨h0,by omega,h2,h3⟩
theorem we9 {a n:Int}(ha:0≤a) (hn:0<n):∃v,remI a n=some v∧0≤v∧v<n:=by
 refine⟨a.tmod n, ?_,Int.tmod_nonneg n ha,Int.tmod_lt_of_pos a hn⟩
 unfold remI
 rw[if_neg (by omega)]
theorem wv {k:Nat}{c:Cu}(h:COk (k+2) c) (n:Int):∃v c',V2 c n=some (v,(c',()))∧0≤v∧(1≤n→v<n)∧COk k c':=by
 unfold V2 V2_s
 by_cases h1:n≤1
 ·rw[cdt h1]
  exact⟨_,_,rfl,by omega,by omega,h.mono (by omega)⟩
 ·obtain⟨v,c1,e1,a1,a2,k1⟩:=wey (k:=k+1) h
  rw[cdf h1,e1,obS]
  by_cases h2:200<n
  ·obtain⟨v2,c2,e2,b1,b2,k2⟩:=wey k1
   rw[cdt h2]
   dsimp only
   rw[e2,obS]
   dsimp only
   rw[wr (n:=v*256) (by omega) (by omega),wr (by omega) (by omega)]
   obtain⟨z,ez,z0,z1⟩:=we9 (a:=v*256+v2) (n:=n) (by omega) (by omega)
   rw[ez,obS]
   exact⟨_,_,rfl,z0,fun _=>z1,k2⟩
  ·rw[cdf h2]
   dsimp only
   obtain⟨z,ez,z0,z1⟩:=we9 (a:=v) (n:=n) a1 (by omega)
   rw[ez,obS]
   exact⟨_,_,rfl,z0,fun _=>z1,k1.mono (by omega)⟩
theorem wkq {k:Nat}{c:Cu}(h:COk (k+2) c) (n:Int):∃b c',V4 c n=some (b,(c',()))∧COk k c':=by
 obtain⟨v,c1,e1,_,_,k1⟩:=wv h n
 unfold V4 V4_s
 rw[e1,obS]
 exact⟨_,_,rfl,k1⟩
theorem wa3 {k:Nat}{c:Cu}(h:COk (k+2) c){l:List Int}(hl:l≠[]):∃v c',V3 c l=some (v,(c',()))∧v∈l∧COk k c':=by
 obtain⟨v,c1,e1,h0,h1,k1⟩:=wv h (l.length:Int)
 have hp:=List.length_pos_iff.2 hl
 have hv:=h1 (by omega)
 have hvl:v.toNat<l.length:=by omega
 have e:atI l v=some l[v.toNat]:=by
  have:=jf l v.toNat hvl
  rwa [show((v.toNat:Nat):Int)=v by omega]at this
 unfold V3 V3_s
 rw[e1,obS]
 dsimp only
 rw[e,obS]
 exact⟨_,_,rfl,List.getElem_mem hvl,k1⟩
theorem put28 {g:Int}{a b:List Int}(h:a.length+b.length≤1000000):V5 g a b=some (g::(a++b),()):=by
 unfold V5 V5_s
 rw[jk (by simp;omega),obS,jk (by simp;omega),obS]
 rfl
theorem waf:∀(n s k d:Nat) (c:Cu),s≤n→1≤s→s≤1000→s<d→COk (8*s-6+k) c→∃w c',R_V6 d (c,(s:Int),())=some (w,(c',()))∧1≤w.length∧w.length+1≤2*s∧COk k c'
 | 0,s,k,d,c,hn,h1,_,_,_=>by omega
 | n+1,s,k,0,c,hn,h1,_,hd,_=>by omega
 | n+1,s,k,d+1,c,hn,h1,h3,hd,h=>by
  show ∃w c',V6 (R_V6 d) c (s:Int)=some (w,(c',()))∧_
  unfold V6 V6_s
  by_cases hs:s=1
  ·obtain⟨v,c1,e1,_,_,k1⟩:=wv (k:=k) (h.mono (by omega)) 4
   rw[cdt (by omega),e1,obS]
   exact⟨_,_,rfl,by simp,by simp;omega,k1⟩
  ·rw[cdf (by omega)]
   obtain⟨b,c1,e1,k1⟩:=wkq (k:=8*s-8+k) (h.mono (by omega)) 4
   rw[e1,obS]
   dsimp only
   cases b with
   | true =>
    obtain⟨v,c2,e2,_,_,k2⟩:=wv (k:=k) (k1.mono (by omega)) 4
    rw[cond_true,e2,obS]
    exact⟨_,_,rfl,by simp,by simp;omega,k2⟩
   | false =>
    rw[cond_false,wr (n:=(s:Int)-1) (by omega) (by omega)]
    obtain⟨v,c2,e2,v0,v1,k2⟩:=wv (k:=8*s-10+k) (k1.mono (by omega)) ((s:Int)-1)
    have hv:=v1 (by omega)
    rw[e2,obS]
    dsimp only
    obtain⟨g,c3,e3,g0,g1,k3⟩:=wv (k:=8*s-12+k) (k2.mono (by omega)) 2
    have hg:=g1 (by omega)
    rw[e3,obS]
    dsimp only
    obtain⟨m,rfl⟩:∃m:Nat,v=(m:Int):=⟨v.toNat,by omega⟩
    rw[wr (n:=1+(m:Int)) (by omega) (by omega),show(1+(m:Int))=((m+1:Nat):Int) by omega,wr (n:=(s:Int)-((m+1:Nat):Int)) (by omega) (by omega),show(s:Int)-((m+1:Nat):Int)=((s-(m+1):Nat):Int) by omega]
    obtain⟨w1,c4,e4,a1,a2,k4⟩:=waf n (m+1) (8*(s-(m+1))-6+k) d c3 (by omega) (by omega) (by omega) (by omega) (k3.mono (by omega))
    rw[e4,obS]
    dsimp only
    obtain⟨w2,c5,e5,b1,b2,k5⟩:=waf n (s-(m+1)) k d c4 (by omega) (by omega) (by omega) (by omega) k4
    rw[e5,obS]
    dsimp only
    rw[put28 (by omega),obS]
    exact⟨_,_,rfl,by simp,by simp;omega,k5⟩
theorem wex:∀(m j k:Nat) (c:Cu) (w:List Int),42≤w.length+j→j<m→w.length≤100→COk (6*j+2+k) c→∃w' c',wa2 big weu m c w=some (w',(c',()))∧w'.length≤100∧COk k c'
 | 0,j,k,c,w,_,hm,_,_=>by omega
 | m+1,j,k,c,w,hj,hm,hl,h=>by
  obtain⟨v,c1,e1,v0,v1,k1⟩:=wv (k:=6*j+k) (h.mono (by omega)) 4
  have hv:=v1 (by omega)
  simp only[wa2,wev]
  rw[e1,obS]
  dsimp only
  rw[wr (n:=38+v) (by omega) (by omega)]
  by_cases hw:(w.length:Int)<38+v
  ·obtain⟨g,c2,e2,_,_,k2⟩:=wv (k:=6*j-2+k) (k1.mono (by omega)) 2
   obtain⟨x,c3,e3,_,_,k3⟩:=wv (k:=6*j-4+k) (k2.mono (by omega)) 5
   rw[cdt hw,e2,obS]
   dsimp only
   rw[e3,obS]
   dsimp only
   rw[put28 (by simp;omega),obS]
   exact wex m (j-1) k c3 _ (by simp;omega) (by omega) (by simp;omega) (k3.mono (by omega))
  ·rw[cdf hw]
   exact⟨_,_,rfl,hl,k1.mono (by omega)⟩
theorem wae {k:Nat}{c:Cu}(h:COk (400+k) c):∃w c',V8 big c=some (w,(c',()))∧w.length≤100∧COk k c':=by
 have hb:=jp
 unfold V8 V8_s
 obtain⟨s,c1,e1,hs,k1⟩:=wa3 (k:=398+k) (h.mono (by omega)) (l:=[(1:Int),2,3,4,5,6,7]) (by simp)
 have hs1:1≤s∧s≤7:=by simp at hs;omega
 rw[e1,obS]
 dsimp only
 obtain⟨n,rfl⟩:∃n:Nat,s=(n:Int):=⟨s.toNat,by omega⟩
 obtain⟨w,c2,e2,w0,w1,k2⟩:=waf n n (340+k) big c1 (Nat.le_refl _) (by omega) (by omega) (by omega) (k1.mono (by omega))
 rw[e2,obS]
 dsimp only
 obtain⟨v,c3,e3,v0,v1,k3⟩:=wv (k:=338+k) (k2.mono (by omega)) 24
 rw[e3,obS]
 dsimp only
 by_cases h0:v=0
 ·obtain⟨x,c4,e4,_,k4⟩:=wa3 (k:=k) (k3.mono (by omega)) (l:=[(0:Int), -1]) (by simp)
  rw[cdt h0,e4,obS]
  dsimp only
  rw[app1 (by omega),obS]
  exact⟨_,_,rfl,by simp;omega,k4⟩
 ·rw[cdf h0]
  by_cases h1:v=1
  ·obtain⟨i,c4,e4,i0,i1,k4⟩:=wv (k:=2+k) (k3.mono (by omega)) (w.length:Int)
   obtain⟨x,c5,e5,_,k5⟩:=wa3 (k:=k) (k4.mono (by omega)) (l:=[(-3:Int),5,4, -1,0]) (by simp)
   have hi:=i1 (by omega)
   have hil:i.toNat<w.length:=by omega
   have ea:atI w i=some w[i.toNat]:=by
    have:=jf w i.toNat hil
    rwa [show((i.toNat:Nat):Int)=i by omega]at this
   rw[cdt h1,e4,obS]
   dsimp only
   rw[e5,obS,ea,obS,List.getElem?_eq_getElem hil,obS]
   exact⟨_,_,rfl,by simp;omega,k5⟩
  ·rw[cdf h1]
   by_cases h2:v=2
   ·rw[cdt h2,show(1:Int)=((1:Nat):Int) from rfl,qn w 1 w.length (by omega) (Nat.le_refl _),obS]
    exact⟨_,_,rfl,by simp;omega,k3.mono (by omega)⟩
   ·rw[cdf h2]
    by_cases h3:v=3
    ·rw[cdt h3]
     exact wex big 42 k c3 w (by omega) (by omega) (by omega) (k3.mono (by omega))
    ·rw[cdf h3]
     exact⟨_,_,rfl,by omega,k3.mono (by omega)⟩
def Codes (code:List Int):Prop:=code.length≤65536∧∀x∈code,0≤x∧x≤255
theorem Codes.start {code:List Int}(h:Codes code):COk 10000 (code,(0:Int),(0:Int),()):=⟨Int.le_refl _,by show(0:Int)+(10000:Nat)≤_;omega,h.1,h.2⟩
theorem wgg {code:List Int}(h:Codes code):∃s t,V53 code=some ((s,t,()),())∧s.length≤300∧t.length≤300:=by
 obtain⟨s,c1,e1,h1,k1⟩:=wae (k:=9600) (h.start.mono (by omega))
 obtain⟨t,c2,e2,h2,k2⟩:=wae (k:=9000) (k1.mono (by omega))
 unfold V53 wjr
 rw[e1,obS]
 dsimp only
 rw[e2,obS]
 dsimp only
 rw[zh,obS]
 dsimp only
 cases isWord s&&isWord t with
 | false=>exact⟨_,_,rfl,by omega,by omega⟩
 | true =>
  obtain⟨v,c3,e3,_,_,_⟩:=wv (k:=8000) (k2.mono (by omega)) 4
  rw[cond_true,e3,obS]
  dsimp only
  by_cases v0:v=0
  ·rw[cdt v0,put28 (by omega),obS]
   exact⟨_,_,rfl,by simp;omega,by omega⟩
  ·rw[cdf v0]
   by_cases v1:v=1
   ·rw[cdt v1,put28 (by omega),obS]
    exact⟨_,_,rfl,by omega,by simp;omega⟩
   ·rw[cdf v1]
    exact⟨_,_,rfl,by omega,by omega⟩
theorem sl0 {α:Type}(xs:List α) (n:Nat) (h:n≤xs.length):slI xs 0 (n:Int)=some (xs.take n):=by
 have:=qn xs 0 n (Nat.zero_le _) h
 simpa using this
theorem slE {α:Type}(xs:List α) (n:Nat) (h:n≤xs.length):slI xs (n:Int) (xs.length:Int)=some (xs.drop n):=by
 have:=qn xs n xs.length h (Nat.le_refl _)
 rwa [List.take_of_length_le (by simp)]at this
def MX (n:Nat) (m:List (List Bool)):Prop:=m.length=n∧(∀r∈m,r.length=n)∧∀i,i<n→∃r,m[i]? = some r∧r[i]? = some true
theorem MX.set {n:Nat}{m:List (List Bool)}(h:MX n m){x y:Nat}{r:List Bool}(hr:m[x]? = some r){v:Bool}(hv:x=y→v=true):MX n (m.set x (r.set y v)):=by
 obtain⟨h1,h2,h3⟩:=h
 have hx:=(List.getElem?_eq_some_iff.1 hr).1
 refine⟨by simpa using h1,fun q hq => ?_,fun i hi => ?_⟩
 ·rcases List.mem_or_eq_of_mem_set hq with hq|rfl
  ·exact h2 q hq
  ·rw[List.length_set];exact h2 r (List.mem_of_getElem? hr)
 ·obtain⟨q,q1,q2⟩:=h3 i hi
  by_cases e:x=i
  ·subst e
   rw[hr]at q1
   cases q1
   refine⟨_,by rw[List.getElem?_set_self hx], ?_⟩
   by_cases e:y=x
   ·subst e
    have hl:y<r.length:=(List.getElem?_eq_some_iff.1 q2).1
    rw[List.getElem?_set_self hl,hv rfl]
   ·rw[List.getElem?_set_ne e];exact q2
  ·exact⟨q,by rw[List.getElem?_set_ne e];exact q1,q2⟩
theorem we8 (a b:List Int) (h:a.length≤400000000000):V52 big a b=some (decide (a=b),()):=by
 unfold V52 wgd
 by_cases hl:a.length=b.length
 ·rw[cdf (by omega)]
  refine wk8 a.length (fun i=>a.take i=b.take i) (by omega) (fun rc i hi hI hr => ?_) (fun rc hI => ?_) 0 (by omega) (by simp)
  ·unfold wa1
   rw[cdt (by omega),jf a i hi,obS,jf b i (by omega),obS]
   by_cases e:a[i]=b[i]
   ·rw[cdf (by simp[e]),wr (by omega) (by omega),show(i:Int)+1=((i+1:Nat):Int) by omega]
    refine hr ?_
    show a.take (i+1)=b.take (i+1)
    rw[List.take_succ_eq_append_getElem hi,List.take_succ_eq_append_getElem (show i<b.length by omega),e]
    have hI:a.take i=b.take i:=hI
    rw[hI]
   ·rw[cdt e]
    have:a≠b:=fun c=>by subst c;exact e rfl
    simp[this]
  ·unfold wa1 z6
   have hI:a.take a.length=b.take a.length:=hI
   rw[List.take_of_length_le (Nat.le_refl _),List.take_of_length_le (by omega)]at hI
   rw[cdf (by omega)]
   simp[hI]
 ·have:a≠b:=fun c=>hl (by rw[c])
  rw[cdt (by omega)]
  simp[this]
theorem wiw {code:List Int}(hw:Wf (.pair (.sl (.int .u8)) .unit) (code,())) (h:code.length≤65536):Codes code:=by
 refine⟨h,fun x hx => ?_⟩
 have:=hw.1.2 x hx
 have h2:(Lit.int .u8 x).wf=true:=this
 simp only[Lit.wf,Bool.and_eq_true,decide_eq_true_eq]at h2
 have e1:IntKind.u8.min=0:=rfl
 have e2:IntKind.u8.max=255:=rfl
 rw[e1,e2]at h2
 exact h2
def Wd.dual:Wd→Wd
 | .v n => .v n
 | .op g a b => .op (-3-g) a.dual b.dual
theorem cmp_mem {n:Nat}{le:Nat→Nat→Bool}{x y:Nat}:y∈comp n le x↔y<n∧mt n le y x=bt n le∧mt n (du le) y x=tp n le:=by
 unfold comp rel
 rw[fl_mem,Bool.and_eq_true,decide_eq_true_eq,decide_eq_true_eq]
theorem wlk {n:Nat}{le:Nat→Nat→Bool}(h:LatP n le){x:Nat}(hx:x<n) (e:le x (bt n le)=true):x=bt n le:=h.as hx (wlj h) e (wli h hx)
theorem wlp {n:Nat}{le:Nat→Nat→Bool}(h:LatP n le){x:Nat}(hx:x<n) (e:le (tp n le) x=true):x=tp n le:=h.as hx (wlq h) (wlm h hx) e
theorem cenA {n:Nat}{le:Nat→Nat→Bool}(h:LatP n le){x y w:Nat}(hx:x<n) (hy:y<n) (hw:w<n) (hc:Cen n le x y){u:Nat}(hu:u<n) (h1:le (mt n le w x) u=true) (h2:le (mt n le w y) u=true):le w u=true:=by
 have:=(hc w hw).1
 rw[←this]
 exact jg h (h.mlt hw hx) (h.mlt hw hy) hu h1 h2
theorem cenBm {n:Nat}{le:Nat→Nat→Bool}(h:LatP n le){x y w:Nat}(hx:x<n) (hy:y<n) (hw:w<n) (hc:Cen n le x y){u:Nat}(hu:u<n) (h1:le u (mt n (du le) w x)=true) (h2:le u (mt n (du le) w y)=true):le u w=true:=by
 have:=(hc w hw).2
 rw[←this]
 exact h.mg (jlt h hw hx) (jlt h hw hy) hu h1 h2
theorem wla {n:Nat}{le:Nat→Nat→Bool}(h:LatP n le){x y:Nat}(hx:x<n) (hy:y<n) (hA:∀w u,w<n→u<n→le (mt n le w x) u=true→le (mt n le w y) u=true→le w u=true)
  (hB:∀w u,w<n→u<n→le u (mt n (du le) w x)=true→le u (mt n (du le) w y)=true→le u w=true):Cen n le x y:=fun z hz=>by
 have a1:=h.mlt hz hx
 have a2:=h.mlt hz hy
 have b1:=jlt h hz hx
 have b2:=jlt h hz hy
 exact⟨h.as (jlt h a1 a2) hz (jg h a1 a2 hz (h.m1 hz hx) (h.m1 hz hy)) (hA z _ hz (jlt h a1 a2) (j1 h a1 a2) (j2 h a1 a2)),
  h.as (h.mlt b1 b2) hz (hB z _ hz (h.mlt b1 b2) (h.m1 b1 b2) (h.m2 b1 b2)) (h.mg b1 b2 hz (j1 h hz hx) (j1 h hz hy))⟩
theorem Cen.dual {n:Nat}{le:Nat→Nat→Bool}{x y:Nat}(hc:Cen n le x y):Cen n (du le) x y:=fun z hz=>⟨(hc z hz).2,(hc z hz).1⟩
theorem comp_dual {n:Nat}{le:Nat→Nat→Bool}{x y:Nat}:y∈comp n (du le) x↔y∈comp n le x:=by
 rw[cmp_mem,cmp_mem]
 exact⟨fun⟨a,b,c⟩=>⟨a,c,b⟩,fun⟨a,b,c⟩=>⟨a,c,b⟩⟩
structure CP (n:Nat) (le:Nat→Nat→Bool) (x y:Nat):Prop where
 lx:x<n
 c:y∈comp n le x
 z:Cen n le x y
theorem CP.ly {n:Nat}{le:Nat→Nat→Bool}{x y:Nat}(p:CP n le x y):y<n:=(cmp_mem.1 p.c).1
theorem CP.dual {n:Nat}{le:Nat→Nat→Bool}{x y:Nat}(p:CP n le x y):CP n (du le) x y:=⟨p.lx,comp_dual.2 p.c,p.z.dual⟩
theorem CP.meet {n:Nat}{le:Nat→Nat→Bool}(h:LatP n le){x x' a a':Nat}(p:CP n le x x') (q:CP n le a a'):CP n le (mt n le x a) (mt n (du le) x' a'):=by
 have hx:=p.lx
 have hx':=p.ly
 have ha:=q.lx
 have ha':=q.ly
 have lm:=h.mlt hx ha
 have lj:=jlt h hx' ha'
 obtain⟨_,px1,px2⟩:=cmp_mem.1 p.c
 obtain⟨_,qa1,qa2⟩:=cmp_mem.1 q.c
 refine⟨lm,cmp_mem.2 ⟨lj, ?_, ?_⟩,wla h lm lj ?_ ?_⟩
 ·have k:=h.mlt lj lm
  refine wlk h k ?_
  have k1:=h.m1 lj lm
  have k2:=h.tr k lm hx (h.m2 lj lm) (h.m1 hx ha)
  have k3:=h.tr k lm ha (h.m2 lj lm) (h.m2 hx ha)
  have k4:=cenBm h ha ha' hx' q.z k (h.tr k ha (jlt h hx' ha) k3 (j2 h hx' ha)) k1
  rw[←px1]
  exact h.mg hx' hx k k4 k2
 ·have k:=jlt h lj lm
  refine wlp h k ?_
  rw[←px2]
  refine jg h hx' hx k (h.tr hx' lj k (j1 h hx' ha') (j1 h lj lm)) ?_
  refine cenA h ha ha' hx q.z k (j2 h lj lm) ?_
  exact h.tr (h.mlt hx ha') ha' k (h.m2 hx ha') (h.tr ha' lj k (j2 h hx' ha') (j1 h lj lm))
 ·intro w u hw hu e1 e2
  have wx:=h.mlt hw hx
  have wj:=h.mlt hw lj
  refine cenA h hx hx' hw p.z hu (cenA h ha ha' wx q.z hu ?_ ?_) ?_
  ·have k:=h.mlt wx ha
   have k1:=h.tr k wx hw (h.m1 wx ha) (h.m1 hw hx)
   have k2:=h.tr k wx hx (h.m1 wx ha) (h.m2 hw hx)
   exact h.tr k (h.mlt hw lm) hu (h.mg hw lm k k1 (h.mg hx ha k k2 (h.m2 wx ha))) e1
  ·have k:=h.mlt wx ha'
   have k1:=h.tr k wx hw (h.m1 wx ha') (h.m1 hw hx)
   exact h.tr k wj hu (h.mg hw lj k k1 (h.tr k ha' lj (h.m2 wx ha') (j2 h hx' ha'))) e2
  ·have k:=h.mlt hw hx'
   exact h.tr k wj hu (h.mg hw lj k (h.m1 hw hx') (h.tr k hx' lj (h.m2 hw hx') (j1 h hx' ha'))) e2
 ·intro w u hw hu e1 e2
  have uz:=h.mlt hu hx
  have uz':=h.mlt hu hx'
  have wm:=jlt h hw lm
  have wj:=jlt h hw lj
  refine cenA h hx hx' hu p.z hw (cenA h ha ha' uz q.z hw ?_ ?_) ?_
  ·have k:=h.mlt uz ha
   have k0:=h.tr k uz hu (h.m1 uz ha) (h.m1 hu hx)
   have k1:=h.tr k uz hx (h.m1 uz ha) (h.m2 hu hx)
   have k2:=h.m2 uz ha
   have wx':=jlt h hw hx'
   have k3:le (mt n le (mt n le u x) a) (mt n (du le) w x')=true:=by
    refine cenBm h ha ha' wx' q.z k (h.tr k ha (jlt h wx' ha) k2 (j2 h wx' ha)) ?_
    have t:=jlt h wx' ha'
    refine h.tr k wj t (h.tr k hu wj k0 e2) (jg h hw lj t (h.tr hw wx' t (j1 h hw hx') (j1 h wx' ha')) (jg h hx' ha' t (h.tr hx' wx' t (j2 h hw hx') (j1 h wx' ha')) (j2 h wx' ha')))
   exact cenBm h hx hx' hw p.z k (h.tr k hx (jlt h hw hx) k1 (j2 h hw hx)) k3
  ·have k:=h.mlt uz ha'
   have k0:=h.tr k uz hu (h.m1 uz ha') (h.m1 hu hx)
   have wa:=jlt h hw ha
   exact cenBm h ha ha' hw q.z k (h.tr k wm wa (h.tr k hu wm k0 e1) (jg h hw lm wa (j1 h hw ha) (h.tr lm ha wa (h.m2 hx ha) (j2 h hw ha)))) (h.tr k ha' (jlt h hw ha') (h.m2 uz ha') (j2 h hw ha'))
  ·have wx:=jlt h hw hx
   exact cenBm h hx hx' hw p.z uz' (h.tr uz' wm wx (h.tr uz' hu wm (h.m1 hu hx') e1) (jg h hw lm wx (j1 h hw hx) (h.tr lm hx wx (h.m1 hx ha) (j2 h hw hx)))) (h.tr uz' hx' (jlt h hw hx') (h.m2 hu hx') (j2 h hw hx'))
theorem CP.join {n:Nat}{le:Nat→Nat→Bool}(h:LatP n le){x x' a a':Nat}(p:CP n le x x') (q:CP n le a a'):CP n le (mt n (du le) x a) (mt n le x' a') :=
 (CP.meet h.du p.dual q.dual).dual
theorem wil:∀{a b:List Int},a.length=b.length→lx a b=decide (cmpL a b<0)
 | [],[],_=>by simp[lx,cmpL]
 | [],_::_,h=>by simp at h
 | _::_,[],h=>by simp at h
 | x::a,y::b,h=>by
  have ih:=wil (a:=a) (b:=b) (by simpa using h)
  unfold lx cmpL
  by_cases e:x=y
  ·rw[if_neg (by simp[e]),if_pos e];exact ih
  ·rw[if_pos e,if_neg e]
   by_cases l:x<y
   ·rw[if_pos l];simp[l]
   ·rw[if_neg l];simp[l]
theorem wkv {a b:List Int}(h:a.length<b.length):ltOf cmpT a b=true:=by simp[ltOf,cmpT,h]
theorem wkw {a b:List Int}(h:b.length<a.length):ltOf cmpT a b=false:=by
 unfold ltOf cmpT
 rw[if_neg (by omega),if_pos h];decide
theorem wkx {a b:List Int}(h:a.length=b.length):ltOf cmpT a b=lx a b:=by
 rw[wil h]
 unfold ltOf cmpT
 rw[if_neg (by omega),if_neg (by omega)]
theorem wio {ls:List (List Int)}{l:List Int}(hs:SortedL cmpT ls){m:Nat}(hm:m≤ls.length) (h1:∀(j:Nat) (hj:j<ls.length),m≤j→ltOf cmpT l ls[j]=true) (h2:∀(hk:0<m) ,ltOf cmpT l (ls[m-1]'(by omega))=false) :
  ls.take m++[l]++ls.drop m=insBy cmpT l ls:=by
 refine jal jx ?_ ?_ (jac jx l ls hs)
 ·refine List.Perm.trans ?_ (vp l ls).symm
  rw[List.append_assoc,List.singleton_append]
  refine List.perm_middle.trans ?_
  rw[List.take_append_drop]
 ·have hs':SortedL cmpT (ls.take m++ls.drop m):=by rw[List.take_append_drop];exact hs
  obtain⟨s1,s2,s3⟩:=List.pairwise_append.1 hs'
  have e1:∀x∈ls.take m,ltOf cmpT l x=false:=fun x hx=>by
   obtain⟨j,hj,rfl⟩:=List.mem_iff_getElem.1 hx
   rw[List.length_take]at hj
   have hm0:0<m:=by omega
   rw[List.getElem_take]
   by_cases q:j=m-1
   ·subst q;exact h2 hm0
   ·exact jeg jx _ _ _ (h2 hm0) ((List.pairwise_iff_getElem.1 hs) j (m-1) (by omega) (by omega) (by omega))
  have e2:∀x∈ls.drop m,ltOf cmpT x l=false:=fun x hx=>by
   obtain⟨j,hj,rfl⟩:=List.mem_iff_getElem.1 hx
   rw[List.length_drop]at hj
   rw[List.getElem_drop]
   have:=h1 (m+j) (by omega) (by omega)
   cases q:ltOf cmpT ls[m+j] l with
   | false=>rfl
   | true=>have:=jf3 jx _ _ _ this q;rw[jc9 jx]at this;cases this
  unfold SortedL
  rw[List.append_assoc,List.singleton_append,List.pairwise_append]
  refine⟨s1,List.pairwise_cons.2 ⟨e2,s2⟩,fun x hx y hy => ?_⟩
  rcases List.mem_cons.1 hy with rfl|hy
  ·exact e1 x hx
  ·exact s3 x hx y hy
theorem wi8 (ls:List (List Int)) (l:List Int) (hll:l.length≤4294967296) (h:ls.length≤4294967290) (hs:SortedL cmpT ls):V47 big ls l=some (insBy cmpT l ls,()):=by
 have fin:∀k:Nat,k≤ls.length→(∀(j:Nat) (hj:j<ls.length),k≤j→ltOf cmpT l ls[j]=true)→(∀(hk:0<k) (hq:k-1<ls.length),ltOf cmpT l ls[k-1]=false)→za ls l (k:Int)=some (insBy cmpT l ls,()):=by
  intro k hk h1 h2
  have e1:slI ls 0 (k:Int)=some (ls.take k):=by have:=qn ls 0 k (by omega) hk;simpa using this
  have e2:slI ls (k:Int) (ls.length:Int)=some (ls.drop k):=by
   have:=qn ls k ls.length hk (Nat.le_refl _)
   rw[this,List.take_of_length_le (by rw[List.length_drop];omega)]
  have hl:(ls.take k).length≤ls.length:=by rw[List.length_take];omega
  unfold za
  rw[e1,obS]
  have a1:appI ([]:List (List Int)) (ls.take k)=some (ls.take k):=by
   unfold appI;rw[if_pos (by simp;omega)];rfl
  rw[a1,obS,app1 (by omega),obS,e2,obS]
  have a2:appI (ls.take k++[l]) (ls.drop k)=some (ls.take k++[l]++ls.drop k):=by
   unfold appI
   rw[if_pos (by rw[List.length_append,List.length_drop,List.length_take];simp;omega)]
  rw[a2,obS,wio hs hk h1 fun q=>h2 q (by omega)]
 unfold V47 wf8
 refine wk6 (Q:=fun r=>r=some (insBy cmpT l ls,())) (fun k=>k.toNat) (fun k=>∃m:Nat,k=(m:Int)∧m≤ls.length∧∀(j:Nat) (hj:j<ls.length),m≤j→ltOf cmpT l ls[j]=true) ?_ _ (by omega) ⟨ls.length,rfl,Nat.le_refl _,fun j hj hm=>absurd hm (by omega)⟩
 rintro rc k ⟨m,rfl,hm,hgt⟩ ih
 unfold wen
 by_cases c:m=0
 ·subst c
  rw[cdf (by omega)]
  exact fin 0 (by omega) hgt fun q=>absurd q (by omega)
 ·have e:IntKind.i64.wrap ((m:Int)-1)=((m-1:Nat):Int):=by rw[wr (by omega) (by omega)];omega
  have hat:atI ls ((m-1:Nat):Int)=some ls[m-1]:=jf ls (m-1) (by omega)
  have go:ltOf cmpT l ls[m-1]=true→rc ls l ((m-1:Nat):Int)=some (insBy cmpT l ls,()):=fun q=>ih ((m-1:Nat):Int) ⟨m-1,rfl,by omega,fun j hj hq=>by
   by_cases z:j=m-1
   ·subst z;exact q
   ·exact hgt j hj (by omega)⟩ (by omega)
  have stop:ltOf cmpT l ls[m-1]=false→za ls l (m:Int)=some (insBy cmpT l ls,()):=fun q=>fin m hm hgt fun _ _=>q
  rw[cdt (by omega),e,hat,obS]
  by_cases c1:(l.length:Int)<(ls[m-1].length:Int)
  ·rw[cdt c1];exact go (wkv (by omega))
  ·rw[cdf c1,obS]
   by_cases c2:(l.length:Int)=(ls[m-1].length:Int)
   ·have hle:V46 big l ls[m-1]=some (lx l ls[m-1],()):=wik l ls[m-1] (by omega) hll
    rw[cdt c2,obS,hle,obS]
    have hq:=wkx (a:=l) (b:=ls[m-1]) (by omega)
    cases hx:lx l ls[m-1] with
    | true=>exact go (hq.trans hx)
    | false=>exact stop (hq.trans hx)
   ·rw[cdf c2];exact stop (wkw (by omega))
theorem wfb (c:List Int→List Int→Int) (l:List (List Int)) (x:List Int):sortBy c (l++[x])=insBy c x (sortBy c l):=by unfold sortBy;rw[List.foldl_append];rfl
theorem wgo {c:List Int→List Int→Int}(h:CmpOk c) (l:List (List Int)):(sortBy c l).length=l.length:=(vw h l).length_eq
theorem wfc (c:List Int→List Int→Int) (l:List (List Int)) (h:l.length≤4294967296):sortRowsV c l=some ((),(sortBy c l,())):=by unfold sortRowsV;rw[if_pos h]
noncomputable def hv (n:Nat) (H:Nat→Bool) (E:Nat→Prop):List Bool:=mkR n fun z=>H z||tv (E z)
theorem wgl {α:Type}{L M:List α}(h1:L.Nodup) (h2:M.Nodup) (h:∀a,a∈L↔a∈M):L.Perm M:=(List.perm_ext_iff_of_nodup h1 h2).2 h
structure GLat {α:Type}(le:α→α→Prop) (m j:α→α→α):Prop where
 rf:∀a,le a a
 tr:∀{a b c},le a b→le b c→le a c
 asy:∀{a b},le a b→le b a→a=b
 m1:∀a b,le (m a b) a
 m2:∀a b,le (m a b) b
 mg:∀{a b c},le c a→le c b→le c (m a b)
 j1:∀a b,le a (j a b)
 j2:∀a b,le b (j a b)
 jg:∀{a b c},le a c→le b c→le (j a b) c
def GMod {α:Type}(le:α→α→Prop) (m j:α→α→α):Prop:=∀x y z,le x z→j x (m y z)=m (j x y) z
theorem GLat.op {α:Type}{le:α→α→Prop}{m j:α→α→α}(H:GLat le m j):GLat (fun a b=>le b a) j m:=⟨H.rf,fun a b=>H.tr b a,fun a b=>H.asy b a,H.j1,H.j2,H.jg,H.m1,H.m2,H.mg⟩
theorem GLat.mc {α:Type}{le:α→α→Prop}{m j:α→α→α}(H:GLat le m j) (a b:α):m a b=m b a:=H.asy (H.mg (H.m2 a b) (H.m1 a b)) (H.mg (H.m2 b a) (H.m1 b a))
theorem GLat.jc {α:Type}{le:α→α→Prop}{m j:α→α→α}(H:GLat le m j) (a b:α):j a b=j b a:=H.op.mc a b
theorem GMod.op {α:Type}{le:α→α→Prop}{m j:α→α→α}(H:GLat le m j) (M:GMod le m j):GMod (fun a b=>le b a) j m:=fun x y z h=>by
 have:=M z y x h
 rw[H.mc x (j y z),H.jc y z,←this,H.jc,H.mc y x]
def m3 (x y:Nat):Bool:=x==y||(x==0||y==4)
def SetL (n:Nat) (l:List Int):Prop:=∃P,l=cs (fl n P)
theorem SetL.len {n:Nat}{l:List Int}(h:SetL n l):l.length≤n:=by obtain⟨P,rfl⟩:=h;rw[cs_len];exact jh n P
theorem x7 (T:Nat→Prop):∀x,T x→∃y,y≤x∧T y∧∀z,z<y→¬T z:=by
 intro x
 induction x using Nat.strongRecOn with
 | _ x ih =>
  intro h
  by_cases e:∃z,z<x∧T z
  ·obtain⟨z,hz,ht⟩:=e
   obtain⟨y,h1,h2,h3⟩:=ih z hz ht
   exact⟨y,by omega,h2,h3⟩
  ·exact⟨x,Nat.le_refl x,h,fun z hz ht=>e ⟨z,hz,ht⟩⟩
theorem wis:∀(k:Nat) (A B C:Wd),A.fl.length+B.fl.length+C.fl.length≤k→A.ok→B.ok→C.ok→wle A B=true→wle B C=true→wle A C=true:=by
 intro k
 induction k with
 | zero=>intro A B C h;have:=A.pos;omega
 | succ k ih =>
  intro A B C hk hA hB hC h1 h2
  have right:∀c d,C = .op (-1) c d→wle A C=true:=by
   rintro c d rfl
   obtain⟨_,hc,hd⟩:=hC
   simp only[Wd.fl,List.length_cons,List.length_append]at hk
   rw[wq hB,Bool.and_eq_true]at h2
   rw[wq hA,ih A B c (by omega) hA hB hc h1 h2.1,ih A B d (by omega) hA hB hd h1 h2.2];rfl
  cases A with
  | op g a b =>
   obtain⟨hg,ha,hb⟩:=hA
   rcases hg with rfl|rfl
   rotate_left
   ·simp only[Wd.fl,List.length_cons,List.length_append]at hk
    rw[wo,Bool.and_eq_true]at h1
    rw[wo,ih a B C (by omega) ha hB hC h1.1 h2,ih b B C (by omega) hb hB hC h1.2 h2];rfl
   have hAo:(Wd.op (-1) a b).ok:=⟨.inl rfl,ha,hb⟩
   have fromA:(wle a B=true∨wle b B=true)→wle (.op (-1) a b) C=true:=by
    simp only[Wd.fl,List.length_cons,List.length_append]at hk
    rintro (q|q)
    ·exact wak ha hb hC (ih a B C (by omega) ha hB hC q h2)
    ·exact wal ha hb hC (ih b B C (by omega) hb hB hC q h2)
   cases B with
   | v n =>
    rw[wle]at h1
    rw[if_neg (by omega),Bool.or_eq_true]at h1
    exact fromA h1
   | op h p q =>
    obtain⟨hh,hp,hq⟩:=hB
    rcases hh with rfl|rfl
    · -- the middle a meet
     rw[wq hAo,Bool.and_eq_true]at h1
     cases C with
     | v m =>
      simp only[Wd.fl,List.length_cons,List.length_append]at hk
      rw[wle,if_neg (by omega),Bool.or_eq_true]at h2
      rcases h2 with h2|h2
      ·exact ih _ p (.v m) (by simp only[Wd.fl,List.length_cons,List.length_append,List.length_nil]at hk ⊢;omega) hAo hp hC h1.1 h2
      ·exact ih _ q (.v m) (by simp only[Wd.fl,List.length_cons,List.length_append,List.length_nil]at hk ⊢;omega) hAo hq hC h1.2 h2
     | op e c d =>
      obtain⟨he,hc,hd⟩:=hC
      rcases he with rfl|rfl
      ·exact right c d rfl
      simp only[Wd.fl,List.length_cons,List.length_append]at hk
      rw[wle,if_neg (by omega),if_neg (by omega)]at h2
      simp only[Bool.or_eq_true]at h2
      rcases h2 with(h2|h2)|(h2|h2)
      ·exact ih _ p (.op (-2) c d) (by simp only[Wd.fl,List.length_cons,List.length_append];omega) hAo hp ⟨.inr rfl,hc,hd⟩ h1.1 h2
      ·exact ih _ q (.op (-2) c d) (by simp only[Wd.fl,List.length_cons,List.length_append];omega) hAo hq ⟨.inr rfl,hc,hd⟩ h1.2 h2
      ·exact xe hAo d (ih _ (.op (-1) p q) c (by simp only[Wd.fl,List.length_cons,List.length_append];omega) hAo ⟨.inl rfl,hp,hq⟩ hc (by rw[wq hAo,h1.1,h1.2];rfl) h2)
      ·exact xb hAo c (ih _ (.op (-1) p q) d (by simp only[Wd.fl,List.length_cons,List.length_append];omega) hAo ⟨.inl rfl,hp,hq⟩ hd (by rw[wq hAo,h1.1,h1.2];rfl) h2)
    · -- the middle a join
     have h2':=h2
     rw[wo,Bool.and_eq_true]at h2'
     rw[wle,if_neg (by omega),if_neg (by omega)]at h1
     simp only[Bool.or_eq_true]at h1
     rcases h1 with h1|(h1|h1)
     ·exact fromA h1
     ·exact ih _ p C (by simp only[Wd.fl,List.length_cons,List.length_append]at hk ⊢;omega) hAo hp hC h1 h2'.1
     ·exact ih _ q C (by simp only[Wd.fl,List.length_cons,List.length_append]at hk ⊢;omega) hAo hq hC h1 h2'.2
  | v n =>
   cases B with
   | v m =>
    rw[wle,decide_eq_true_eq]at h1
    subst h1
    exact h2
   | op h p q =>
    obtain⟨hh,hp,hq⟩:=hB
    rcases hh with rfl|rfl
    ·rw[wq hA,Bool.and_eq_true]at h1
     cases C with
     | v m =>
      simp only[Wd.fl,List.length_cons,List.length_append]at hk
      rw[wle,if_neg (by omega),Bool.or_eq_true]at h2
      rcases h2 with h2|h2
      ·exact ih _ p (.v m) (by simp only[Wd.fl,List.length_cons,List.length_append,List.length_nil]at hk ⊢;omega) hA hp hC h1.1 h2
      ·exact ih _ q (.v m) (by simp only[Wd.fl,List.length_cons,List.length_append,List.length_nil]at hk ⊢;omega) hA hq hC h1.2 h2
     | op e c d =>
      obtain⟨he,hc,hd⟩:=hC
      rcases he with rfl|rfl
      ·exact right c d rfl
      simp only[Wd.fl,List.length_cons,List.length_append,List.length_nil]at hk
      rw[wle,if_neg (by omega),if_neg (by omega)]at h2
      simp only[Bool.or_eq_true]at h2
      rcases h2 with(h2|h2)|(h2|h2)
      ·exact ih _ p (.op (-2) c d) (by simp only[Wd.fl,List.length_cons,List.length_append,List.length_nil];omega) hA hp ⟨.inr rfl,hc,hd⟩ h1.1 h2
      ·exact ih _ q (.op (-2) c d) (by simp only[Wd.fl,List.length_cons,List.length_append,List.length_nil];omega) hA hq ⟨.inr rfl,hc,hd⟩ h1.2 h2
      ·exact xe hA d (ih _ (.op (-1) p q) c (by simp only[Wd.fl,List.length_cons,List.length_append,List.length_nil];omega) hA ⟨.inl rfl,hp,hq⟩ hc (by rw[wq hA,h1.1,h1.2];rfl) h2)
      ·exact xb hA c (ih _ (.op (-1) p q) d (by simp only[Wd.fl,List.length_cons,List.length_append,List.length_nil];omega) hA ⟨.inl rfl,hp,hq⟩ hd (by rw[wq hA,h1.1,h1.2];rfl) h2)
    ·have h2':=h2
     rw[wo,Bool.and_eq_true]at h2'
     rw[wle,if_neg (by omega),Bool.or_eq_true]at h1
     rcases h1 with h1|h1
     ·exact ih _ p C (by simp only[Wd.fl,List.length_cons,List.length_append,List.length_nil]at hk ⊢;omega) hA hp hC h1 h2'.1
     ·exact ih _ q C (by simp only[Wd.fl,List.length_cons,List.length_append,List.length_nil]at hk ⊢;omega) hA hq hC h1 h2'.2
theorem wtr {A B C:Wd}(hA:A.ok) (hB:B.ok) (hC:C.ok) (h1:wle A B=true) (h2:wle B C=true):wle A C=true:=wis _ A B C (Nat.le_refl _) hA hB hC h1 h2
def Wd.du:Wd→Wd
 | .v n => .v n
 | .op g a b => .op (-3-g) a.du b.du
theorem wbd:∀A:Wd,A.du.du=A
 | .v n=>rfl
 | .op g a b=>by simp only[Wd.du];rw[wbd a,wbd b,show -3-(-3-g)=g by omega]
theorem zf:∀{A:Wd},A.ok→A.du.ok
 | .v n,h=>h
 | .op g a b,⟨hg,ha,hb⟩=>⟨by omega,zf ha,zf hb⟩
theorem z7:∀A:Wd,A.du.fl.length=A.fl.length
 | .v n=>rfl
 | .op g a b=>by simp only[Wd.du,Wd.fl,List.length_cons,List.length_append];rw[z7 a,z7 b]
theorem wdj:∀{A:Wd},A.ok→A.du.fl=A.fl.map dual1
 | .v n,h=>by
  simp only[Wd.du,Wd.fl,List.map_cons,List.map_nil]
  unfold dual1
  rw[if_neg (by have:=h.1;omega)]
 | .op g a b,⟨hg,ha,hb⟩=>by
  simp only[Wd.du,Wd.fl,List.map_cons,List.map_append]
  rw[wdj ha,wdj hb]
  unfold dual1
  rw[if_pos (by omega)]
theorem wlh:∀(k:Nat) (A B:Wd),A.fl.length+B.fl.length≤k→A.ok→B.ok→wle A.du B.du=wle B A:=by
 intro k
 induction k with
 | zero=>intro A B h;have:=A.pos;omega
 | succ k ih =>
  intro A B hk hA hB
  cases A with
  | v n =>
   cases B with
   | v m=>simp only[Wd.du];rw[wle,wle];exact decide_eq_decide.2 ⟨Eq.symm,Eq.symm⟩
   | op h c d =>
    obtain⟨hh,hc,hd⟩:=hB
    simp only[Wd.fl,List.length_cons,List.length_append,List.length_nil]at hk
    have e1:=ih (.v n) c (by simp only[Wd.fl,List.length_cons,List.length_nil];omega) hA hc
    have e2:=ih (.v n) d (by simp only[Wd.fl,List.length_cons,List.length_nil];omega) hA hd
    simp only[Wd.du]at e1 e2 ⊢
    rw[wle,wle,e1,e2]
    rcases hh with rfl|rfl<;>simp
  | op g a b =>
   obtain⟨hg,ha,hb⟩:=hA
   have hAo:(Wd.op g a b).ok:=⟨hg,ha,hb⟩
   simp only[Wd.fl,List.length_cons,List.length_append]at hk
   cases B with
   | v m =>
    have e1:=ih a (.v m) (by omega) ha hB
    have e2:=ih b (.v m) (by omega) hb hB
    simp only[Wd.du]at e1 e2 ⊢
    rw[wle,wle,e1,e2]
    rcases hg with rfl|rfl<;>simp
   | op h c d =>
    obtain⟨hh,hc,hd⟩:=hB
    have hBo:(Wd.op h c d).ok:=⟨hh,hc,hd⟩
    simp only[Wd.fl,List.length_cons,List.length_append]at hk
    have e1:=ih a (.op h c d) (by simp only[Wd.fl,List.length_cons,List.length_append];omega) ha hBo
    have e2:=ih b (.op h c d) (by simp only[Wd.fl,List.length_cons,List.length_append];omega) hb hBo
    have e3:=ih (.op g a b) c (by simp only[Wd.fl,List.length_cons,List.length_append];omega) hAo hc
    have e4:=ih (.op g a b) d (by simp only[Wd.fl,List.length_cons,List.length_append];omega) hAo hd
    have oB:=zf hBo
    have oA:=zf hAo
    rcases hg with rfl|rfl
    ·simp only[Wd.du]at e1 e2 ⊢
     rw[show(-3:Int) - -1 = -2 by omega,wo,wq hBo,e1,e2]
    ·rcases hh with rfl|rfl
     ·simp only[Wd.du]at e1 e2 e3 e4 ⊢
      rw[show(-3:Int) - -2 = -1 by omega]at e3 e4 ⊢
      rw[show(-3:Int) - -1 = -2 by omega]at e1 e2 ⊢
      rw[wle,if_neg (by omega),if_neg (by omega),e1,e2,e3,e4]
      conv=>rhs;rw[wle]
      rw[if_neg (by omega),if_neg (by omega),Bool.or_comm]
     ·simp only[Wd.du]at e3 e4 oA ⊢
      rw[show(-3:Int) - -2 = -1 by omega]at e3 e4 oA ⊢
      rw[wq oA,wo,e3,e4]
theorem wdu {A B:Wd}(hA:A.ok) (hB:B.ok):wle A.du B.du=wle B A:=wlh _ A B (Nat.le_refl _) hA hB
def jn:List Wd→Wd
 | [] => .v 0
 | [x]=>x
 | x::y::l => .op (-2) x (jn (y::l))
def mb (g:Int):Wd→List Wd
 | .v n=>[.v n]
 | .op h a b=>if h=g then mb g a++mb g b else [.op h a b]
theorem wz {x:Wd}{l:List Wd}(h:l≠[]):jn (x::l) = .op (-2) x (jn l):=by
 cases l with
 | nil=>exact absurd rfl h
 | cons y l=>rfl
theorem wy:∀{m:List Wd},m≠[]→(∀x∈m,x.ok)→(jn m).ok
 | [],h,_=>absurd rfl h
 | [x],_,h=>h x (by simp)
 | x::y::l,_,h=>⟨.inr rfl,h x (by simp),wy (by simp) fun z hz=>h z (by simp_all)⟩
theorem xd:∀{m:List Wd}{C:Wd},m≠[]→(wle (jn m) C=true↔∀x∈m,wle x C=true)
 | [],_,h=>absurd rfl h
 | [x],C,_=>by simp[jn]
 | x::y::l,C,_=>by
  rw[wz (by simp),wo,Bool.and_eq_true,xd (by simp)]
  simp
theorem waj {A:Wd}(hA:A.ok):∀{m:List Wd},(∀x∈m,x.ok)→(∃x∈m,wle A x=true)→wle A (jn m)=true
 | [],_,⟨_,h,_⟩=>by cases h
 | [x],_,⟨y,h,e⟩=>by rw[List.mem_singleton]at h;subst h;exact e
 | x::y::l,ho,⟨z,h,e⟩=>by
  rw[wz (by simp)]
  rcases List.mem_cons.1 h with rfl|h
  ·exact xe hA _ e
  ·exact xb hA _ (waj hA (fun w hw=>ho w (List.mem_cons_of_mem _ hw)) ⟨z,h,e⟩)
theorem v_jn {n:Int}:∀{m:List Wd},m≠[]→wle (.v n) (jn m)=true→∃x∈m,wle (.v n) x=true
 | [],h,_=>absurd rfl h
 | [x],_,e=>⟨x,by simp,e⟩
 | x::y::l,_,e=>by
  rw[wz (by simp),wle,if_neg (by omega),Bool.or_eq_true]at e
  rcases e with e|e
  ·exact⟨x,by simp,e⟩
  ·obtain⟨z,h,e⟩:=v_jn (by simp) e
   exact⟨z,List.mem_cons_of_mem _ h,e⟩
theorem xj {g:Int}:∀{A:Wd},A.ok→∀x∈mb g A,x.ok
 | .v n,h,x,hx=>by rw[mb,List.mem_singleton]at hx;subst hx;exact h
 | .op h a b,ho,x,hx=>by
  rw[mb]at hx
  split at hx
  ·rcases List.mem_append.1 hx with q|q
   ·exact xj ho.2.1 x q
   ·exact xj ho.2.2 x q
  ·rw[List.mem_singleton]at hx;subst hx;exact ho
theorem wgk {g:Int}:∀{A:Wd},mb g A≠[]
 | .v n=>by simp[mb]
 | .op h a b=>by
  rw[mb]
  split
  ·simp[wgk (A:=a)]
  ·simp
theorem wdn {g:Int}(hg:g<0):∀{A:Wd},A.ok→∀x∈mb g A,x.hd≠g
 | .v n,h,x,hx=>by rw[mb,List.mem_singleton]at hx;subst hx;have:=h.1;rw[hd_v];omega
 | .op h a b,ho,x,hx=>by
  rw[mb]at hx
  split at hx
  ·rcases List.mem_append.1 hx with q|q
   ·exact wdn hg ho.2.1 x q
   ·exact wdn hg ho.2.2 x q
  ·rename_i hn
   rw[List.mem_singleton]at hx;subst hx;exact hn
theorem wbe {g:Int}:∀{A:Wd},A.hd≠g→mb g A=[A]
 | .v n,_=>rfl
 | .op h a b,e=>by rw[x9]at e;rw[mb,if_neg e]
theorem xz {g:Int}:∀{A:Wd},((mb g A).map fun x=>x.fl.length).sum+(mb g A).length≤A.fl.length+1
 | .v n=>by simp[mb,Wd.fl]
 | .op h a b=>by
  have:=xz (g:=g) (A:=a)
  have:=xz (g:=g) (A:=b)
  rw[mb]
  split
  ·simp only[List.map_append,List.sum_append,List.length_append,Wd.fl,List.length_cons];omega
  ·simp
theorem wjy {g:Int}{A:Wd}(h:A.hd=g) (hg:g<0) (ho:A.ok):∀x∈mb g A,x.fl.length<A.fl.length:=by
 cases A with
 | v n=>rw[hd_v]at h;have:=ho.1;omega
 | op k a b =>
  rw[x9]at h
  subst h
  have le:∀{B:Wd},∀x∈mb k B,x.fl.length≤B.fl.length:=by
   intro B
   induction B with
   | v n=>intro x hx;rw[mb,List.mem_singleton]at hx;subst hx;exact Nat.le_refl _
   | op h a b iha ihb =>
    intro x hx
    rw[mb]at hx
    split at hx
    ·simp only[Wd.fl,List.length_cons,List.length_append]
     rcases List.mem_append.1 hx with q|q
     ·have:=iha x q;omega
     ·have:=ihb x q;omega
    ·rw[List.mem_singleton]at hx;subst hx;exact Nat.le_refl _
  intro x hx
  rw[mb,if_pos rfl]at hx
  simp only[Wd.fl,List.length_cons,List.length_append]
  rcases List.mem_append.1 hx with q|q
  ·have:=le x q;omega
  ·have:=le x q;omega
theorem jm_le:∀{A C:Wd},(wle A C=true↔∀x∈mb (-2) A,wle x C=true)
 | .v n,C=>by simp[mb]
 | .op h a b,C=>by
  rw[mb]
  split
  ·rename_i e
   subst e
   rw[wo,Bool.and_eq_true,jm_le (A:=a),jm_le (A:=b)]
   simp only[List.mem_append]
   exact⟨fun q x hx=>hx.elim (q.1 x) (q.2 x),fun q=>⟨fun x hx=>q x (.inl hx),fun x hx=>q x (.inr hx)⟩⟩
  ·simp
theorem wll {A B:Wd}(hB:B.ok):(wle B A=true↔∀x∈mb (-1) A,wle B x=true):=by
 induction A with
 | v n=>simp[mb]
 | op g a b iha ihb =>
  rw[mb]
  split
  ·rename_i e
   subst e
   rw[wq hB,Bool.and_eq_true,iha,ihb]
   simp only[List.mem_append]
   exact⟨fun q x hx=>hx.elim (q.1 x) (q.2 x),fun q=>⟨fun x hx=>q x (.inl hx),fun x hx=>q x (.inr hx)⟩⟩
  ·simp
theorem whit:∀(k:Nat) (A:Wd),A.fl.length≤k→A.ok→A.hd = -1→∀{m:List Wd},m≠[]→(∀x∈m,x.ok)→wle A (jn m)=true→(∃t∈mb (-1) A,wle t (jn m)=true)∨∃x∈m,wle A x=true:=by
 intro k
 induction k with
 | zero=>intro A h;have:=A.pos;omega
 | succ k ih =>
  intro A hk hA hh m
  cases A with
  | v n=>rw[hd_v]at hh;have:=hA.1;omega
  | op g a b =>
   rw[x9]at hh
   subst hh
   have hA':=hA
   obtain⟨_,ha,hb⟩:=hA'
   simp only[Wd.fl,List.length_cons,List.length_append]at hk
   have part:∀{c:Wd} {m:List Wd},(c=a∨c=b)→m≠[]→(∀x∈m,x.ok)→wle c (jn m)=true→(∃t∈mb (-1) (.op (-1) a b),wle t (jn m)=true)∨∃x∈m,wle (.op (-1) a b) x=true:=by
    intro c m hc hm ho e
    have hco:c.ok:=by rcases hc with rfl|rfl<;>assumption
    have hsub:∀t,t∈mb (-1) c→t∈mb (-1) (.op (-1) a b):=fun t ht=>by
     rw[mb,if_pos rfl,List.mem_append]
     rcases hc with rfl|rfl
     ·exact .inl ht
     ·exact .inr ht
    by_cases h1:c.hd = -1
    ·rcases ih c (by rcases hc with rfl|rfl<;>omega) hco h1 hm ho e with⟨t,ht,e⟩|⟨x,hx,e⟩
     ·exact .inl ⟨t,hsub t ht,e⟩
     ·refine .inr ⟨x,hx, ?_⟩
      rcases hc with rfl|rfl
      ·exact wak ha hb (ho x hx) e
      ·exact wal ha hb (ho x hx) e
    ·exact .inl ⟨c,hsub c (by rw[wbe h1];simp),e⟩
   induction m with
   | nil=>exact fun h=>absurd rfl h
   | cons x l ihm =>
    intro _ ho e
    by_cases hl:l=[]
    ·subst hl
     exact .inr ⟨x,by simp,e⟩
    ·have e0:=e
     rw[wz hl]at e
     rw[wle,if_neg (by omega),if_neg (by omega),←wz hl]at e
     simp only[Bool.or_eq_true]at e
     rcases e with(e|e)|(e|e)
     ·exact part (.inl rfl) (by simp) ho e
     ·exact part (.inr rfl) (by simp) ho e
     ·exact .inr ⟨x,by simp,e⟩
     ·rcases ihm hl (fun y hy=>ho y (List.mem_cons_of_mem _ hy)) e with⟨t,ht,e⟩|⟨y,hy,e⟩
      ·refine .inl ⟨t,ht, ?_⟩
       rw[wz hl]
       exact xb (xj hA t ht) x e
      ·exact .inr ⟨y,List.mem_cons_of_mem _ hy,e⟩
def Anti (m:List Wd):Prop:=m.Pairwise fun x y=>wle x y=false∧wle y x=false
theorem wbc:∀{m:List Wd},Anti m→∀x∈m,∀y∈m,wle x y=true→x=y
 | [],_,x,hx,_,_,_=>by cases hx
 | z::m,h,x,hx,y,hy,e=>by
  rw[Anti,List.pairwise_cons]at h
  rcases List.mem_cons.1 hx with q1|q1<;>rcases List.mem_cons.1 hy with q2|q2
  ·rw[q1,q2]
  ·rw[q1,(h.1 y q2).1]at e;cases e
  ·rw[q2,(h.1 x q1).2]at e;cases e
  ·exact wbc h.2 x q1 y q2 e
theorem wab {m:List Wd}(ho:∀x∈m,x.ok) (h:Anti m):m.Nodup:=by
 refine List.Pairwise.imp_of_mem ?_ h
 rintro x y hx hy ⟨h1,_⟩ rfl
 rw[ww (ho x hx)]at h1;cases h1
theorem wko {m:List Wd}(hn:m.Nodup) (x:Wd) (h:∀y∈m,y=x):m.length≤1:=by
 match m,hn,h with
 | [],_,_=>simp
 | [_],_,_=>simp
 | a::b::l,hn,h =>
  have h1:=h a (by simp)
  have h2:=h b (by simp)
  rw[List.nodup_cons]at hn
  exact absurd (by rw[h1,h2];simp:a∈b::l) hn.1
structure JC (m:List Wd):Prop where
 two:2≤m.length
 ok:∀x∈m,x.ok
 nj:∀x∈m,x.hd ≠ -2
 anti:Anti m
 low:∀x∈m,x.hd = -1→∀t∈mb (-1) x,wle t (jn m)=false
 srt:SortedL cmpT (m.map Wd.fl)
theorem JC.ne {m:List Wd}(h:JC m):m≠[]:=fun e=>by have:=h.two;rw[e]at this;simp at this
inductive Can:Wd→Prop
 | v (n:Int):Can (.v n)
 | j (m:List Wd) (c:JC m) (h:∀x∈m,Can x):Can (jn m)
 | d (m:List Wd) (c:JC m) (h:∀x∈m,Can x):Can (jn m).du
theorem wif {A:Wd}(h:Can A):Can A.du:=by
 cases h with
 | v n=>exact .v n
 | j m c h=>exact .d m c h
 | d m c h=>rw[wbd];exact .j m c h
theorem wgj {m:List Wd}(h:2≤m.length):(jn m).hd = -2:=by
 match m,h with
 | x::y::l,_=>rw[wz (by simp)];rfl
theorem wjv {A:Wd}(h:A.hd = -2) (ho:A.ok):A.du.hd = -1:=by
 cases A with
 | v n=>rw[hd_v]at h;have:=ho.1;omega
 | op g a b=>rw[x9]at h;subst h;rfl
theorem wdo:∀{m:List Wd},m≠[]→(∀x∈m,x.hd ≠ -2)→mb (-2) (jn m)=m
 | [],h,_=>absurd rfl h
 | [x],_,h=>wbe (h x (by simp))
 | x::y::l,_,h=>by
  rw[wz (by simp),mb,if_pos rfl,wbe (h x (by simp)),wdo (by simp) fun z hz=>h z (by simp_all)];rfl
theorem wdm:∀{A:Wd},mb (-1) A.du=(mb (-2) A).map Wd.du
 | .v n=>rfl
 | .op g a b=>by
  simp only[Wd.du,mb]
  by_cases e:g = -2
  ·subst e
   rw[if_pos (by omega),if_pos rfl,wdm (A:=a),wdm (A:=b),List.map_append]
  ·rw[if_neg (by omega),if_neg e];rfl
theorem wij:∀{m:List Wd},∀x∈m,x.fl.length≤(jn m).fl.length
 | [],x,hx=>by cases hx
 | [y],x,hx=>by rw[List.mem_singleton]at hx;subst hx;exact Nat.le_refl _
 | y::z::l,x,hx=>by
  rw[wz (by simp)]
  simp only[Wd.fl,List.length_cons,List.length_append]
  rcases List.mem_cons.1 hx with rfl|hx
  ·omega
  ·have:=wij (m:=z::l) x hx;omega
theorem wjx {m:List Wd}(h:2≤m.length):∀x∈m,x.fl.length<(jn m).fl.length:=by
 match m,h with
 | y::z::l,_ =>
  intro x hx
  rw[wz (by simp)]
  simp only[Wd.fl,List.length_cons,List.length_append]
  rcases List.mem_cons.1 hx with rfl|hx
  ·omega
  ·have:=wij (m:=z::l) x hx;omega
theorem wk9 {m l:List Wd}(hm:JC m) (hl:JC l) (ih:∀x∈m,∀y∈l,wle x y=true→wle y x=true→x=y) (h1:wle (jn m) (jn l)=true) (h2:wle (jn l) (jn m)=true):m=l:=by
 have om:=wy hm.ne hm.ok
 have ol:=wy hl.ne hl.ok
 have up:∀{m l:List Wd},JC m→JC l→wle (jn m) (jn l)=true→wle (jn l) (jn m)=true→∀x∈m,∃y∈l,wle x y=true:=by
  intro m l hm hl h1 h2 x hx
  have ox:=hm.ok x hx
  have e:=(xd hm.ne).1 h1 x hx
  by_cases hh:x.hd = -1
  ·rcases whit _ x (Nat.le_refl _) ox hh hl.ne hl.ok e with⟨t,ht,q⟩|q
   ·have:=wtr (xj ox t ht) (wy hl.ne hl.ok) (wy hm.ne hm.ok) q h2
    rw[hm.low x hx hh t ht]at this;cases this
   ·exact q
  ·cases x with
   | v n=>exact v_jn hl.ne e
   | op g a b =>
    have:=hm.nj _ hx
    rw[x9]at this hh
    have:=ox.1
    omega
 have sub1:∀x∈m,x∈l:=fun x hx=>by
  obtain⟨y,hy,e⟩:=up hm hl h1 h2 x hx
  obtain⟨x',hx',e'⟩:=up hl hm h2 h1 y hy
  have:=wbc hm.anti x hx x' hx' (wtr (hm.ok x hx) (hl.ok y hy) (hm.ok x' hx') e e')
  subst this
  rw[ih x hx y hy e e'];exact hy
 have sub2:∀y∈l,y∈m:=fun y hy=>by
  obtain⟨x,hx,e⟩:=up hl hm h2 h1 y hy
  obtain⟨y',hy',e'⟩:=up hm hl h1 h2 x hx
  have:=wbc hl.anti y hy y' hy' (wtr (hl.ok y hy) (hm.ok x hx) (hl.ok y' hy') e e')
  subst this
  rw[←ih x hx y hy e' e];exact hx
 have hp:m.Perm l:=wgl (wab hm.ok hm.anti) (wab hl.ok hl.anti) fun a=>⟨sub1 a,sub2 a⟩
 have he:m.map Wd.fl=l.map Wd.fl:=jal jx (hp.map Wd.fl) hm.srt hl.srt
 have inj:∀{m l:List Wd},(∀x∈m,x.ok)→(∀x∈l,x.ok)→m.map Wd.fl=l.map Wd.fl→m=l:=by
  intro m
  induction m with
  | nil=>intro l _ _ e;cases l with|nil=>rfl|cons y l=>simp at e
  | cons x m ih =>
   intro l h1 h2 e
   cases l with
   | nil=>simp at e
   | cons y l =>
    simp only[List.map_cons,List.cons.injEq]at e
    have:=(z8 x y (h1 x (by simp)) (h2 y (by simp)) [] [] (by rw[e.1])).1
    rw[this,ih (fun z hz=>h1 z (by simp[hz])) (fun z hz=>h2 z (by simp[hz])) e.2]
 exact inj hm.ok hl.ok he
theorem we7 {m:List Wd}(hm:JC m){C x:Wd}(hC:C.ok) (h1:wle (jn m) C=true) (hx:x∈m) (h2:wle C x=true):False:=by
 have:=wko (wab hm.ok hm.anti) x fun y hy=>wbc hm.anti y hy x hx (wtr (hm.ok y hy) hC (hm.ok x hx) ((xd hm.ne).1 h1 y hy) h2)
 have:=hm.two
 omega
theorem wcm {n:Int}(hn:(Wd.v n).ok){m:List Wd}(hm:JC m) (h1:wle (.v n) (jn m)=true) (h2:wle (jn m) (.v n)=true):False:=by
 obtain⟨x,hx,e⟩:=v_jn hm.ne h1
 exact we7 hm hn h2 hx e
theorem wig {m l:List Wd}(hm:JC m) (hl:JC l) (h1:wle (jn m) (jn l).du=true) (h2:wle (jn l).du (jn m)=true):False:=by
 have ol:=wy hl.ne hl.ok
 have om:=wy hm.ne hm.ok
 have odl:=zf ol
 rcases whit _ _ (Nat.le_refl _) odl (wjv (wgj hl.two) ol) hm.ne hm.ok h2 with⟨t,ht,e⟩|⟨x,hx,e⟩
 ·rw[wdm,wdo hl.ne hl.nj]at ht
  obtain⟨z,hz,rfl⟩:=List.mem_map.1 ht
  have q:=wtr (zf (hl.ok z hz)) om odl e h1
  rw[wdu (hl.ok z hz) ol]at q
  have:=ww (hl.ok z hz)
  exact we7 hl (hl.ok z hz) q hz this
 ·exact we7 hm odl h1 hx e
theorem ze:∀(k:Nat) (A B:Wd),A.fl.length+B.fl.length≤k→A.ok→B.ok→Can A→Can B→wle A B=true→wle B A=true→A=B:=by
 intro k
 induction k with
 | zero=>intro A B h;have:=A.pos;omega
 | succ k ih =>
  intro A B hk hA hB cA cB h1 h2
  have jj:∀{m l:List Wd},JC m→JC l→(∀x∈m,Can x)→(∀x∈l,Can x)→(jn m).fl.length+(jn l).fl.length≤k+1→wle (jn m) (jn l)=true→wle (jn l) (jn m)=true→m=l:=by
   intro m l hm hl cm cl hk h1 h2
   refine wk9 hm hl (fun x hx y hy e1 e2 => ?_) h1 h2
   have:=wjx hm.two x hx
   have:=wjx hl.two y hy
   exact ih x y (by omega) (hm.ok x hx) (hl.ok y hy) (cm x hx) (cl y hy) e1 e2
  cases cA with
  | v n =>
   cases cB with
   | v m =>
    rw[wle,decide_eq_true_eq]at h1
    rw[h1]
   | j m c h=>exact(wcm hA c h1 h2).elim
   | d m c h =>
    have ol:=wy c.ne c.ok
    exact(wcm hA c (by rw[←wdu ol hA];exact h2) (by rw[←wdu hA ol];exact h1)).elim
  | j m c h =>
   cases cB with
   | v n=>exact(wcm hB c h2 h1).elim
   | j l c' h'=>rw[jj c c' h h' hk h1 h2]
   | d l c' h'=>exact(wig c c' h1 h2).elim
  | d m c h =>
   have om:=wy c.ne c.ok
   cases cB with
   | v n=>exact(wcm hB c (by rw[←wdu om hB];exact h1) (by rw[←wdu hB om];exact h2)).elim
   | j l c' h'=>exact(wig c' c h2 h1).elim
   | d l c' h' =>
    have ol:=wy c'.ne c'.ok
    rw[z7,z7]at hk
    rw[wdu om ol]at h1
    rw[wdu ol om]at h2
    rw[jj c c' h h' hk h2 h1]
def rows (m:List Wd):List (List Int):=m.map Wd.fl
theorem wb (m:List Wd):(rows m).length=m.length:=List.length_map _
def gw (m:List Wd) (i:Nat):Wd:=m.getD i (.v 0)
theorem wh {m:List Wd}{i:Nat}(h:i<m.length):gw m i∈m:=by
 unfold gw
 rw[List.getD_eq_getElem?_getD,List.getElem?_eq_getElem h]
 exact List.getElem_mem h
theorem we2 {m:List Wd}{i:Nat}(h:i<m.length):m[i]? = some (gw m i):=by
 unfold gw
 rw[List.getD_eq_getElem?_getD,List.getElem?_eq_getElem h];rfl
theorem xl {m:List Wd}{i:Nat}(h:i<m.length):(rows m)[i]? = some (gw m i).fl:=by
 unfold rows
 rw[List.getElem?_map,we2 h];rfl
theorem wl {m:List Wd}{i:Nat}(h:i<m.length):atI (rows m) (i:Int)=some (gw m i).fl:=by rw[qc,xl h]
theorem xu (A:Wd):atI A.fl (0:Int)=some A.hd:=by
 cases A<;>rfl
theorem wcn:∀{A:Wd},A.ok→∀x∈A.fl, -2≤x∧x<5
 | .v n,h,x,hx=>by simp only[Wd.fl,List.mem_singleton]at hx;subst hx;have:=h.1;have:=h.2;omega
 | .op g a b,⟨hg,ha,hb⟩,x,hx=>by
  simp only[Wd.fl,List.mem_cons,List.mem_append]at hx
  rcases hx with rfl|hx|hx
  ·omega
  ·exact wcn ha x hx
  ·exact wcn hb x hx
structure SM (m:List Wd):Prop where
 ok:∀x∈m,x.ok
 len:∀x∈m,x.fl.length≤40
 cnt:m.length≤1000
def NdK (m:List Wd) (i k:Nat):Prop:=k<m.length∧k≠i∧wle (gw m i) (gw m k)=true∧(k<i∨wle (gw m k) (gw m i)=false)
def Nd (m:List Wd) (i:Nat):Prop:=i<m.length∧∃k,NdK m i k
theorem wiz {m:List Wd}(hm:SM m){i k:Nat}(hi:i<m.length) (hk:NdK m i k){rc:List (List Int)→Int→List Int→List (List Int)→Int→Int→List (List Int)→Int→Int→Option (Int×Unit)}{kk:List (List Int)→List (List Int)→Int→Int→Option (Int×Unit)}{a7:List (List Int)}{a8 a9:Int} :
  yc rc kk (rows m) (i:Int) (gw m i).fl a7 a8 a9 (rows m) (m.length:Int) (k:Int)=some ((i:Int),()):=by
 obtain⟨k1,k2,k3,k4⟩:=hk
 have mi:=wh hi
 have mk:=wh k1
 unfold yc
 rw[cdt (by omega),wl k1,obS,cdf (by omega),wu (hm.ok _ mi) (hm.ok _ mk) (hm.len _ mi) (hm.len _ mk),obS,k3,Bool.not_true,cond_false]
 by_cases c:k<i
 ·rw[cdt (by omega)]
 ·rcases k4 with k4|k4
  ·exact absurd k4 c
  ·rw[cdf (by omega),wu (hm.ok _ mk) (hm.ok _ mi) (hm.len _ mk) (hm.len _ mi),obS,k4];rfl
theorem we6 {m:List Wd}(hm:SM m){i k:Nat}(hi:i<m.length) (hkl:k<m.length) (hk:¬NdK m i k){rc:List (List Int)→Int→List Int→List (List Int)→Int→Int→List (List Int)→Int→Int→Option (Int×Unit)}{kk:List (List Int)→List (List Int)→Int→Int→Option (Int×Unit)}{a7:List (List Int)}{a8 a9:Int} :
  yc rc kk (rows m) (i:Int) (gw m i).fl a7 a8 a9 (rows m) (m.length:Int) (k:Int)=rc (rows m) (i:Int) (gw m i).fl a7 a8 a9 (rows m) (m.length:Int) ((k+1:Nat):Int):=by
 have mi:=wh hi
 have mk:=wh hkl
 have hc:=hm.cnt
 unfold yc
 rw[cdt (by omega),wl hkl,obS]
 by_cases e:i=k
 ·rw[cdt (by omega),wr1 (by omega)]
 ·rw[cdf (by omega),wu (hm.ok _ mi) (hm.ok _ mk) (hm.len _ mi) (hm.len _ mk),obS]
  cases h1:wle (gw m i) (gw m k) with
  | false=>rw[Bool.not_false,cond_true,wr1 (by omega)]
  | true =>
   rw[Bool.not_true,cond_false]
   have c:¬k<i:=fun c=>hk ⟨hkl,fun q=>e q.symm,h1,.inl c⟩
   rw[cdf (by omega),wu (hm.ok _ mk) (hm.ok _ mi) (hm.len _ mk) (hm.len _ mi),obS]
   cases h2:wle (gw m k) (gw m i) with
   | false=>exact absurd ⟨hkl,fun q=>e q.symm,h1,.inr h2⟩ hk
   | true=>rw[Bool.not_true,cond_false,wr1 (by omega)]
theorem wiy {m:List Wd}(hm:SM m){i:Nat}(h:Nd m i){rec:List (List Int)→List (List Int)→Int→Int→Option (Int×Unit)}{kk:Option (Int×Unit)}{a7:List (List Int)}{a8 a9:Int} :
  yv big rec kk (rows m) (i:Int) (gw m i).fl a7 a8 a9 (rows m) (m.length:Int) (0:Int)=some ((i:Int),()):=by
 obtain⟨hi,k,hk⟩:=h
 obtain⟨k0,_,h0,hmin⟩:=x7 (NdK m i) k hk
 have hc:=hm.cnt
 have:=h0.1
 refine wgx k0 (fun _=>True) (by omega) (fun rc j hj _ ih => ?_) (fun rc _=>wiz hm hi h0) 0 (by omega) trivial
 rw[we6 hm hi (by omega) (hmin j hj)]
 exact ih trivial
theorem we5 {m:List Wd}(hm:SM m){i:Nat}(hi:i<m.length) (h:¬Nd m i){rec:List (List Int)→List (List Int)→Int→Int→Option (Int×Unit)}{kk:Option (Int×Unit)}{a7:List (List Int)}{a8:Int} :
  yv big rec kk (rows m) (i:Int) (gw m i).fl a7 a8 (i:Int) (rows m) (m.length:Int) (0:Int)=rec (rows m) a7 a8 ((i+1:Nat):Int):=by
 have hc:=hm.cnt
 refine wgx m.length (fun _=>True) (by omega) (fun rc j hj _ ih => ?_) (fun rc _ => ?_) 0 (by omega) trivial
 ·rw[we6 hm hi hj fun q=>h ⟨hi,j,q⟩]
  exact ih trivial
 ·unfold yc zl
  rw[cdf (by omega),wr1 (by omega)]
theorem wlc {m:List Wd}(hm:SM m){i:Nat}(h:Nd m i) (hmin:∀j,j<i→¬Nd m j):V34 big (rows m)=some ((i:Int),()):=by
 have hi:=h.1
 have hc:=hm.cnt
 unfold V34 wdb
 rw[wb]
 refine wgw i (fun _=>True) (by omega) (fun rc j hj _ ih => ?_) (fun rc _ => ?_) 0 (by omega) trivial
 ·unfold yb
  rw[cdt (by omega),wl (show j<m.length by omega),obS,wb,we5 hm (by omega) (hmin j hj)]
  exact ih trivial
 ·unfold yb
  rw[cdt (by omega),wl hi,obS,wb,wiy hm h]
theorem wlb {m:List Wd}(hm:SM m) (h:∀i,¬Nd m i):V34 big (rows m)=some ((-1:Int),()):=by
 have hc:=hm.cnt
 unfold V34 wdb
 rw[wb]
 refine wgw m.length (fun _=>True) (by omega) (fun rc j hj _ ih => ?_) (fun rc _ => ?_) 0 (by omega) trivial
 ·unfold yb
  rw[cdt (by omega),wl hj,obS,wb,we5 hm hj (h j)]
  exact ih trivial
 ·unfold yb
  rw[cdf (by omega),ya]
theorem wiq {m:List Wd}(hm:SM m){i k:Nat}(hi:i<m.length) (hk:NdK m i k){rc:List (List Int)→Int→Int→Option (Int×Unit)}{kk:List (List Int)→Int→Option (Int×Unit)} :
  yi rc kk (rows m) (i:Int) (k:Int)=some ((i:Int),()):=by
 obtain⟨k1,k2,k3,k4⟩:=hk
 have mi:=wh hi
 have mk:=wh k1
 unfold yi
 rw[wb,cdt (by omega),cdt (by omega),wl hi,obS,wl k1,obS,w5 (hm.ok _ mi) (hm.ok _ mk) (hm.len _ mi) (hm.len _ mk),obS,k3,cond_true]
 by_cases c:k<i
 ·rw[cdt (by omega)]
 ·rcases k4 with k4|k4
  ·exact absurd k4 c
  ·rw[cdf (by omega),obS,obS,w5 (hm.ok _ mk) (hm.ok _ mi) (hm.len _ mk) (hm.len _ mi),obS,k4];rfl
theorem wc9 {m:List Wd}(hm:SM m){i k:Nat}(hi:i<m.length) (hkl:k<m.length) (hk:¬NdK m i k){rc:List (List Int)→Int→Int→Option (Int×Unit)}{kk:List (List Int)→Int→Option (Int×Unit)} :
  yi rc kk (rows m) (i:Int) (k:Int)=rc (rows m) (i:Int) ((k+1:Nat):Int):=by
 have mi:=wh hi
 have mk:=wh hkl
 have hc:=hm.cnt
 unfold yi
 rw[wb,cdt (by omega)]
 by_cases e:i=k
 ·rw[cdf (by omega),wr1 (by omega)]
 ·rw[cdt (by omega),wl hi,obS,wl hkl,obS,w5 (hm.ok _ mi) (hm.ok _ mk) (hm.len _ mi) (hm.len _ mk),obS]
  cases h1:wle (gw m i) (gw m k) with
  | false=>rw[cond_false,wr1 (by omega)]
  | true =>
   rw[cond_true]
   have c:¬k<i:=fun c=>hk ⟨hkl,fun q=>e q.symm,h1,.inl c⟩
   rw[cdf (by omega),obS,obS,w5 (hm.ok _ mk) (hm.ok _ mi) (hm.len _ mk) (hm.len _ mi),obS]
   cases h2:wle (gw m k) (gw m i) with
   | false=>exact absurd ⟨hkl,fun q=>e q.symm,h1,.inr h2⟩ hk
   | true=>rw[Bool.not_true,cond_false,wr1 (by omega)]
theorem wip {m:List Wd}(hm:SM m){i:Nat}(h:Nd m i){rec:List (List Int)→Int→Option (Int×Unit)}{kk:Option (Int×Unit)} :
  y6 big rec kk (rows m) (i:Int) (0:Int)=some ((i:Int),()):=by
 obtain⟨hi,k,hk⟩:=h
 obtain⟨k0,_,h0,hmin⟩:=x7 (NdK m i) k hk
 have hc:=hm.cnt
 have:=h0.1
 refine whk k0 (fun _=>True) (by omega) (fun rc j hj _ ih => ?_) (fun rc _=>wiq hm hi h0) 0 (by omega) trivial
 rw[wc9 hm hi (by omega) (hmin j hj)]
 exact ih trivial
theorem wc8 {m:List Wd}(hm:SM m){i:Nat}(hi:i<m.length) (h:¬Nd m i){rec:List (List Int)→Int→Option (Int×Unit)}{kk:Option (Int×Unit)} :
  y6 big rec kk (rows m) (i:Int) (0:Int)=rec (rows m) ((i+1:Nat):Int):=by
 have hc:=hm.cnt
 refine whk m.length (fun _=>True) (by omega) (fun rc j hj _ ih => ?_) (fun rc _ => ?_) 0 (by omega) trivial
 ·rw[wc9 hm hi hj fun q=>h ⟨hi,j,q⟩]
  exact ih trivial
 ·unfold yi zt
  rw[wb,cdf (by omega),wr1 (by omega)]
theorem wk0 {m:List Wd}(hm:SM m){i:Nat}(h:Nd m i) (hmin:∀j,j<i→¬Nd m j):V44 big (rows m)=some ((i:Int),()):=by
 have hi:=h.1
 have hc:=hm.cnt
 unfold V44 wdf
 refine whj i (fun _=>True) (by omega) (fun rc j hj _ ih => ?_) (fun rc _ => ?_) 0 (by omega) trivial
 ·unfold yh
  rw[wb,cdt (by omega),wc8 hm (by omega) (hmin j hj)]
  exact ih trivial
 ·unfold yh
  rw[wb,cdt (by omega),wip hm h]
theorem wfr {m:List Wd}(hm:SM m) (h:∀i,¬Nd m i):V44 big (rows m)=some ((-1:Int),()):=by
 have hc:=hm.cnt
 unfold V44 wdf
 refine whj m.length (fun _=>True) (by omega) (fun rc j hj _ ih => ?_) (fun rc _ => ?_) 0 (by omega) trivial
 ·unfold yh
  rw[wb,cdt (by omega),wc8 hm hj (h j)]
  exact ih trivial
 ·unfold yh
  rw[wb,cdf (by omega),yg]
theorem wfq {g:Int}{a b:Wd}(h:(Wd.op g a b).ok) (hl:(Wd.op g a b).fl.length≤1000) :
  V41 (Wd.op g a b).fl=some ((a.fl,b.fl,()),())∧V30 (Wd.op g a b).fl=some ((a.fl,b.fl,()),()):=by
 obtain⟨hg,ha,hb⟩:=h
 simp only[Wd.fl,List.length_cons,List.length_append]at hl
 have h1:we (a.fl++b.fl) 1 1=some (1+a.fl.length):=by
  have:=wcr a ha b.fl 0 1
  rw[this,x8]
 have q:=wi0 (x:=g) (xs:=a.fl++b.fl) (by rw[List.length_append];omega) h1 (by rw[List.length_append];omega)
 rw[show 1+a.fl.length-1=a.fl.length by omega,List.take_left,List.drop_left]at q
 exact q
theorem wjz {g:Int}(hg:g<0):∀(A:Wd),A.ok→A.fl.length≤500→∀d,A.fl.length<d→R_V42 d (A.fl,g,())=some (rows (mb g A),())∧R_V32 d (A.fl,g,())=some (rows (mb g A),()):=by
 intro A
 induction A with
 | v n =>
  intro ho hl d hd
  cases d with
  | zero=>omega
  | succ d =>
   have hn:n≠g:=by have:=ho.1;omega
   simp only[R_V42,V42,wf5,R_V32,V32,wf0]
   rw[xu,hd_v,obS,obS,cdt hn,cdt hn,wbh _ (by omega),wac _ (by omega)]
   exact⟨rfl,rfl⟩
 | op h a b iha ihb =>
  intro ho hl d hd
  cases d with
  | zero=>omega
  | succ d =>
   simp only[R_V42,V42,wf5,R_V32,V32,wf0]
   rw[xu,x9,obS,obS]
   by_cases e:h=g
   ·have hl2:=hl
    simp only[Wd.fl,List.length_cons,List.length_append]at hl2 hd
    obtain⟨a1,a2⟩:=iha ho.2.1 (by omega) d (by omega)
    obtain⟨b1,b2⟩:=ihb ho.2.2 (by omega) d (by omega)
    obtain⟨p1,p2⟩:=wfq ho (by omega)
    have la:=xz (g:=g) (A:=a)
    have lb:=xz (g:=g) (A:=b)
    rw[cdf (by omega),cdf (by omega),p1,p2]
    simp only[obS,a1,a2,b1,b2]
    rw[jk (by rw[wb,wb];omega)]
    rw[mb,if_pos e]
    unfold rows
    rw[List.map_append]
    exact⟨rfl,rfl⟩
   ·rw[cdt e,cdt e,wbh _ (by omega),wac _ (by omega),mb,if_neg e]
    exact⟨rfl,rfl⟩
theorem memI {g:Int}(hg:g<0){A:Wd}(h:A.ok) (hl:A.fl.length≤500):R_V32 big (A.fl,g,())=some (rows (mb g A),()):=(wjz hg A h hl big (by have:=jp;omega)).2
theorem memS {g:Int}(hg:g<0){A:Wd}(h:A.ok) (hl:A.fl.length≤500):R_V42 big (A.fl,g,())=some (rows (mb g A),()):=(wjz hg A h hl big (by have:=jp;omega)).1
def LwR (A x:Wd) (r:Nat):Prop:=r<(mb (-1) x).length∧wle (gw (mb (-1) x) r) A=true
def Lw (A:Wd) (m:List Wd) (i:Nat):Prop:=i<m.length∧(gw m i).hd = -1∧∃r,LwR A (gw m i) r
theorem yq:∀{l:List Nat}{a:Nat},a∈l→a≤l.sum
 | [],_,h=>by cases h
 | x::l,a,h=>by
  rw[List.sum_cons]
  rcases List.mem_cons.1 h with rfl|h
  ·omega
  ·have:=yq h;omega
theorem wdp {x:Wd}(h:x.ok) (hl:x.fl.length≤40){g:Int}:SM (mb g x):=by
 have q:=xz (g:=g) (A:=x)
 refine⟨xj h,fun y hy => ?_,by omega⟩
 have:y.fl.length≤((mb g x).map fun x=>x.fl.length).sum:=yq (List.mem_map_of_mem hy)
 have:=List.length_pos_of_mem hy
 omega
theorem wi5 {A x:Wd}(hA:A.ok) (hAl:A.fl.length≤40) (hx:x.ok) (hxl:x.fl.length≤40){r:Nat}(h:LwR A x r) (hmin:∀q,q<r→¬LwR A x q){rec:List Int→List (List Int)→Int→Int→Option ((Int×((List (List Int))×Unit))×Unit)}{kk:Option ((Int×((List (List Int))×Unit))×Unit)}{a6:Int}{a10:List (List Int)}{a11 a12:Int} :
  yd big rec kk A.fl a6 a10 a11 a12 (rows (mb (-1) x)) ((mb (-1) x).length:Int) (0:Int)=some ((a6,rows (mb (-2) (gw (mb (-1) x) r)),()),()):=by
 have hs:=wdp (g := -1) hx hxl
 have hc:=hs.cnt
 have hr:=h.1
 have step:∀q,q<(mb (-1) x).length→V20 (gw (mb (-1) x) q).fl A.fl=some (wle (gw (mb (-1) x) q) A,()):=fun q hq=>wu (hs.ok _ (wh hq)) hA (hs.len _ (wh hq)) hAl
 refine wg5 r (fun _=>True) (by omega) (fun rc j hj _ ih => ?_) (fun rc _ => ?_) 0 (by omega) trivial
 ·have hjl:j<(mb (-1) x).length:=by omega
  have hn:wle (gw (mb (-1) x) j) A=false:=by
   cases e:wle (gw (mb (-1) x) j) A with
   | false=>rfl
   | true=>exact absurd ⟨hjl,e⟩ (hmin j hj)
  unfold yz
  rw[cdt (by omega),wl hjl,obS,Int.toNat_natCast,xl hjl]
  simp only[obS,step j hjl,hn]
  rw[cond_false,wr1 (by omega)]
  exact ih trivial
 ·have ho:=hs.ok _ (wh hr)
  have hl:=hs.len _ (wh hr)
  unfold yz
  rw[cdt (by omega),wl hr,obS,Int.toNat_natCast,xl hr]
  simp only[obS,step r hr,h.2,cond_true,memI (g := -2) (by omega) ho (by omega)]
theorem wi4 {A x:Wd}(hA:A.ok) (hAl:A.fl.length≤40) (hx:x.ok) (hxl:x.fl.length≤40) (h:∀r,¬LwR A x r){rec:List Int→List (List Int)→Int→Int→Option ((Int×((List (List Int))×Unit))×Unit)}{kk:Option ((Int×((List (List Int))×Unit))×Unit)}{a6:Int}{a10:List (List Int)}{a11:Int}{i:Nat}(hi:i≤1000) :
  yd big rec kk A.fl a6 a10 a11 (i:Int) (rows (mb (-1) x)) ((mb (-1) x).length:Int) (0:Int)=rec A.fl a10 a11 ((i+1:Nat):Int):=by
 have hs:=wdp (g := -1) hx hxl
 have hc:=hs.cnt
 refine wg5 (mb (-1) x).length (fun _=>True) (by omega) (fun rc j hj _ ih => ?_) (fun rc _ => ?_) 0 (by omega) trivial
 ·have hn:wle (gw (mb (-1) x) j) A=false:=by
   cases e:wle (gw (mb (-1) x) j) A with
   | false=>rfl
   | true=>exact absurd ⟨hj,e⟩ (h j)
  unfold yz
  rw[cdt (by omega),wl hj,obS,Int.toNat_natCast,xl hj]
  simp only[obS,wu (hs.ok _ (wh hj)) hA (hs.len _ (wh hj)) hAl,hn]
  rw[cond_false,wr1 (by omega)]
  exact ih trivial
 ·unfold yz zm
  rw[cdf (by omega),wr1 (by omega)]
theorem wc7 {A:Wd}(hA:A.ok) (hAl:A.fl.length≤40){m:List Wd}(hm:SM m){j:Nat}(hj:j<m.length) (h:¬Lw A m j){rc:List Int→List (List Int)→Int→Int→Option ((Int×((List (List Int))×Unit))×Unit)} :
  yf rc (yd big rc xg) xg A.fl (rows m) (m.length:Int) (j:Int)=rc A.fl (rows m) (m.length:Int) ((j+1:Nat):Int):=by
 have hc:=hm.cnt
 have ho:=hm.ok _ (wh hj)
 have hl:=hm.len _ (wh hj)
 unfold yf
 rw[cdt (by omega),wl hj,obS,xu,obS]
 by_cases e:(gw m j).hd = -1
 ·rw[cdf (by omega),memI (by omega) ho (by omega),obS,wb]
  exact wi4 hA hAl ho hl (fun r q=>h ⟨hj,e,r,q⟩) (by omega)
 ·rw[cdt e,wr1 (by omega)]
theorem wlg {A:Wd}(hA:A.ok) (hAl:A.fl.length≤40){m:List Wd}(hm:SM m){i r:Nat}(hi:i<m.length) (hh:(gw m i).hd = -1) (h:LwR A (gw m i) r) (hr:∀q,q<r→¬LwR A (gw m i) q) (hmin:∀j,j<i→¬Lw A m j) :
  V35 big (rows m) A.fl=some (((i:Int),rows (mb (-2) (gw (mb (-1) (gw m i)) r)),()),()):=by
 have hc:=hm.cnt
 unfold V35 wdd
 rw[wb]
 refine wg4 i (fun _=>True) (by omega) (fun rc j hj _ ih => ?_) (fun rc _ => ?_) 0 (by omega) trivial
 ·rw[wc7 hA hAl hm (by omega) (hmin j hj)]
  exact ih trivial
 ·have ho:=hm.ok _ (wh hi)
  have hl:=hm.len _ (wh hi)
  unfold yf
  rw[cdt (by omega),wl hi,obS,xu,obS,cdf (by omega),memI (by omega) ho (by omega),obS,wb]
  exact wi5 hA hAl ho hl h hr
theorem wlf {A:Wd}(hA:A.ok) (hAl:A.fl.length≤40){m:List Wd}(hm:SM m) (h:∀j,¬Lw A m j):V35 big (rows m) A.fl=some (((-1:Int),[],()),()):=by
 have hc:=hm.cnt
 unfold V35 wdd
 rw[wb]
 refine wg4 m.length (fun _=>True) (by omega) (fun rc j hj _ ih => ?_) (fun rc _ => ?_) 0 (by omega) trivial
 ·rw[wc7 hA hAl hm hj (h j)]
  exact ih trivial
 ·unfold yf
  rw[cdf (by omega),xg]
theorem wku {A x:Wd}(hA:A.ok) (hAl:A.fl.length≤40) (hx:x.ok) (hxl:x.fl.length≤40){r:Nat}(h:LwR A x r) (hmin:∀q,q<r→¬LwR A x q){rec:List (List Int)→List Int→Int→Option ((Int×((List Int)×Unit))×Unit)}{kk:Option ((Int×((List Int)×Unit))×Unit)}{a0:List (List Int)}{a6:Int} :
  yj big rec kk a0 A.fl a6 (rows (mb (-1) x)) (0:Int)=some ((a6,(gw (mb (-1) x) r).fl,()),()):=by
 have hs:=wdp (g := -1) hx hxl
 have hc:=hs.cnt
 have hr:=h.1
 have step:∀q,q<(mb (-1) x).length→V26 (gw (mb (-1) x) q).fl A.fl=some (wle (gw (mb (-1) x) q) A,()):=fun q hq=>w5 (hs.ok _ (wh hq)) hA (hs.len _ (wh hq)) hAl
 refine whs r (fun _=>True) (by omega) (fun rc j hj _ ih => ?_) (fun rc _ => ?_) 0 (by omega) trivial
 ·have hjl:j<(mb (-1) x).length:=by omega
  have hn:wle (gw (mb (-1) x) j) A=false:=by
   cases e:wle (gw (mb (-1) x) j) A with
   | false=>rfl
   | true=>exact absurd ⟨hjl,e⟩ (hmin j hj)
  unfold y9
  rw[wb,cdt (by omega),wl hjl]
  simp only[obS,step j hjl,hn]
  rw[cond_false,wr1 (by omega)]
  exact ih trivial
 ·unfold y9
  rw[wb,cdt (by omega),wl hr]
  simp only[obS,step r hr,h.2,cond_true]
theorem wkt {A x:Wd}(hA:A.ok) (hAl:A.fl.length≤40) (hx:x.ok) (hxl:x.fl.length≤40) (h:∀r,¬LwR A x r){rec:List (List Int)→List Int→Int→Option ((Int×((List Int)×Unit))×Unit)}{kk:Option ((Int×((List Int)×Unit))×Unit)}{a0:List (List Int)}{i:Nat}(hi:i≤1000) :
  yj big rec kk a0 A.fl (i:Int) (rows (mb (-1) x)) (0:Int)=rec a0 A.fl ((i+1:Nat):Int):=by
 have hs:=wdp (g := -1) hx hxl
 have hc:=hs.cnt
 refine whs (mb (-1) x).length (fun _=>True) (by omega) (fun rc j hj _ ih => ?_) (fun rc _ => ?_) 0 (by omega) trivial
 ·have hn:wle (gw (mb (-1) x) j) A=false:=by
   cases e:wle (gw (mb (-1) x) j) A with
   | false=>rfl
   | true=>exact absurd ⟨hj,e⟩ (h j)
  unfold y9
  rw[wb,cdt (by omega),wl hj]
  simp only[obS,w5 (hs.ok _ (wh hj)) hA (hs.len _ (wh hj)) hAl,hn]
  rw[cond_false,wr1 (by omega)]
  exact ih trivial
 ·unfold y9 zu
  rw[wb,cdf (by omega),wr1 (by omega)]
theorem we4 {A:Wd}(hA:A.ok) (hAl:A.fl.length≤40){m:List Wd}(hm:SM m){j:Nat}(hj:j<m.length) (h:¬Lw A m j){rc:List (List Int)→List Int→Int→Option ((Int×((List Int)×Unit))×Unit)} :
  yl rc (yj big rc xh) xh (rows m) A.fl (j:Int)=rc (rows m) A.fl ((j+1:Nat):Int):=by
 have hc:=hm.cnt
 have ho:=hm.ok _ (wh hj)
 have hl:=hm.len _ (wh hj)
 unfold yl
 rw[wb,cdt (by omega),wl hj,obS,xu,obS]
 by_cases e:(gw m j).hd = -1
 ·rw[cdf (by omega),obS,memS (by omega) ho (by omega),obS]
  exact wkt hA hAl ho hl (fun r q=>h ⟨hj,e,r,q⟩) (by omega)
 ·rw[cdt e,wr1 (by omega)]
theorem wlo {A:Wd}(hA:A.ok) (hAl:A.fl.length≤40){m:List Wd}(hm:SM m){i r:Nat}(hi:i<m.length) (hh:(gw m i).hd = -1) (h:LwR A (gw m i) r) (hr:∀q,q<r→¬LwR A (gw m i) q) (hmin:∀j,j<i→¬Lw A m j) :
  V45 big (rows m) A.fl=some (((i:Int),(gw (mb (-1) (gw m i)) r).fl,()),()):=by
 have hc:=hm.cnt
 unfold V45 wdh
 refine whr i (fun _=>True) (by omega) (fun rc j hj _ ih => ?_) (fun rc _ => ?_) 0 (by omega) trivial
 ·rw[we4 hA hAl hm (by omega) (hmin j hj)]
  exact ih trivial
 ·have ho:=hm.ok _ (wh hi)
  have hl:=hm.len _ (wh hi)
  unfold yl
  rw[wb,cdt (by omega),wl hi,obS,xu,obS,cdf (by omega),obS,memS (by omega) ho (by omega),obS]
  exact wku hA hAl ho hl h hr
theorem wln {A:Wd}(hA:A.ok) (hAl:A.fl.length≤40){m:List Wd}(hm:SM m) (h:∀j,¬Lw A m j):V45 big (rows m) A.fl=some (((-1:Int),[],()),()):=by
 have hc:=hm.cnt
 unfold V45 wdh
 refine whr m.length (fun _=>True) (by omega) (fun rc j hj _ ih => ?_) (fun rc _ => ?_) 0 (by omega) trivial
 ·rw[we4 hA hAl hm hj (h j)]
  exact ih trivial
 ·unfold yl
  rw[wb,cdf (by omega),xh]
inductive Star (A:Wd):List Wd→List Wd→Prop
 | done (m:List Wd) (h1:∀i,¬Nd m i) (h2:∀i,¬Lw A m i):Star A m m
 | nd (m m':List Wd) (i:Nat) (h:Nd m i) (hmin:∀j,j<i→¬Nd m j) (s:Star A (m.take i++m.drop (i+1)) m'):Star A m m'
 | lw (m m':List Wd) (i r:Nat) (h1:∀i,¬Nd m i) (hi:i<m.length) (hh:(gw m i).hd = -1) (h:LwR A (gw m i) r) (hr:∀q,q<r→¬LwR A (gw m i) q) (hmin:∀j,j<i→¬Lw A m j)
   (s:Star A (m.take i++mb (-2) (gw (mb (-1) (gw m i)) r)++m.drop (i+1)) m'):Star A m m'
def sz (m:List Wd):Nat:=(m.map fun x=>x.fl.length).sum
theorem w6 (m:List Wd):((rows m).map List.length).sum=sz m:=by unfold rows sz;rw[List.map_map];rfl
theorem z9 (a b:List Wd):sz (a++b)=sz a+sz b:=by unfold sz;rw[List.map_append,List.sum_append]
theorem wc0 (a:Wd) (b:List Wd):sz (a::b)=a.fl.length+sz b:=by unfold sz;rw[List.map_cons,List.sum_cons]
theorem wcp:∀{m:List Wd},m≠[]→(jn m).fl.length+1=sz m+m.length
 | [],h=>absurd rfl h
 | [x],_=>by simp[jn,sz]
 | x::y::l,_=>by
  have:=wcp (m:=y::l) (by simp)
  rw[wz (by simp),wc0]
  simp only[Wd.fl,List.length_cons,List.length_append]at this ⊢
  omega
theorem we3 {m:List Wd}{i:Nat}(h:i<m.length):m=m.take i++gw m i::m.drop (i+1):=by
 have e:gw m i=m[i]:=by
  unfold gw
  rw[List.getD_eq_getElem?_getD,List.getElem?_eq_getElem h];rfl
 rw[e,←List.drop_eq_getElem_cons h,List.take_append_drop]
theorem zg {m:List Wd}{x:Wd}(h:x∈m):∃i,i<m.length∧gw m i=x:=by
 obtain⟨i,hi,e⟩:=List.getElem_of_mem h
 refine⟨i,hi, ?_⟩
 unfold gw
 rw[List.getD_eq_getElem?_getD,List.getElem?_eq_getElem hi,←e];rfl
theorem wcz {m:List Wd}{i k:Nat}(hk:k<m.length) (hi:k≠i):gw m k∈m.take i++m.drop (i+1):=by
 rw[List.mem_append]
 rcases Nat.lt_or_ge k i with c|c
 ·left
  exact List.mem_of_getElem? (i:=k) (by rw[List.getElem?_take_of_lt c];exact we2 hk)
 ·right
  exact List.mem_of_getElem? (i:=k-(i+1)) (by rw[List.getElem?_drop,show i+1+(k-(i+1))=k by omega];exact we2 hk)
theorem xo {m:List Wd}{i:Nat}{x:Wd}(h:x∈m.take i++m.drop (i+1)):x∈m:=by
 rcases List.mem_append.1 h with h|h
 ·exact List.mem_of_mem_take h
 ·exact List.mem_of_mem_drop h
theorem wcy {B:Wd}(hB:B.ok) (h:Can B):∀x∈mb (-2) B,Can x:=by
 cases h with
 | v n=>intro x hx;rw[mb,List.mem_singleton]at hx;subst hx;exact .v n
 | j m c h=>rw[wdo c.ne c.nj];exact h
 | d m c h =>
  have:=wjv (wgj c.two) (wy c.ne c.ok)
  rw[wbe (by rw[this];omega)]
  intro x hx;rw[List.mem_singleton]at hx;subst hx;exact .d m c h
theorem wkp {B:Wd}(hB:B.ok) (hh:B.hd = -1) (h:Can B):∀x∈mb (-1) B,Can x:=by
 cases h with
 | v n=>rw[hd_v]at hh;have:=hB.1;omega
 | j m c h=>rw[wgj c.two]at hh;omega
 | d m c h =>
  rw[wdm,wdo c.ne c.nj]
  intro x hx
  obtain⟨y,hy,rfl⟩:=List.mem_map.1 hx
  exact wif (h y hy)
structure LI (A:Wd) (m:List Wd):Prop where
 ne:m≠[]
 ok:∀x∈m,x.ok
 can:∀x∈m,Can x
 nj:∀x∈m,x.hd ≠ -2
 up:wle A (jn m)=true
 dn:wle (jn m) A=true
 len:sz m+m.length≤A.fl.length+1
theorem LI.sm {A:Wd}{m:List Wd}(h:LI A m) (hA:A.fl.length≤40):SM m:=by
 have:=List.length_pos_iff.2 h.ne
 have hl:=h.len
 refine⟨h.ok,fun x hx => ?_,by omega⟩
 have:x.fl.length≤sz m:=yq (List.mem_map_of_mem (f:=fun x:Wd=>x.fl.length) hx)
 omega
theorem wdl {A:Wd}(hA:A.ok){m:List Wd}(h:LI A m){i:Nat}(hn:Nd m i):LI A (m.take i++m.drop (i+1))∧sz (m.take i++m.drop (i+1))<sz m:=by
 obtain⟨hi,k,k1,k2,k3,_⟩:=hn
 have hk:=wcz (i:=i) k1 k2
 have hne:m.take i++m.drop (i+1)≠[]:=List.ne_nil_of_mem hk
 have ok2:∀x∈m.take i++m.drop (i+1),x.ok:=fun x hx=>h.ok x (xo hx)
 have hs:=we3 hi
 have e1:sz m=sz (m.take i++m.drop (i+1))+(gw m i).fl.length:=by
  conv=>lhs;rw[hs]
  rw[z9,wc0,z9];omega
 have e2:m.length=(m.take i++m.drop (i+1)).length+1:=by
  conv=>lhs;rw[hs]
  simp only[List.length_append,List.length_cons];omega
 have hp:=(gw m i).pos
 have hl:=h.len
 have om:=wy h.ne h.ok
 refine⟨⟨hne,ok2,fun x hx=>h.can x (xo hx),fun x hx=>h.nj x (xo hx), ?_, ?_,by omega⟩,by omega⟩
 ·refine wtr hA om (wy hne ok2) h.up ((xd h.ne).2 fun x hx => ?_)
  obtain⟨j,hj,rfl⟩:=zg hx
  by_cases e:j=i
  ·subst e
   exact waj (h.ok _ hx) ok2 ⟨_,hk,k3⟩
  ·exact waj (h.ok _ hx) ok2 ⟨_,wcz hj e,ww (h.ok _ hx)⟩
 ·exact(xd hne).2 fun x hx=>(xd h.ne).1 h.dn x (xo hx)
theorem wdk {A:Wd}(hA:A.ok){m:List Wd}(h:LI A m){i r:Nat}(hi:i<m.length) (hh:(gw m i).hd = -1) (hr:LwR A (gw m i) r) :
  LI A (m.take i++mb (-2) (gw (mb (-1) (gw m i)) r)++m.drop (i+1))∧sz (m.take i++mb (-2) (gw (mb (-1) (gw m i)) r)++m.drop (i+1))<sz m:=by
 have hx:=wh hi
 have hs:=we3 hi
 obtain⟨x,hxe⟩:∃x,gw m i=x:=⟨_,rfl⟩
 rw[hxe]at hh hr hx hs ⊢
 have ox:=h.ok x hx
 have ht:=wh hr.1
 have hle:=hr.2
 obtain⟨t,hte⟩:∃t,gw (mb (-1) x) r=t:=⟨_,rfl⟩
 rw[hte]at ht hle ⊢
 have ot:=xj ox t ht
 have cn:=wkp ox hh (h.can x hx) t ht
 have hlt:=wjy hh (by omega) ox t ht
 have hml:=xz (g := -2) (A:=t)
 have hmp:=List.length_pos_iff.2 (wgk (g := -2) (A:=t))
 have mem:∀y,y∈m.take i++mb (-2) t++m.drop (i+1)↔y∈mb (-2) t∨y∈m.take i++m.drop (i+1):=fun y=>by
  simp only[List.mem_append]
  constructor
  ·rintro ((q|q)|q)
   ·exact .inr (.inl q)
   ·exact .inl q
   ·exact .inr (.inr q)
  ·rintro (q|q|q)
   ·exact .inl (.inr q)
   ·exact .inl (.inl q)
   ·exact .inr q
 obtain⟨m2,hm2⟩:∃m2,m.take i++mb (-2) t++m.drop (i+1)=m2:=⟨_,rfl⟩
 have e1:sz m2+x.fl.length=sz m+sz (mb (-2) t):=by
  conv=>rhs;rw[hs]
  rw[←hm2,z9,z9,z9,wc0];omega
 have e2:m2.length+1=m.length+(mb (-2) t).length:=by
  conv=>rhs;rw[hs]
  rw[←hm2]
  simp only[List.length_append,List.length_cons];omega
 rw[hm2]at mem ⊢
 have ne2:m2≠[]:=fun e=>by rw[e,List.length_nil]at e2;have:=List.length_pos_iff.2 h.ne;omega
 have ok2:∀y∈m2,y.ok:=fun y hy=>by
  rcases (mem y).1 hy with q|q
  ·exact xj ot y q
  ·exact h.ok y (xo q)
 have om:=wy h.ne h.ok
 have om2:=wy ne2 ok2
 have hl:=h.len
 have hml2:sz (mb (-2) t)+(mb (-2) t).length≤t.fl.length+1:=hml
 refine⟨⟨ne2,ok2,fun y hy => ?_,fun y hy => ?_, ?_, ?_,by omega⟩,by omega⟩
 ·rcases (mem y).1 hy with q|q
  ·exact wcy ot cn y q
  ·exact h.can y (xo q)
 ·rcases (mem y).1 hy with q|q
  ·exact wdn (by omega) ot y q
  ·exact h.nj y (xo q)
 ·refine wtr hA om om2 h.up ((xd h.ne).2 fun y hy => ?_)
  have oy:=h.ok y hy
  obtain⟨j,hj,rfl⟩:=zg hy
  by_cases e:j=i
  ·subst e
   rw[hxe]
   have xt:wle x t=true:=(wll (A:=x) ox).1 (ww ox) t ht
   refine wtr ox ot om2 xt (jm_le.2 fun z hz => ?_)
   have oz:=xj ot z hz
   exact waj oz ok2 ⟨z,(mem z).2 (.inl hz),ww oz⟩
  ·exact waj oy ok2 ⟨_,(mem _).2 (.inr (wcz hj e)),ww oy⟩
 ·refine(xd ne2).2 fun y hy => ?_
  rcases (mem y).1 hy with q|q
  ·exact wtr (xj ot y q) ot hA (jm_le.1 (ww ot) y q) hle
  ·exact(xd h.ne).1 h.dn y (xo q)
theorem wk1 {A:Wd}(hA:A.ok):∀(n:Nat) (m:List Wd),sz m≤n→LI A m→∃m',Star A m m':=by
 intro n
 induction n with
 | zero =>
  intro m hs h
  have:=wcp h.ne
  have:=(jn m).pos
  have hp:=List.length_pos_iff.2 h.ne
  obtain⟨x,hx⟩:=List.exists_mem_of_ne_nil _ h.ne
  have:x.fl.length≤sz m:=yq (List.mem_map_of_mem (f:=fun x:Wd=>x.fl.length) hx)
  have:=x.pos
  omega
 | succ n ih =>
  intro m hs h
  by_cases h1:∃i,Nd m i
  ·obtain⟨i0,hi0⟩:=h1
   obtain⟨i,_,hi,hmin⟩:=x7 (Nd m) i0 hi0
   obtain⟨q1,q2⟩:=wdl hA h hi
   obtain⟨m',hm'⟩:=ih _ (by omega) q1
   exact⟨m',.nd m m' i hi hmin hm'⟩
  ·have h1:∀i,¬Nd m i:=fun i q=>h1 ⟨i,q⟩
   by_cases h2:∃i,Lw A m i
   ·obtain⟨i0,hi0⟩:=h2
    obtain⟨i,_,⟨hi,hh,r0,hr0⟩,hmin⟩:=x7 (Lw A m) i0 hi0
    obtain⟨r,_,hr,hrm⟩:=x7 (LwR A (gw m i)) r0 hr0
    obtain⟨q1,q2⟩:=wdk hA h hi hh hr
    obtain⟨m',hm'⟩:=ih _ (by omega) q1
    exact⟨m',.lw m m' i r h1 hi hh hr hrm hmin hm'⟩
   ·exact⟨m,.done m h1 fun i q=>h2 ⟨i,q⟩⟩
theorem wk2 {A:Wd}(hA:A.ok){m m':List Wd}(s:Star A m m'):LI A m→LI A m'∧(∀i,¬Nd m' i)∧∀i,¬Lw A m' i:=by
 induction s with
 | done m h1 h2=>exact fun h=>⟨h,h1,h2⟩
 | nd m m' i h hmin s ih=>exact fun q=>ih (wdl hA q h).1
 | lw m m' i r h1 hi hh h hr hmin s ih=>exact fun q=>ih (wdk hA q hi hh h).1
theorem wi1 {f:Wd→List Int}{l l2:List (List Int)}(h:l.Perm l2):∀m:List Wd,m.map f=l2→∃ms:List Wd,ms.Perm m∧ms.map f=l:=by
 induction h with
 | nil=>intro m e;exact⟨m,List.Perm.refl _,e⟩
 | cons x _ ih =>
  intro m e
  cases m with
  | nil=>cases e
  | cons y m =>
   simp only[List.map_cons,List.cons.injEq]at e
   obtain⟨ms,p,q⟩:=ih m e.2
   exact⟨y::ms,p.cons y,by rw[List.map_cons,q,e.1]⟩
 | swap x y l =>
  intro m e
  match m,e with
  | a::b::m,e =>
   simp only[List.map_cons,List.cons.injEq]at e
   exact⟨b::a::m,List.Perm.swap a b m,by simp only[List.map_cons];rw[e.1,e.2.1,e.2.2]⟩
 | trans _ _ ih1 ih2 =>
  intro m e
  obtain⟨m2,p2,e2⟩:=ih2 m e
  obtain⟨m3,p3,e3⟩:=ih1 m2 e2
  exact⟨m3,p3.trans p2,e3⟩
theorem wkz {m:List Wd}(h:∀i,¬Nd m i):Anti m:=by
 have ge:∀i (hi:i<m.length),gw m i=m[i]:=fun i hi=>by
  unfold gw
  rw[List.getD_eq_getElem?_getD,List.getElem?_eq_getElem hi];rfl
 have key:∀i k,i<m.length→k<m.length→i≠k→wle (gw m i) (gw m k)=false:=by
  intro i k hi hk e
  cases q:wle (gw m i) (gw m k) with
  | false=>rfl
  | true =>
   exfalso
   cases q2:wle (gw m k) (gw m i) with
   | false=>exact h i ⟨hi,k,hk,fun c=>e c.symm,q,.inr q2⟩
   | true =>
    rcases Nat.lt_or_ge k i with c|c
    ·exact h i ⟨hi,k,hk,fun c=>e c.symm,q,.inl c⟩
    ·exact h k ⟨hk,i,hi,e,q2,.inl (by omega)⟩
 unfold Anti
 rw[List.pairwise_iff_getElem]
 intro i j hi hj hij
 rw[←ge i hi,←ge j hj]
 exact⟨key i j hi hj (by omega),key j i hj hi (by omega)⟩
theorem wkr {A:Wd}(hA:A.ok){m:List Wd}(h:LI A m) (h1:∀i,¬Nd m i) (h2:∀i,¬Lw A m i) :
  ∃ms:List Wd,ms≠[]∧rows ms=sortBy cmpT (rows m)∧ms.length=m.length∧(jn ms).ok∧Can (jn ms)∧wle A (jn ms)=true∧wle (jn ms) A=true∧(jn ms).fl.length≤A.fl.length:=by
 obtain⟨ms,hp,he⟩:=wi1 (vw jx (rows m)) m rfl
 have hlen:=hp.length_eq
 have hne:ms≠[]:=fun e=>by rw[e]at hlen;exact h.ne (List.eq_nil_of_length_eq_zero (by rw[←hlen];rfl))
 have mem:∀x,x∈ms↔x∈m:=fun x=>hp.mem_iff
 have ok2:∀x∈ms,x.ok:=fun x hx=>h.ok x ((mem x).1 hx)
 have om:=wy h.ne h.ok
 have oms:=wy hne ok2
 have d1:wle (jn ms) A=true:=(xd hne).2 fun x hx=>(xd h.ne).1 h.dn x ((mem x).1 hx)
 have u1:wle A (jn ms)=true:=wtr hA om oms h.up ((xd h.ne).2 fun x hx=>waj (h.ok x hx) ok2 ⟨x,(mem x).2 hx,ww (h.ok x hx)⟩)
 have hsz:sz ms=sz m:=(hp.map fun x:Wd=>x.fl.length).sum_nat
 have hj:=wcp hne
 have hl:=h.len
 refine⟨ms,hne,he,hlen,oms, ?_,u1,d1,by omega⟩
 by_cases h2l:2≤ms.length
 ·refine .j ms ⟨h2l,ok2,fun x hx=>h.nj x ((mem x).1 hx), ?_,fun x hx hh t ht => ?_, ?_⟩ fun x hx=>h.can x ((mem x).1 hx)
  ·exact(hp.pairwise_iff fun q=>⟨q.2,q.1⟩).2 (wkz h1)
  ·cases q:wle t (jn ms) with
   | false=>rfl
   | true =>
    exfalso
    have ox:=ok2 x hx
    obtain⟨i,hi,rfl⟩:=zg ((mem x).1 hx)
    obtain⟨r,hr,rfl⟩:=zg ht
    exact h2 i ⟨hi,hh,r,hr,wtr (xj ox _ ht) oms hA q d1⟩
  ·have:=uc jx (rows m)
   rw[←he]at this
   exact this
 ·match ms,hne,h2l with
  | [x],_,_=>exact h.can x ((mem x).1 (by simp))
  | x::y::l,_,h2l=>exact absurd (by simp) h2l
theorem zi (m:List Wd) (k:Nat):(rows m).take k=rows (m.take k):=by unfold rows;rw[List.map_take]
theorem wa6 (m:List Wd) (k:Nat):(rows m).drop k=rows (m.drop k):=by unfold rows;rw[List.map_drop]
theorem wi6 (a b:List Wd):rows a++rows b=rows (a++b):=by unfold rows;rw[List.map_append]
theorem xk {a b:List Wd}(h:a.length+b.length≤4294967296):appI (rows a) (rows b)=some (rows (a++b)):=by rw[jk (by rw[wb,wb];exact h),wi6]
theorem wez {m:List Wd}{i:Nat}(h:i<m.length) (hm:m.length≤1000):((rows m).drop ((IntKind.i64.wrap ((i:Int)+(1:Int))).toNat)).take ((rows m).length-(IntKind.i64.wrap ((i:Int)+(1:Int))).toNat)=rows (m.drop (i+1)):=by
 rw[wr1 (by omega),Int.toNat_natCast,List.take_of_length_le (by rw[List.length_drop];exact Nat.le_refl _),wa6]
def NV (m:List Wd) (v:Int):Prop:=(v = -1∧∀i,¬Nd m i)∨∃i:Nat,v=(i:Int)∧Nd m i∧∀j,j<i→¬Nd m j
theorem wj0 {m:List Wd}(hm:SM m):∃v,V34 big (rows m)=some (v,())∧NV m v:=by
 by_cases h1:∃i,Nd m i
 ·obtain⟨i0,hi0⟩:=h1
  obtain⟨i,_,hi,hmin⟩:=x7 (Nd m) i0 hi0
  exact⟨_,wlc hm hi hmin,.inr ⟨i,rfl,hi,hmin⟩⟩
 ·have h1:∀i,¬Nd m i:=fun i q=>h1 ⟨i,q⟩
  exact⟨_,wlb hm h1,.inl ⟨rfl,h1⟩⟩
theorem wj1 {m:List Wd}{v:Int}(h:NV m v) (h1:∀i,¬Nd m i):v = -1:=by
 rcases h with⟨h,_⟩|⟨i,_,q,_⟩
 ·exact h
 ·exact absurd q (h1 i)
theorem wld {m:List Wd}{v:Int}(h:NV m v){i:Nat}(hi:Nd m i) (hmin:∀j,j<i→¬Nd m j):v=(i:Int):=by
 rcases h with⟨_,q⟩|⟨k,e,q1,q2⟩
 ·exact absurd hi (q i)
 ·have:k=i:=by
   rcases Nat.lt_trichotomy k i with c|c|c
   ·exact absurd q1 (hmin k c)
   ·exact c
   ·exact absurd hi (q2 i c)
  rw[e,this]
theorem wii (self:(List Int×Unit)→Option (List Int×Unit)){A:Wd}(hA:A.ok) (hAl:A.fl.length≤40){m m':List Wd}(hs:Star A m m') (hl:LI A m) :
  wbx self big A.fl (rows m)=y4 self (xm self big) (rows m'):=by
 have szb:∀{m:List Wd},LI A m→sz m≤40:=fun h=>by have:=h.len;have:=List.length_pos_iff.2 h.ne;omega
 refine wk3 self (fun a5=>(a5.map List.length).sum) (fun a5=>∃m,a5=rows m∧LI A m∧Star A m m') ?_ _ ?_ ⟨m,rfl,hl,hs⟩
 ·rintro rc a5 ⟨m0,rfl,hl0,hs0⟩ ih
  obtain⟨v,ev,hv⟩:=wj0 (hl0.sm hAl)
  unfold wb2
  rw[ev,obS]
  dsimp only
  refine wk4 self (fun a5 _=>(a5.map List.length).sum) (fun a5 v=>∃m1,a5=rows m1∧LI A m1∧Star A m1 m'∧NV m1 v∧sz m1≤sz m0) ?_ _ _ ?_ ⟨m0,rfl,hl0,hs0,hv,Nat.le_refl _⟩
  ·rintro rc2 a5 v ⟨m1,rfl,hl1,hs1,hv,hle⟩ ih2
   have hsm:=hl1.sm hAl
   have hc:=hsm.cnt
   unfold wd8
   cases hs1 with
   | done _ h1 h2 =>
    rw[wj1 hv h1,cdf (by omega)]
    unfold zq
    rw[wlf hA hAl hsm h2,obS,cdt (show(-1:Int)<0 by omega)]
   | nd _ _ i h hmin s =>
    have hi:=h.1
    obtain⟨q1,q2⟩:=wdl hA hl1 h
    obtain⟨v2,e2,hv2⟩:=wj0 (q1.sm hAl)
    rw[wld hv h hmin,cdt (by omega),wb,cdt ⟨by omega,by omega,rfl⟩,cdt ⟨by rw[wr1 (by omega)];omega,by rw[wr1 (by omega)];omega⟩]
    have hcut:=wez hi hc
    rw[wb]at hcut
    rw[hcut,Int.toNat_natCast,zi,xk (by rw[List.length_take,List.length_drop];omega),obS,e2,obS]
    exact ih2 _ _ ⟨_,rfl,q1,s,hv2,by omega⟩ (by rw[w6,w6];exact q2)
   | lw _ _ i r h1 hi hh h hr hmin s =>
    obtain⟨q1,q2⟩:=wdk hA hl1 hi hh h
    rw[wj1 hv h1,cdf (by omega)]
    unfold zq
    rw[wlg hA hAl hsm hi hh h hr hmin,obS]
    dsimp only
    have hq:=(q1.sm hAl).cnt
    rw[List.length_append,List.length_append,List.length_take,List.length_drop]at hq
    have hcut:=wez hi hc
    rw[wb]at hcut
    rw[cdf (by omega),wb,cdt ⟨by rw[wr1 (by omega)];omega,by rw[wr1 (by omega)];omega⟩,hcut,xk (by rw[List.length_drop];omega),obS,cdt ⟨by omega,by omega,rfl⟩,Int.toNat_natCast,zi,xk (by rw[List.length_append,List.length_take,List.length_drop];omega),obS,←List.append_assoc]
    exact ih _ ⟨_,rfl,q1,s⟩ (by rw[w6,w6];omega)
  ·rw[w6];have:=szb hl0;omega
 ·rw[w6];have:=szb hl;omega
theorem wir (self:(List Int×Unit)→Option (List Int×Unit)){A:Wd}(hA:A.ok) (hAl:A.fl.length≤40){m m':List Wd}(hs:Star A m m') (hl:LI A m) :
  wcf self big A.fl (rows m)=zb self (x5 self big) (rows m'):=by
 have szb:∀{m:List Wd},LI A m→sz m≤40:=fun h=>by have:=h.len;have:=List.length_pos_iff.2 h.ne;omega
 refine wk7 self (fun a5=>(a5.map List.length).sum) (fun a5=>∃m,a5=rows m∧LI A m∧Star A m m') ?_ _ ?_ ⟨m,rfl,hl,hs⟩
 ·rintro rc a5 ⟨m1,rfl,hl1,hs1⟩ ih
  have hsm:=hl1.sm hAl
  have hc:=hsm.cnt
  unfold wep
  cases hs1 with
  | done _ h1 h2 =>
   rw[wfr hsm h1,obS,cdf (by omega),wln hA hAl hsm h2,obS,cdt (show(-1:Int)<0 by omega)]
  | nd _ _ i h hmin s =>
   have hi:=h.1
   obtain⟨q1,q2⟩:=wdl hA hl1 h
   rw[wk0 hsm h hmin,obS]
   dsimp only
   rw[cdt (by omega),sl0 _ _ (by rw[wb];omega),obS,jk (by rw[List.length_nil,List.length_take,wb];omega),obS,List.nil_append,wr1 (by omega),slE _ _ (by rw[wb];omega),obS,zi,wa6,xk (by rw[List.length_take,List.length_drop];omega),obS]
   exact ih _ ⟨_,rfl,q1,s⟩ (by rw[w6,w6];exact q2)
  | lw _ _ i r h1 hi hh h hr hmin s =>
   obtain⟨q1,q2⟩:=wdk hA hl1 hi hh h
   have hq:=(q1.sm hAl).cnt
   rw[List.length_append,List.length_append,List.length_take,List.length_drop]at hq
   have hx:=wh hi
   have ox:=hsm.ok _ hx
   have ht:=wh h.1
   have ot:=xj ox _ ht
   have hlt:=wjy hh (by omega) ox _ ht
   have hxl:=hsm.len _ hx
   rw[wfr hsm h1,obS,cdf (by omega),wlo hA hAl hsm hi hh h hr hmin,obS]
   dsimp only
   rw[cdf (by omega),sl0 _ _ (by rw[wb];omega),obS,jk (by rw[List.length_nil,List.length_take,wb];omega),obS,List.nil_append,memS (by omega) ot (by omega),obS,zi]
   dsimp only
   rw[xk (by rw[List.length_take];omega),obS,wr1 (by omega),slE _ _ (by rw[wb];omega),obS,wa6,xk (by rw[List.length_append,List.length_take,List.length_drop];omega),obS]
   exact ih _ ⟨_,rfl,q1,s⟩ (by rw[w6,w6];exact q2)
 ·rw[w6];have:=szb hl;omega
theorem wfo {ms:List Wd}{i:Nat}(h:i+1<ms.length):(Wd.op (-2) (gw ms i) (jn (ms.drop (i+1)))).fl=(jn (ms.drop i)).fl:=by
 have e:ms.drop i=gw ms i::ms.drop (i+1):=by
  have e:gw ms i=ms[i]'(by omega):=by
   unfold gw
   rw[List.getD_eq_getElem?_getD,List.getElem?_eq_getElem (by omega)];rfl
  rw[e,←List.drop_eq_getElem_cons (by omega)]
 rw[e,wz fun q=>by have:=congrArg List.length q;rw[List.length_drop,List.length_nil]at this;omega]
theorem wfp {ms:List Wd}(h:ms≠[]):(jn (ms.drop (ms.length-1))).fl=(gw ms (ms.length-1)).fl:=by
 have hp:=List.length_pos_iff.2 h
 have e:ms.drop (ms.length-1)=[gw ms (ms.length-1)]:=by
  have e:gw ms (ms.length-1)=ms[ms.length-1]'(by omega):=by
   unfold gw
   rw[List.getD_eq_getElem?_getD,List.getElem?_eq_getElem (by omega)];rfl
  rw[e,List.drop_eq_getElem_cons (by omega),List.drop_of_length_le (by omega)]
 rw[e];rfl
theorem wjw {ms:List Wd}{i:Nat}(h:i<ms.length):(jn (ms.drop i)).fl.length≤sz ms+ms.length:=by
 have e:=List.take_append_drop i ms
 have h1:sz ms=sz (ms.take i)+sz (ms.drop i):=by rw[←z9,e]
 have h2:=wcp (m:=ms.drop i) fun q=>by have:=congrArg List.length q;rw[List.length_drop,List.length_nil]at this;omega
 rw[List.length_drop]at h2
 omega
theorem wfa (self:(List Int×Unit)→Option (List Int×Unit)){ms:List Wd}(hne:ms≠[]) (hl:ms.length≤1000) (hs:sz ms≤1000) :
  xm self big (rows ms) (gw ms (ms.length-1)).fl (IntKind.i64.wrap ((ms.length:Int)-(2:Int)))=some ((jn ms).fl,()):=by
 have hp:=List.length_pos_iff.2 hne
 rw[wr (by omega) (by omega),←wfp hne]
 refine wkb self (fun _ v=>(v+1).toNat) (fun a v=>∃i:Nat,v=(i:Int)-1∧i<ms.length∧a=(jn (ms.drop i)).fl) ?_ _ _ (by omega) ⟨ms.length-1,by omega,by omega,rfl⟩
 rintro rc a v ⟨i,rfl,hi,rfl⟩ ih
 unfold wct
 cases i with
 | zero =>
  rw[cdf (by omega),zp,List.drop_zero]
 | succ i =>
  have hil:i<ms.length:=by omega
  have d1:=wjw hi
  have d2:(gw ms i).fl.length≤sz ms:=yq (List.mem_map_of_mem (f:=fun x:Wd=>x.fl.length) (wh hil))
  have e1:((i+1:Nat):Int)-1=(i:Int):=by omega
  have e2:V31 (-2:Int) (gw ms i).fl (jn (ms.drop (i+1))).fl=some ((jn (ms.drop i)).fl,()):=by
   unfold V31 wfz
   rw[jk (by simp;omega),obS,jk (by simp;omega),obS,←wfo hi];rfl
  rw[e1,cdt (by omega),wl hil,obS,Int.toNat_natCast,xl hil,obS,e2,obS,wr (by omega) (by omega)]
  exact ih _ _ ⟨i,rfl,hil,rfl⟩ (by omega)
theorem wfd (self:(List Int×Unit)→Option (List Int×Unit)){ms:List Wd}(hne:ms≠[]) (hl:ms.length≤1000) (hs:sz ms≤1000) :
  x6 self big (rows ms) (gw ms (ms.length-1)).fl (IntKind.i64.wrap ((ms.length:Int)-(2:Int)))=some ((jn ms).fl,()):=by
 have hp:=List.length_pos_iff.2 hne
 rw[wr (by omega) (by omega),←wfp hne]
 refine wkl self (fun _ v=>(v+1).toNat) (fun a v=>∃i:Nat,v=(i:Int)-1∧i<ms.length∧a=(jn (ms.drop i)).fl) ?_ _ _ (by omega) ⟨ms.length-1,by omega,by omega,rfl⟩
 rintro rc a v ⟨i,rfl,hi,rfl⟩ ih
 unfold wcv
 cases i with
 | zero =>
  rw[cdf (by omega),zy,List.drop_zero]
 | succ i =>
  have hil:i<ms.length:=by omega
  have d1:=wjw hi
  have d2:(gw ms i).fl.length≤sz ms:=yq (List.mem_map_of_mem (f:=fun x:Wd=>x.fl.length) (wh hil))
  have e1:((i+1:Nat):Int)-1=(i:Int):=by omega
  have e2:V5 (-2:Int) (gw ms i).fl (jn (ms.drop (i+1))).fl=some ((jn (ms.drop i)).fl,()):=by
   unfold V5 V5_s
   rw[jk (by simp;omega),obS,jk (by simp;omega),obS,←wfo hi];rfl
  rw[e1,cdt (by omega),wl hil,obS,e2,obS,wr (by omega) (by omega)]
  exact ih _ _ ⟨i,rfl,hil,rfl⟩ (by omega)
theorem wix (self:(List Int×Unit)→Option (List Int×Unit)){m ms:List Wd}(hne:ms≠[]) (hl:ms.length≤1000) (hs:sz ms≤1000) (hml:m.length≤1000) (he:rows ms=sortBy cmpT (rows m)) :
  y4 self (xm self big) (rows m)=some ((jn ms).fl,()):=by
 have hp:=List.length_pos_iff.2 hne
 unfold y4 qg
 rw[wfc _ _ (by rw[wb];omega),obS]
 dsimp only
 rw[←he,wb,wr (n:=(ms.length:Int)-1) (by omega) (by omega),show(ms.length:Int)-1=((ms.length-1:Nat):Int) by omega,wl (by omega),obS,Int.toNat_natCast,xl (by omega),obS]
 exact wfa self hne hl hs
theorem wi9 (self:(List Int×Unit)→Option (List Int×Unit)){m ms:List Wd}(hne:ms≠[]) (hl:ms.length≤1000) (hs:sz ms≤1000) (hml:m.length≤1000) (hmr:∀x∈m,x.fl.length≤1000) (he:rows ms=sortBy cmpT (rows m)) :
  zb self (x5 self big) (rows m)=some ((jn ms).fl,()):=by
 have hp:=List.length_pos_iff.2 hne
 unfold zb
 refine wkj self m.length (fun i a=>a=sortBy cmpT ((rows m).take i)) (by omega) (fun rc i a hi hI ih => ?_) (fun rc a hI => ?_) 0 (by omega) _ rfl
 ·subst hI
  unfold zz
  have h1:(sortBy cmpT ((rows m).take i)).length≤1000:=by rw[wgo jx,List.length_take,wb];omega
  have h2:=hmr _ (wh hi)
  rw[wb,cdt (by omega),wl hi,obS,wi8 _ _ (by omega) (by omega) (uc jx _),obS,wr1 (by omega)]
  refine ih _ ?_
  rw[List.take_add_one,xl hi,←wfb];rfl
 ·subst hI
  unfold zz yp
  rw[wb,cdf (by omega),List.take_of_length_le (by rw[wb];exact Nat.le_refl _),←he,wb,wr (n:=(ms.length:Int)-1) (by omega) (by omega),show(ms.length:Int)-1=((ms.length-1:Nat):Int) by omega,wl (by omega),obS]
  exact wfd self hne hl hs
theorem wgm:∀(n:Nat) (A:Wd),2*A.fl.length+(if A.hd = -1 then 1 else 0)≤n→A.ok→A.fl.length≤40 →
  ∃B:Wd,B.ok∧Can B∧wle A B=true∧wle B A=true∧B.fl.length≤A.fl.length∧∀d,n<d→R_V36 d (A.fl,())=some (B.fl,())∧R_V48 d (A.fl,())=some (B.fl,()):=by
 intro n
 induction n with
 | zero=>intro A h;have:=A.pos;omega
 | succ n ih =>
  intro A hn hA hAl
  cases A with
  | v x =>
   refine⟨.v x,hA,.v x,ww hA,ww hA,Nat.le_refl _,fun d hd => ?_⟩
   have h0:=hA.1
   cases d with
   | zero=>omega
   | succ d =>
    simp only[R_V36,R_V48,V36,V48,wb3,wch]
    rw[xu,hd_v,obS,cdf (by omega),cdf (by omega),wac _ (by omega),obS,obS,cdt h0,wbh _ (by omega),obS]
    exact⟨rfl,rfl⟩
  | op g a b =>
   have hA':=hA
   obtain⟨hg,ha,hb⟩:=hA'
   rcases hg with rfl|rfl
   · -- a meet: the dual
    have hdo:=zf hA
    have hdl:=z7 (Wd.op (-1) a b)
    have hdh:(Wd.op (-1) a b).du.hd = -2:=rfl
    have hdf:=wdj hA
    rw[x9,if_pos rfl]at hn
    obtain⟨B,o,c,u,dn,l,hd⟩:=ih (Wd.op (-1) a b).du (by rw[hdh,if_neg (by omega),hdl];omega) hdo (by omega)
    have hBf:=wdj o
    refine⟨B.du,zf o,wif c, ?_, ?_,by rw[z7];omega,fun d hd2 => ?_⟩
    ·have:=wdu o hdo
     rw[wbd]at this
     rw[←wbd (Wd.op (-1) a b),wdu hdo o];exact dn
    ·rw[←wbd (Wd.op (-1) a b),wdu o hdo];exact u
    cases d with
    | zero=>omega
    | succ d =>
     obtain⟨e1,e2⟩:=hd d (by omega)
     have r1:=wcn hA
     have r2:=wcn o
     simp only[R_V36,R_V48,V36,V48,wb3,wch]
     rw[xu,x9,obS,cdt rfl,wbf _ (by omega) r1,obS,obS,cdf (by omega),obS,cdt rfl,wbg _ (by omega) r1,obS,←hdf]
     dsimp only
     rw[e1,e2,obS,obS,wbf _ (by omega) r2,wbg _ (by omega) r2,obS,←hBf]
     exact⟨rfl,rfl⟩
   · -- a join
    rw[x9,if_neg (by omega)]at hn
    have hlen:=hAl
    simp only[Wd.fl,List.length_cons,List.length_append]at hn hlen
    obtain⟨Ba,oa,ca,ua,da,la,ha2⟩:=ih a (by split<;>omega) ha (by omega)
    obtain⟨Bb,ob,cb,ub,db,lb,hb2⟩:=ih b (by split<;>omega) hb (by omega)
    have oC:(Wd.op (-2) Ba Bb).ok:=⟨.inr rfl,oa,ob⟩
    have hmb:mb (-2) (Wd.op (-2) Ba Bb)=mb (-2) Ba++mb (-2) Bb:=by rw[mb,if_pos rfl]
    have lC:(Wd.op (-2) Ba Bb).fl.length≤(Wd.op (-2) a b).fl.length:=by simp only[Wd.fl,List.length_cons,List.length_append];omega
    have AC:wle (.op (-2) a b) (.op (-2) Ba Bb)=true:=by
     rw[wo,xe ha _ ua,xb hb _ ub];rfl
    have CA:wle (.op (-2) Ba Bb) (.op (-2) a b)=true:=by
     rw[wo,xe oa _ da,xb ob _ db];rfl
    have okm:=xj (g := -2) oC
    have nem:=wgk (g := -2) (A:=Wd.op (-2) Ba Bb)
    have om:=wy nem okm
    have hli:LI (.op (-2) a b) (mb (-2) (Wd.op (-2) Ba Bb)):=by
     refine⟨nem,okm,fun x hx => ?_,wdn (by omega) oC, ?_, ?_, ?_⟩
     ·rw[hmb]at hx
      rcases List.mem_append.1 hx with q|q
      ·exact wcy oa ca x q
      ·exact wcy ob cb x q
     ·exact wtr hA oC om AC (jm_le.2 fun x hx=>waj (okm x hx) okm ⟨x,hx,ww (okm x hx)⟩)
     ·exact(xd nem).2 fun x hx=>wtr (okm x hx) oC hA (jm_le.1 (ww oC) x hx) CA
     ·have:sz (mb (-2) (Wd.op (-2) Ba Bb))+(mb (-2) (Wd.op (-2) Ba Bb)).length≤(Wd.op (-2) Ba Bb).fl.length+1:=xz
      omega
    obtain⟨m',hs⟩:=wk1 hA _ _ (Nat.le_refl _) hli
    obtain⟨hl',f1,f2⟩:=wk2 hA hs hli
    obtain⟨ms,ne,he,hml,oB,cB,u,dn,l⟩:=wkr hA hl' f1 f2
    have hsm:=hl'.sm hAl
    have hsz:=wcp ne
    have hp:=List.length_pos_iff.2 ne
    refine⟨jn ms,oB,cB,u,dn,l,fun d hd => ?_⟩
    cases d with
    | zero=>omega
    | succ d =>
     obtain⟨a1,a2⟩:=ha2 d (by omega)
     obtain⟨b1,b2⟩:=hb2 d (by omega)
     obtain⟨p1,p2⟩:=wfq hA (by omega)
     have lma:=xz (g := -2) (A:=Ba)
     have lmb:=xz (g := -2) (A:=Bb)
     have ecomb:V31 (-2:Int) Ba.fl Bb.fl=some ((Wd.op (-2) Ba Bb).fl,()):=by
      unfold V31 wfz
      rw[jk (by simp;omega),obS,jk (by simp;omega),obS];rfl
     have i1:=wii (R_V36 d) hA hAl hs hli
     have i2:=wix (R_V36 d) ne (by omega) (by omega) hsm.cnt he
     have s1:=wir (R_V48 d) hA hAl hs hli
     have s2:=wi9 (R_V48 d) ne (by omega) (by omega) hsm.cnt (fun x hx=>by have:=hsm.len x hx;omega) he
     simp only[R_V36,R_V48,V36,V48,wb3,wch]
     rw[xu,x9,obS,cdf (by omega),cdt rfl,p2,obS]
     dsimp only
     rw[a1,obS,b1,obS]
     dsimp only
     rw[ecomb,obS]
     dsimp only
     rw[memI (by omega) oC (by omega),obS]
     dsimp only
     rw[i1,i2,obS,cdf (by omega),obS,cdf (by omega),p1,obS]
     dsimp only
     rw[a2,obS]
     dsimp only
     rw[memS (by omega) oa (by omega),obS,b2,obS]
     dsimp only
     rw[memS (by omega) ob (by omega),obS]
     dsimp only
     rw[xk (by omega),obS,←hmb,s1,s2]
     exact⟨rfl,rfl⟩
theorem xp {B:Wd}(h:B.ok) (hl:B.fl.length≤40):isWord B.fl=true:=by
 refine(wah _).2 ⟨hl, ?_⟩
 have:=wcr B h [] 0 0
 rw[List.append_nil]at this
 rw[this,x8,Nat.zero_add]
theorem yn {A:Wd}(hA:A.ok) (hl:A.fl.length≤40):∃B:Wd,B.ok∧Can B∧wle A B=true∧wle B A=true∧B.fl.length≤A.fl.length∧V38 A.fl=some ((B.fl,true,()),())∧V51 A.fl=some ((B.fl,true,()),()):=by
 obtain⟨B,o,c,u,d,l,hd⟩:=wgm _ A (Nat.le_refl _) hA hl
 obtain⟨e1,e2⟩:=hd big (by have:=jp;split<;>omega)
 refine⟨B,o,c,u,d,l, ?_, ?_⟩
 ·unfold V38 wf2
  rw[wk,xp hA hl,obS,Bool.not_true,cond_false,e1,obS,cdf (show ¬(40:Int)<((B.fl.length:Nat):Int) by omega)]
 ·unfold V51 wgc V50 wjq
  rw[xy,xp hA hl,obS,Bool.not_true,cond_false,e2,obS]
  dsimp only
  rw[xy,xp o (show B.fl.length≤40 by omega)]
  rfl
theorem wi7 {w:List Int}(h:isWord w=false):V38 w=some (([],false,()),())∧V51 w=some (([],false,()),()):=by
 unfold V38 wf2 V51 wgc
 rw[wk,xy,h]
 exact⟨rfl,rfl⟩
theorem ym {A B:Wd}(hA:A.ok) (hB:B.ok) (ha:A.fl.length≤40) (hb:B.fl.length≤40):V22 A.fl B.fl=some (((wle A B&&wle B A),true,()),()):=by
 unfold V22 wda V21 wfw
 rw[zj,xp hA ha,xp hB hb,obS]
 dsimp only
 rw[Bool.and_self,Bool.not_true,cond_false,wu hA hB ha hb,obS,wu hB hA hb ha]
 cases wle A B<;>rfl
theorem we1 {s t:List Int}(h:(isWord s&&isWord t)=false):V22 s t=some ((false,false,()),()):=by
 unfold V22 wda
 rw[zj,h];rfl
theorem xc {A:Wd}(hA:A.ok) (ha:A.fl.length≤40):V55 A.fl=some (((((A.fl.length+1) / 2:Nat):Int),true,()),()):=by
 unfold V55 wjt quoI
 rw[wk,xp hA ha,obS,Bool.not_true,cond_false,wr1 (by omega),if_neg (by omega),Int.tdiv_eq_ediv_of_nonneg (by omega),wr (by omega) (by omega)]
 rw[show((A.fl.length+1:Nat):Int) / 2=(((A.fl.length+1) / 2:Nat):Int) by omega]
 rfl
theorem wgn {A B Sa Sb:Wd}(hA:A.ok) (hB:B.ok) (oa:Sa.ok) (ob:Sb.ok) (ca:Can Sa) (cb:Can Sb) (u1:wle A Sa=true) (d1:wle Sa A=true) (u2:wle B Sb=true) (d2:wle Sb B=true) :
  (wle A B&&wle B A)=decide (Sa.fl=Sb.fl):=by
 rw[Bool.eq_iff_iff,Bool.and_eq_true,decide_eq_true_eq]
 constructor
 ·rintro⟨h1,h2⟩
  have e1:=wtr oa hB ob (wtr oa hA hB d1 h1) u2
  have e2:=wtr ob hA oa (wtr ob hB hA d2 h2) u1
  rw[ze _ Sa Sb (Nat.le_refl _) oa ob ca cb e1 e2]
 ·intro e
  have:Sa=Sb:=(z8 Sa Sb oa ob [] [] (by rw[e])).1
  subst this
  exact⟨wtr hA oa hB u1 d2,wtr hB oa hA u2 d1⟩
theorem wih {code:List Int}(h:Codes code):∃s t,V13 code=some ((s,t,()),()):=by
 obtain⟨s,c1,e1,h1,k1⟩:=wae (k:=9600) (h.start.mono (by omega))
 obtain⟨t,c2,e2,h2,k2⟩:=wae (k:=9000) (k1.mono (by omega))
 unfold V13 wjc
 rw[e1,obS]
 dsimp only
 rw[e2,obS]
 dsimp only
 rw[zh,obS]
 dsimp only
 cases isWord s&&isWord t with
 | false=>exact⟨_,_,rfl⟩
 | true =>
  obtain⟨v,c3,e3,_,_,_⟩:=wv (k:=8000) (k2.mono (by omega)) 4
  rw[cond_true,e3,obS]
  dsimp only
  by_cases v0:v=0
  ·rw[cdt v0,put28 (by omega),obS]
   dsimp only
   rw[put28 (by simp;omega),obS]
   exact⟨_,_,rfl⟩
  ·rw[cdf v0]
   by_cases v1:v=1
   ·rw[cdt v1,put28 (by omega),obS]
    dsimp only
    rw[put28 (by omega),obS]
    exact⟨_,_,rfl⟩
   ·rw[cdf v1]
    exact⟨_,_,rfl⟩
theorem we0 {code:List Int}(h:Codes code):∃w,V54 code=some (w,()):=by
 obtain⟨s,t,e,h1,h2⟩:=wgg h
 unfold V54 wjs
 rw[e,obS]
 dsimp only
 rw[zh,obS]
 dsimp only
 cases isWord s&&isWord t with
 | false=>exact⟨_,rfl⟩
 | true =>
  rw[cond_true]
  by_cases c:IntKind.i64.wrap ((s.length:Int)+(t.length:Int))<(30:Int)
  ·rw[cdt c,put28 (by omega),obS]
   dsimp only
   rw[put28 (by simp;omega),obS]
   exact⟨_,rfl⟩
  ·rw[cdf c]
   exact⟨_,rfl⟩
theorem w8 (w:List Int):(isWord w=false∧V38 w=some (([],false,()),())∧V51 w=some (([],false,()),())) ∨
  ∃A B:Wd,w=A.fl∧A.ok∧A.fl.length≤40∧isWord w=true∧B.ok∧Can B∧wle A B=true∧wle B A=true∧B.fl.length≤A.fl.length∧V38 w=some ((B.fl,true,()),())∧V51 w=some ((B.fl,true,()),()):=by
 cases h:isWord w with
 | false=>exact .inl ⟨rfl,wi7 h⟩
 | true =>
  have hl:=wai h
  obtain⟨A,hA,rfl⟩:=wa8 h
  obtain⟨B,q⟩:=yn hA hl
  exact .inr ⟨A,B,rfl,hA,hl,rfl,q⟩
theorem true_FnShortWords (code:List Int) (hw:Wf (.pair (.sl (.int .u8)) .unit) (code,())):laws_FnShortWords code=some (true,()):=by
 unfold laws_FnShortWords wju V0 V0_s
 rw[obS]
 dsimp only
 by_cases hl:code.length≤65536
 case neg=>rw[cdt (by omega)]
 have hc:=wiw hw hl
 obtain⟨s,t,e1⟩:=wih hc
 obtain⟨w,e2⟩:=we0 hc
 obtain⟨r,q1,q2⟩:=wcs s t
 rw[cdf (by omega),e1,obS]
 dsimp only
 have self:∀v:List Int,v.length≤40→V52 big v v=some (true,()):=fun v hv=>by rw[we8 _ _ (by omega),decide_eq_true rfl]
 have nl:=self [] (by simp)
 rcases w8 s with⟨w1,i1,s1⟩|⟨A,Sa,rfl,oA,lA,w1,oa,ca,ua,da,la,i1,s1⟩
 ·have z:=we1 (s:=s) (t:=t) (by rw[w1];rfl)
  rw[z]at q1
  simp only[Option.some.injEq,Prod.mk.injEq,and_true]at q1
  subst q1
  rcases w8 t with⟨w2,i2,s2⟩|⟨B,Sb,rfl,oB,lB,w2,ob,cb,ub,db,lb,i2,s2⟩
  ·simp only[z,q2,i1,s1,nl,i2,s2,e2,obS,bne_self_eq_false,cond_false,Bool.not_true]
   rcases w8 w with⟨w3,i3,s3⟩|⟨W,S,rfl,oW,lW,w3,oS,cS,uS,dS,lS,i3,s3⟩
   ·simp only[i3,s3,wk,w3,nl,obS,bne_self_eq_false,cond_false,Bool.not_true]
   ·obtain⟨S2,o2,c2,u2,d2,l2,j2,_⟩:=yn oS (by omega)
    have:S2=S:=ze _ S2 S (Nat.le_refl _) o2 oS c2 cS d2 u2
    subst this
    simp only[i3,s3,wk,w3,self _ (show S2.fl.length≤40 by omega),obS,bne_self_eq_false,cond_false,cond_true,Bool.not_true,ym oS oW (by omega) lW,j2,xc oS (by omega),xc oW lW,uS,dS,Bool.and_self]
    rw[cdf (by omega)]
  ·have hb:=self Sb.fl (by omega)
   simp only[z,q2,i1,s1,nl,i2,s2,hb,e2,obS,bne_self_eq_false,cond_false,Bool.not_true]
   rcases w8 w with⟨w3,i3,s3⟩|⟨W,S,rfl,oW,lW,w3,oS,cS,uS,dS,lS,i3,s3⟩
   ·simp only[i3,s3,wk,w3,nl,obS,bne_self_eq_false,cond_false,Bool.not_true]
   ·obtain⟨S2,o2,c2,u2,d2,l2,j2,_⟩:=yn oS (by omega)
    have:S2=S:=ze _ S2 S (Nat.le_refl _) o2 oS c2 cS d2 u2
    subst this
    simp only[i3,s3,wk,w3,self _ (show S2.fl.length≤40 by omega),obS,bne_self_eq_false,cond_false,cond_true,Bool.not_true,ym oS oW (by omega) lW,j2,xc oS (by omega),xc oW lW,uS,dS,Bool.and_self]
    rw[cdf (by omega)]
 ·have ha:=self Sa.fl (by omega)
  rcases w8 t with⟨w2,i2,s2⟩|⟨B,Sb,rfl,oB,lB,w2,ob,cb,ub,db,lb,i2,s2⟩
  ·have z:=we1 (s:=A.fl) (t:=t) (by rw[w2,Bool.and_false])
   rw[z]at q1
   simp only[Option.some.injEq,Prod.mk.injEq,and_true]at q1
   subst q1
   simp only[z,q2,i1,s1,nl,ha,i2,s2,e2,obS,bne_self_eq_false,cond_false,Bool.not_true]
   rcases w8 w with⟨w3,i3,s3⟩|⟨W,S,rfl,oW,lW,w3,oS,cS,uS,dS,lS,i3,s3⟩
   ·simp only[i3,s3,wk,w3,nl,obS,bne_self_eq_false,cond_false,Bool.not_true]
   ·obtain⟨S2,o2,c2,u2,d2,l2,j2,_⟩:=yn oS (by omega)
    have:S2=S:=ze _ S2 S (Nat.le_refl _) o2 oS c2 cS d2 u2
    subst this
    simp only[i3,s3,wk,w3,self _ (show S2.fl.length≤40 by omega),obS,bne_self_eq_false,cond_false,cond_true,Bool.not_true,ym oS oW (by omega) lW,j2,xc oS (by omega),xc oW lW,uS,dS,Bool.and_self]
    rw[cdf (by omega)]
  ·have hb:=self Sb.fl (by omega)
   have z:=ym oA oB lA lB
   rw[z]at q1
   simp only[Option.some.injEq,Prod.mk.injEq,and_true]at q1
   subst q1
   have hr:V52 big Sa.fl Sb.fl=some ((wle A B&&wle B A),()):=by
    rw[we8 _ _ (by omega),wgn oA oB oa ob ca cb ua da ub db]
   simp only[z,q2,i1,s1,ha,i2,s2,hb,hr,e2,obS,bne_self_eq_false,cond_false,cond_true,Bool.not_true]
   rcases w8 w with⟨w3,i3,s3⟩|⟨W,S,rfl,oW,lW,w3,oS,cS,uS,dS,lS,i3,s3⟩
   ·simp only[i3,s3,wk,w3,nl,obS,bne_self_eq_false,cond_false,Bool.not_true]
   ·obtain⟨S2,o2,c2,u2,d2,l2,j2,_⟩:=yn oS (by omega)
    have:S2=S:=ze _ S2 S (Nat.le_refl _) o2 oS c2 cS d2 u2
    subst this
    simp only[i3,s3,wk,w3,self _ (show S2.fl.length≤40 by omega),obS,bne_self_eq_false,cond_false,cond_true,Bool.not_true,ym oS oW (by omega) lW,j2,xc oS (by omega),xc oW lW,uS,dS,Bool.and_self]
    rw[cdf (by omega)]
end Go.Proofs.Ytiihhfkjppecaaa
