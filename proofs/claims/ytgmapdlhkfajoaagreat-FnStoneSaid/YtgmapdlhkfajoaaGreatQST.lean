import Derived.Test.YtgmapdlhkfajoaaGreatPTab
import Derived.Test.YtgmapdlhkfajoaaGreatPSort
import Derived.Test.YtgmapdlhkfajoaaGreatHST
import Derived.KernelRfl
set_option linter.unusedVariables false
set_option linter.unusedSimpArgs false
namespace Go.Proofs.YtgmapdlhkfajoaaGreat
open Go Go.Gx Go.Proofs
theorem wgf (x a b:Int):V6 x a b=some (decide (a≤x∧x≤b),()):=by
 unfold V6 V6_s
 by_cases h:a≤x<;>simp[h]
def subst (l:Int) (s:List Int):List Int→List Int
 | []=>[]
 | x::xs=>if x=l then s++subst l s xs else x::subst l s xs
def risingB:List Int→Bool
 | x::y::r=>decide (x<y)&&risingB (y::r)
 | _=>true
def inB (n:Nat) (x:Int):Bool:=decide (0≤x∧x<n)
def isSetB (n:Nat) (s:List Int):Bool:=s.all (inB n)&&risingB s
theorem wlx (l:List Int) (i:Nat) (h:i<l.length) (h1:1≤i):risingB (l.drop (i-1))=(decide (l[i-1]<l[i])&&risingB (l.drop i)):=by
 rw[List.drop_eq_getElem_cons (show i-1<l.length by omega),show i-1+1=i by omega,List.drop_eq_getElem_cons h]
 rfl
theorem wp5 (l:List Int) (i:Nat) (h:l.length≤i) (h1:1≤i):risingB (l.drop (i-1))=true:=by
 by_cases h2:l.length=i
 ·rw[List.drop_eq_getElem_cons (show i-1<l.length by omega),List.drop_eq_nil_of_le (by omega)]
  rfl
 ·rw[List.drop_eq_nil_of_le (by omega)]
  rfl
theorem wj8 (N:Nat){m:Nat}:∀(n:Nat) (l:List Int) (i:Nat),l.length-i<n→i≤l.length→l.length≤1099511627776 →
  wem N wia n l 0 ((m:Int)-1) i=some ((l.drop i).all (inB m)&&risingB (l.drop (i-1)),())
 | 0,_,_,h,_,_=>by omega
 | n+1,l,i,h,hi,hb=>by
  simp only[wem,wvu]
  by_cases hlt:i<l.length
  ·have e:decide (0≤l[i]∧l[i]≤(m:Int)-1)=inB m l[i]:=by
    unfold inB;congr 1;exact propext ⟨fun h=>⟨h.1,by omega⟩,fun h=>⟨h.1,by omega⟩⟩
   rw[cdt (by omega),jf l i hlt,obS,wgf,obS,e,wr (n:=(i:Int)+1) (by omega) (by omega),wr (n:=(i:Int)-1) (by omega) (by omega)]
   rw[show((i:Int)+1)=((i+1:Nat):Int) by omega,wj8 N n l (i+1) (by omega) (by omega) hb]
   rw[show i+1-1=i by omega]
   cases hin:inB m l[i] with
   | false =>
    rw[List.drop_eq_getElem_cons hlt,List.all_cons,hin]
    rfl
   | true =>
    simp only[Bool.not_true,cond_false]
    by_cases h0:0<i
    ·rw[cdt (by omega),show((i:Int)-1)=((i-1:Nat):Int) by omega,jf l (i-1) (by omega),obS,obS,wlx l i hlt h0]
     by_cases hle:l[i]≤l[i-1]
     ·rw[cdt hle,decide_eq_false (by omega)]
      simp
     ·rw[cdf hle,decide_eq_true (show l[i-1]<l[i] by omega),List.drop_eq_getElem_cons hlt,List.all_cons,hin]
      simp
    ·rw[cdf (by omega)]
     have:i=0:=by omega
     subst this
     rw[show(0:Nat)-1=0 from rfl,List.drop_eq_getElem_cons hlt,List.all_cons,hin]
     simp
  ·rw[cdf (by omega),List.drop_eq_nil_of_le (by omega)]
   by_cases h1:1≤i
   ·rw[wp5 l i (by omega) h1];rfl
   ·have:l=[]:=List.eq_nil_of_length_eq_zero (by omega)
    subst this
    simp[risingB,wia]
theorem wxu (N:Nat){m:Nat}:∀(n:Nat) (l:List Int) (i:Nat),l.length-i<n→i≤l.length→l.length≤1099511627776 →
  whh N wus n (m:Int) l (l.length:Int) i=some ((l.drop i).all (inB m),())
 | 0,_,_,h,_,_=>by omega
 | n+1,l,i,h,hi,hb=>by
  simp only[whh,wut]
  by_cases hlt:i<l.length
  ·rw[cdt (by omega),jf l i hlt,obS,wr (n:=(i:Int)+1) (by omega) (by omega)]
   rw[show((i:Int)+1)=((i+1:Nat):Int) by omega,wxu N n l (i+1) (by omega) (by omega) hb]
   rw[List.drop_eq_getElem_cons hlt,List.all_cons]
   unfold inB
   by_cases h0:l[i]<0
   ·rw[cdt h0,decide_eq_false (by omega)];rfl
   ·rw[cdf h0]
    by_cases h1:(m:Int)≤l[i]
    ·rw[cdt h1,decide_eq_false (by omega)];rfl
    ·rw[cdf h1,decide_eq_true (by omega)];rfl
  ·rw[cdf (by omega),List.drop_eq_nil_of_le (by omega)]
   rfl
theorem w2d (N:Nat):∀(n:Nat) (l:List Int) (i:Nat),l.length-i<n→1≤i→l.length≤1099511627776→i≤1099511627777 →
  whg N wuo n l i=some (risingB (l.drop (i-1)),())
 | 0,_,_,h,_,_,_=>by omega
 | n+1,l,i,h,hi,hb,hi2=>by
  simp only[whg,wup]
  by_cases hlt:i<l.length
  ·rw[cdt (by omega),wr (n:=(i:Int)-1) (by omega) (by omega),show((i:Int)-1)=((i-1:Nat):Int) by omega,jf l (i-1) (by omega),obS,jf l i hlt,obS,wr (n:=(i:Int)+1) (by omega) (by omega)]
   rw[show((i:Int)+1)=((i+1:Nat):Int) by omega,w2d N n l (i+1) (by omega) (by omega) hb (by omega),wlx l i hlt hi,show i+1-1=i by omega]
   by_cases hle:l[i]≤l[i-1]
   ·rw[cdt hle,decide_eq_false (by omega)];rfl
   ·rw[cdf hle,decide_eq_true (by omega)];rfl
  ·rw[cdf (by omega),wp5 l i (by omega) hi]
   rfl
theorem wr1 {i:Nat}(h:i≤4611686018427387904):IntKind.i64.wrap ((i:Int)+1)=((i+1:Nat):Int):=by rw[wr (by omega) (by omega)];omega
abbrev PT:=List (List Int)×Unit
def pos (n:Nat) (le:Nat→Nat→Bool):PT:=(mkR n fun y=>cs (fl n fun x=>le x y),())
def leP (p:PT) (x y:Nat):Bool:=decide ((x:Int)∈p.1.getD y [])
structure Ord (n:Nat) (le:Nat→Nat→Bool):Prop where
 refl:∀x,x<n→le x x=true
 anti:∀x y,x<n→y<n→x≠y→le x y=true→le y x=false
 trans:∀x y z,x<n→y<n→z<n→le x y=true→le y z=true→le x z=true
structure Good (p:PT):Prop where
 len:p.1.length≤10
 rows:∀r∈p.1,isSetB p.1.length r=true
 ord:Ord p.1.length (leP p)
theorem wgt (l:List Int) (x:Int) (h:l.length≤4294967296):V14 big l x=some (decide (x∈l),()):=by
 unfold V14 w3a
 refine xlt l.length (fun i=>x ∉ l.take i) (by omega) ?_ ?_ 0 (by omega) (by simp)
 ·intro rc i hi hv ih
  unfold wg4
  rw[cdt (by omega),jf l i hi,obS]
  by_cases hx:l[i]=x
  ·rw[cdt hx,decide_eq_true (hx▸List.getElem_mem hi)]
  ·rw[cdf hx,wr1 (by omega)]
   refine ih fun h => ?_
   rw[List.take_succ_eq_append_getElem hi,List.mem_append,List.mem_singleton]at h
   exact h.elim hv fun e=>hx e.symm
 ·intro rc hv
  unfold wg4
  rw[cdf (by omega),wdd,decide_eq_false (by simpa using hv)]
theorem wxw (S:List Nat) (x:Nat) (h:S.length≤4294967296):V14 big (cs S) (x:Int)=some (decide (x∈S),()):=by
 rw[wgt _ _ (by simpa using h)]
 simp only[cs_mem]
theorem wyk (a b:List Int) (ha:a.length≤4294967296) (hb:b.length≤4294967296):V57 big a b=some (tv (∀x∈a,x∈b),()):=by
 unfold V57 w4f
 refine xmk a.length (fun i=>∀x∈a.take i,x∈b) (by omega) ?_ ?_ 0 (by omega) (by simp)
 ·intro rc i hi hv ih
  unfold wic
  rw[cdt (by omega),jf a i hi,obS,wgt _ _ hb,obS]
  by_cases hx:a[i]∈b
  ·rw[decide_eq_true hx,wr1 (by omega)]
   exact ih ((qp hi).2 ⟨hv,hx⟩)
  ·rw[decide_eq_false hx,tv_f fun h=>hx (h _ (List.getElem_mem hi))]
   rfl
 ·intro rc hv
  unfold wic
  rw[cdf (by omega),wen,tv_t (by simpa using hv)]
theorem wrz (n:Nat) (s:List Int) (hn:n≤1099511627776) (hs:s.length≤1099511627775):V56 big s 0 ((n:Int)-1)=some (isSetB n s,()):=by
 have hb:=jq
 unfold V56 w4d wvs
 have:=wj8 big (m:=n) big s 0 (by omega) (by omega) (by omega)
 rw[show wem big wia big s 0 ((n:Int)-1) 0=_ from this]
 rfl
theorem wj2 (n:Nat) (s:List Int) (hs:s.length≤1099511627775):V27 big s (n:Int)=some (s.all (inB n),()):=by
 have hb:=jq
 unfold V27 w3n wuq
 have h1:=wxu big (m:=n) big s 0 (by omega) (by omega) (by omega)
 rw[show(0:Int)=((0:Nat):Int) from rfl,h1]
 rfl
theorem xgm (s:List Int) (hs:s.length≤1099511627775):V26 big s=some (risingB s,()):=by
 have hb:=jq
 unfold V26 w3l wum
 have h2:=w2d big big s 1 (by omega) (by omega) (by omega) (by omega)
 rw[show(1:Int)=((1:Nat):Int) from rfl,h2]
 rfl
theorem wlw:∀{l:List Int},risingB l=true→l.Pairwise (·<·)
 | [],_=>List.Pairwise.nil
 | [x],_=>by simp
 | x::y::r,h=>by
  simp only[risingB,Bool.and_eq_true,decide_eq_true_eq]at h
  have h2:=wlw h.2
  refine List.pairwise_cons.2 ⟨fun z hz => ?_,h2⟩
  rcases List.mem_cons.1 hz with rfl|hz
  ·exact h.1
  ·have:=(List.pairwise_cons.1 h2).1 z hz
   omega
theorem wlv:∀{l:List Int},l.Pairwise (·<·)→risingB l=true
 | [],_=>rfl
 | [x],_=>rfl
 | x::y::r,h=>by
  have h1:=List.pairwise_cons.1 h
  simp only[risingB,Bool.and_eq_true,decide_eq_true_eq]
  exact⟨h1.1 y (by simp),wlv h1.2⟩
theorem wx1:∀{l m:List Int},l.Pairwise (·<·)→m.Pairwise (·<·)→(∀x,x∈l↔x∈m)→l=m
 | [],[],_,_,_=>rfl
 | [],y::m,_,_,h=>by have:=(h y).2 (by simp);simp at this
 | x::l,[],_,_,h=>by have:=(h x).1 (by simp);simp at this
 | x::l,y::m,h1,h2,h=>by
  have p1:=List.pairwise_cons.1 h1
  have p2:=List.pairwise_cons.1 h2
  have e:x=y:=by
   rcases List.mem_cons.1 ((h x).1 (by simp)) with e|hx
   ·exact e
   ·rcases List.mem_cons.1 ((h y).2 (by simp)) with e|hy
    ·exact e.symm
    ·have:=p1.1 y hy
     have:=p2.1 x hx
     omega
  subst e
  congr 1
  refine wx1 p1.2 p2.2 fun z => ?_
  constructor
  ·intro hz
   rcases List.mem_cons.1 ((h z).1 (List.mem_cons_of_mem _ hz)) with e|hz2
   ·have:=p1.1 z hz;omega
   ·exact hz2
  ·intro hz
   rcases List.mem_cons.1 ((h z).2 (List.mem_cons_of_mem _ hz)) with e|hz2
   ·have:=p2.1 z hz;omega
   ·exact hz2
theorem w16 (n:Nat) (P:Nat→Bool):(cs (fl n P)).Pairwise (·<·):=by
 unfold cs fl
 rw[List.pairwise_map]
 refine List.Pairwise.filter _ ?_
 have:=List.pairwise_lt_range (n:=n)
 exact this.imp fun h=>by omega
theorem wru {n:Nat}{l:List Int}(h:isSetB n l=true):l=cs (fl n fun x=>decide ((x:Int)∈l)):=by
 unfold isSetB at h
 rw[Bool.and_eq_true]at h
 refine wx1 (wlw h.2) (w16 _ _) fun x => ?_
 constructor
 ·intro hx
  have h1:=List.all_eq_true.1 h.1 x hx
  unfold inB at h1
  rw[decide_eq_true_eq]at h1
  have e:x=((x.toNat:Nat):Int):=by omega
  rw[e,cs_mem,fl_mem]
  refine⟨by omega,decide_eq_true ?_⟩
  rw[←e];exact hx
 ·intro hx
  unfold cs at hx
  obtain⟨y,hy,e⟩:=List.mem_map.1 hx
  have:=(fl_mem.1 hy).2
  rw[decide_eq_true_eq]at this
  exact e▸this
theorem xlb (n:Nat) (P:Nat→Bool):isSetB n (cs (fl n P))=true:=by
 unfold isSetB
 rw[Bool.and_eq_true]
 refine⟨List.all_eq_true.2 fun x hx => ?_,wlv (w16 n P)⟩
 unfold cs at hx
 obtain⟨y,hy,e⟩:=List.mem_map.1 hx
 have:=(fl_mem.1 hy).1
 unfold inB
 exact decide_eq_true (by omega)
theorem wx2 {p:PT}(h:∀r∈p.1,isSetB p.1.length r=true):p=pos p.1.length (leP p):=by
 unfold pos
 refine Prod.ext ?_ rfl
 refine jci rfl fun i hi => ?_
 refine(wru (h _ (List.getElem_mem hi))).trans ?_
 refine congrArg cs (ut fun x hx => ?_)
 unfold leP
 simp[hi]
theorem wb (n:Nat) (le:Nat→Nat→Bool):(pos n le).1.length=n:=mkR_len n _
theorem wx3 (n:Nat) (le:Nat→Nat→Bool):∀r∈(pos n le).1,isSetB (pos n le).1.length r=true:=by
 intro r hr
 rw[wb]
 obtain⟨i,_,e⟩:=mkR_mem.1 hr
 exact e▸xlb _ _
theorem w19 {n:Nat}{le:Nat→Nat→Bool}{x y:Nat}(hx:x<n) (hy:y<n):leP (pos n le) x y=le x y:=by
 unfold leP pos
 simp only[List.getD_eq_getElem?_getD,jp hy,Option.getD_some,cs_mem,fl_mem,hx,true_and,Bool.decide_eq_true]
theorem Ord.congr {n:Nat}{le le':Nat→Nat→Bool}(e:∀x y,x<n→y<n→le x y=le' x y) (h:Ord n le):Ord n le' where
 refl x hx:=by rw[←e x x hx hx];exact h.refl x hx
 anti x y hx hy hxy h1:=by rw[←e y x hy hx];rw[←e x y hx hy]at h1;exact h.anti x y hx hy hxy h1
 trans x y z hx hy hz h1 h2:=by
  rw[←e x z hx hz];rw[←e x y hx hy]at h1;rw[←e y z hy hz]at h2
  exact h.trans x y z hx hy hz h1 h2
theorem xgd {n:Nat}{le:Nat→Nat→Bool}:Good (pos n le)↔n≤10∧Ord n le:=by
 have e:∀x y,x<n→y<n→leP (pos n le) x y=le x y:=fun x y hx hy=>w19 hx hy
 constructor
 ·intro h
  have h1:=h.len;have h2:=h.ord
  rw[wb]at h1 h2
  exact⟨h1,h2.congr e⟩
 ·intro h
  refine⟨by rw[wb];exact h.1,wx3 n le, ?_⟩
  rw[wb]
  exact h.2.congr fun x y hx hy=>(e x y hx hy).symm
theorem Good.form {p:PT}(h:Good p):p=pos p.1.length (leP p):=wx2 h.rows
theorem wb3 {n:Nat}(h:n≤4294967296):V25 big (n:Int)=some (mkT n fun _ _=>false,()):=by
 unfold V25 w3j
 rw[jar h,obS,obS,cdt (by omega),mkR_len]
 refine xlz n (fun i o=>o=mkR n fun x=>if x<i then mkR n fun _=>false else []) (by omega) ?_ ?_ 0 (by omega) _ (by simp)
 ·intro rc i o hi hv ih
  unfold whf
  rw[cdt (by omega),jar h,obS,obS,cdt (by omega),hv,jd hi,obS,Int.toNat_natCast,jp hi,obS,wr1 (by omega)]
  refine ih _ ?_
  rw[qz]
  refine jt fun x hx => ?_
  by_cases h1:x=i
  ·rw[if_pos h1,if_pos (by omega)]
  ·rw[if_neg h1]
   by_cases h2:x<i
   ·rw[if_pos h2,if_pos (by omega)]
   ·rw[if_neg h2,if_neg (by omega)]
 ·intro rc o hv
  unfold whf
  rw[cdf (by omega),hv,wdk]
  congr 2
  exact jt fun x hx=>by rw[if_pos hx]
theorem w56 {n:Nat}{le:Nat→Nat→Bool}(hn:n≤4294967296):V28 big (mkT n le)=some (tv (Ord n le),()):=by
 unfold V28 w3q
 rw[mkR_len]
 refine xl0 n (fun i=>∀x,x<i→le x x=true∧(∀y,y<n→(x≠y→le x y=true→le y x=false)∧∀z,z<n→le x y=true→le y z=true→le x z=true)) (by omega) ?_ ?_ 0 (by omega) (by intro x hx;omega)
 ·intro rc i hi hv ih
  unfold wdp
  rw[cdt (by omega),jd hi,obS,jd hi,obS,mkR_len]
  cases h0:le i i with
  | false =>
   rw[tv_f fun h=>by rw[h.refl i hi]at h0;cases h0]
   rfl
  | true =>
   rw[Bool.not_true,cond_false]
   refine xl1 n (fun j=>∀y,y<j→(i≠y→le i y=true→le y i=false)∧∀z,z<n→le i y=true→le y z=true→le i z=true) (by omega) ?_ ?_ 0 (by omega) (by intro x hx;omega)
   ·intro rc2 j hj hv2 ih2
    have inn:(i≠j→le i j=true→le j i=false)→wad big rc2 (xn rc) (mkT n le) (i:Int) (j:Int) (n:Int) (i:Int) (n:Int) (j:Int) (n:Int) ((0:Nat):Int)=some (tv (Ord n le),()):=by
     intro hij
     refine xi8 n (fun k=>∀z,z<k→le i j=true→le j z=true→le i z=true) (by omega) ?_ ?_ 0 (by omega) (by intro x hx;omega)
     ·intro rc3 k hk hv3 ih3
      unfold wdo
      simp only[cdt (show(k:Int)<(n:Int) by omega),jd hi,jd hj,jd hk,obS,wr1 (show k≤4611686018427387904 by omega)]
      cases h1:le i j with
      | false=>exact ih3 (all_lt_succ.2 ⟨hv3,by intro h;rw[h1]at h;cases h⟩)
      | true =>
       cases h2:le j k with
       | false=>exact ih3 (all_lt_succ.2 ⟨hv3,by intro _ h;rw[h2]at h;cases h⟩)
       | true =>
        cases h3:le i k with
        | false =>
         rw[tv_f fun h=>by rw[h.trans i j k hi hj hk h1 h2]at h3;cases h3]
         rfl
        | true=>exact ih3 (all_lt_succ.2 ⟨hv3,fun _ _=>h3⟩)
     ·intro rc3 hv3
      unfold wdo
      rw[cdf (by omega),wae,wr1 (by omega)]
      exact ih2 (all_lt_succ.2 ⟨hv2,hij,hv3⟩)
    unfold wdq
    rw[cdt (by omega),jd hi,obS,jd hj,obS,jd hj,obS,jd hi,obS,mkR_len]
    by_cases hij:i=j
    ·rw[cdf (by omega)]
     exact inn fun h=>absurd hij h
    ·rw[cdt (by omega)]
     cases h1:le i j with
     | false=>exact inn fun _ h=>by rw[h1]at h;cases h
     | true =>
      cases h2:le j i with
      | false=>exact inn fun _ _=>h2
      | true =>
       rw[tv_f fun h=>by rw[h.anti i j hi hj hij h1]at h2;cases h2]
       rfl
   ·intro rc2 hv2
    unfold wdq
    rw[cdf (by omega),xn,wr1 (by omega)]
    exact ih (all_lt_succ.2 ⟨hv,h0,hv2⟩)
 ·intro rc hv
  unfold wdp
  rw[cdf (by omega),yk,tv_t]
  exact⟨fun x hx=>(hv x hx).1,fun x y hx hy=>((hv x hx).2 y hy).1,fun x y z hx hy hz=>((hv x hx).2 y hy).2 z hz⟩
theorem wro {α:Type}{n:Nat}{f:Nat→Nat→α}{x y:Nat}{v:α}:(mkT n f).set x ((mkR n (f x)).set y v)=mkT n fun a b=>if a=x∧b=y then v else f a b:=by
 rw[qz]
 refine jt fun a ha => ?_
 by_cases h:a=x
 ·subst h
  rw[if_pos rfl,qz]
  exact jt fun b hb=>by simp
 ·rw[if_neg h]
  exact jt fun b hb=>by simp[h]
theorem wp4 (p:PT) (hl:p.1.length≤10) (hx:∀r∈p.1,r.length≤4294967296) :
  V29 big p=some (@ite _ (∀r∈p.1,isSetB p.1.length r=true) (Classical.propDecidable _) (mkT p.1.length (leP p),tv (Ord p.1.length (leP p)),()) ([],false,()),()):=by
 unfold V29 wr4
 generalize hn:p.1.length=n
 rw[cdf (by omega),wb3 (by omega),obS]
 refine xl2 n (fun i o=>(∀j,j<i→∀(h:j<p.1.length),isSetB n p.1[j]=true)∧o=mkT n fun a b=>decide (b<i)&&leP p a b) (by omega) ?_ ?_ 0 (by omega) _ ⟨by intro j hj;omega,jw fun a b _ _=>by simp⟩
 ·intro rc i o hi hv ih
  obtain⟨hv1,hv2⟩:=hv
  unfold wdv
  have hip:i<p.1.length:=by omega
  have hrow:=hx _ (List.getElem_mem hip)
  rw[cdt (by omega),jf _ i hip,obS,xgm _ (by omega),obS]
  cases h1:risingB p.1[i] with
  | false =>
   rw[if_neg fun h=>by have:=h _ (List.getElem_mem hip);unfold isSetB at this;rw[h1,Bool.and_false]at this;cases this]
   rfl
  | true =>
   rw[Bool.not_true,cond_false,wj2 n _ (by omega),obS]
   cases h2:p.1[i].all (inB n) with
   | false =>
    rw[if_neg fun h=>by have:=h _ (List.getElem_mem hip);unfold isSetB at this;rw[h2,Bool.false_and]at this;cases this]
    rfl
   | true =>
    rw[Bool.not_true,cond_false]
    have hset:isSetB n p.1[i]=true:=by unfold isSetB;rw[h1,h2];rfl
    have hle:∀a,leP p a i=decide ((a:Int)∈p.1[i]):=by intro a;unfold leP;simp[hip]
    have hform:=wru hset
    have hS:∀a,a∈fl n (fun x=>decide ((x:Int)∈p.1[i]))↔a<n∧leP p a i=true:=by
     intro a;rw[fl_mem,hle]
    generalize fl n (fun x=>decide ((x:Int)∈p.1[i]))=S at hform hS
    rw[hform,cs_len]
    refine xjb S.length (fun k o=>o=mkT n fun a b=>if b<i then leP p a b else decide (b=i∧a∈S.take k)) ?_ ?_ ?_ 0 (by omega) _ ?_
    ·have:=congrArg List.length hform
     rw[cs_len]at this
     have:=hx _ (List.getElem_mem hip)
     omega
    ·intro rc2 k o2 hk hv3 ih2
     have hkn:S[k]<n:=((hS _).1 (List.getElem_mem hk)).1
     have hkS:S.length≤4294967296:=by have:=congrArg List.length hform;rw[cs_len]at this;omega
     unfold wdu
     simp only[cdt (show(k:Int)<(S.length:Int) by omega),jo hk,obS,hv3,jd hkn,Int.toNat_natCast,jp hkn,jd hi,jp hi,wr1 (show k≤4611686018427387904 by omega)]
     refine ih2 _ ?_
     rw[wro]
     refine jw fun a b _ _ => ?_
     by_cases hb:b<i
     ·rw[if_pos hb,if_pos hb,if_neg (by omega)]
     ·rw[if_neg hb,if_neg hb]
      simp only[uu hk]
      by_cases hbi:b=i
      ·by_cases ha:a=S[k]
       ·simp[hbi,ha]
       ·simp[hbi,ha]
      ·simp[hbi]
    ·intro rc2 o2 hv3
     unfold wdu
     rw[cdf (by omega),waf,wr1 (by omega)]
     refine ih _ ⟨fun j hj hjp => ?_, ?_⟩
     ·rcases Nat.lt_or_ge j i with h|h
      ·exact hv1 j h hjp
      ·have:j=i:=by omega
       subst this;exact hset
     ·rw[hv3]
      refine jw fun a b ha _ => ?_
      by_cases hb:b<i
      ·rw[if_pos hb];simp[show b<i+1 by omega]
      ·rw[if_neg hb,List.take_length]
       by_cases hbi:b=i
       ·subst hbi
        rw[decide_eq_true (show b<b+1 by omega),Bool.true_and]
        cases h:leP p a b with
        | true=>exact decide_eq_true ⟨rfl,(hS a).2 ⟨ha,h⟩⟩
        | false=>exact decide_eq_false fun h3=>by rw[((hS a).1 h3.2).2]at h;cases h
       ·simp[hbi,show ¬b<i+1 by omega]
    ·rw[hv2]
     refine jw fun a b _ _ => ?_
     by_cases hb:b<i
     ·simp[hb]
     ·simp[hb]
 ·intro rc o hv
  obtain⟨hv1,hv2⟩:=hv
  unfold wdv
  have ho:o=mkT n (leP p):=by rw[hv2];exact jw fun a b _ hb=>by simp[hb]
  rw[cdf (by omega),yl,ho,w56 (by omega),obS,if_pos]
  intro r hr
  obtain⟨j,hj,e⟩:=List.getElem_of_mem hr
  exact e▸hv1 j (by omega) hj
theorem wyn (p:PT) (hl:¬p.1.length≤10):V29 big p=some (([],false,()),()):=by
 unfold V29 wr4
 rw[cdt (by omega)]
theorem w6c (p:PT) (hx:∀r∈p.1,r.length≤4294967296) (h:¬Good p):∃T,V29 big p=some ((T,false,()),()):=by
 by_cases hl:p.1.length≤10
 ·rw[wp4 p hl hx]
  by_cases hr:∀r∈p.1,isSetB p.1.length r=true
  ·rw[if_pos hr,tv_f fun ho=>h ⟨hl,hr,ho⟩]
   exact⟨_,rfl⟩
  ·rw[if_neg hr]
   exact⟨_,rfl⟩
 ·exact⟨_,wyn p hl⟩
theorem wlu {n:Nat}{le:Nat→Nat→Bool}(hn:n≤10) (ho:Ord n le):V29 big (pos n le)=some ((mkT n le,true,()),()):=by
 have e:∀x y,x<n→y<n→leP (pos n le) x y=le x y:=fun x y hx hy=>w19 hx hy
 rw[wp4 _ (by rw[wb];exact hn) ?_,if_pos (wx3 n le),wb,tv_t (ho.congr fun x y hx hy=>(e x y hx hy).symm)]
 ·congr 3
  exact jw fun x y hx hy=>e x y hx hy
 ·intro r hr
  obtain⟨i,_,h⟩:=mkR_mem.1 hr
  rw[←h,cs_len]
  have:=jh n fun x=>le x i
  omega
theorem wga {n x:Nat}{le:Nat→Nat→Bool}(hx:x<n):atI (pos n le).1 (x:Int)=some (cs (fl n fun a=>le a x)):=jd hx
theorem zl {n x y:Nat}{le:Nat→Nat→Bool}(hn:n≤4294967296) (hx:x<n) (hy:y<n):V15 (pos n le) (x:Int) (y:Int)=some (le x y,()):=by
 unfold V15 xgr
 have:=jh n fun a=>le a y
 rw[wga hy,obS,wxw _ _ (by omega),obS]
 congr 2
 rw[Bool.eq_iff_iff,decide_eq_true_eq,fl_mem]
 simp[hx]
theorem wrw {n:Nat}{P Q:Nat→Bool}(hn:n≤4294967296):V57 big (cs (fl n P)) (cs (fl n Q))=some (tv (∀x,x<n→P x=true→Q x=true),()):=by
 have h1:=jh n P
 have h2:=jh n Q
 rw[wyk _ _ (by rw[cs_len];omega) (by rw[cs_len];omega)]
 congr 2
 refine qt ⟨fun h x hx hp => ?_,fun h x hx => ?_⟩
 ·exact(fl_mem.1 (cs_mem.1 (h _ (cs_mem.2 (fl_mem.2 ⟨hx,hp⟩))))).2
 ·unfold cs at hx
  obtain⟨y,hy,e⟩:=List.mem_map.1 hx
  have:=fl_mem.1 hy
  rw[←e]
  exact cs_mem.2 (fl_mem.2 ⟨this.1,h y this.1 this.2⟩)
theorem wx8 (p:PT) (hx:∀r∈p.1,r.length≤4294967296):V58 big p=some (tv (Good p),()):=by
 unfold V58 w4j
 by_cases hl:p.1.length≤10
 ·generalize hn:p.1.length=n
  rw[cdf (by omega)]
  refine xml n (fun i=>∀j,j<i→∀(h:j<p.1.length),isSetB n p.1[j]=true∧leP p j j=true) (by omega) ?_ ?_ 0 (by omega) (by intro j hj;omega)
  ·intro rc i hi hv ih
   have hip:i<p.1.length:=by omega
   have hrow:=hx _ (List.getElem_mem hip)
   have hle:∀a,leP p a i=decide ((a:Int)∈p.1[i]):=by intro a;unfold leP;simp[hip]
   unfold wie
   rw[cdt (by omega),jf _ i hip,obS,wr (by omega) (by omega),wrz n _ (by omega) (by omega),obS]
   cases h1:isSetB n p.1[i] with
   | false =>
    rw[tv_f fun h=>by have:=h.rows _ (List.getElem_mem hip);rw[hn,h1]at this;cases this]
    rfl
   | true =>
    rw[Bool.not_true,cond_false,obS,wgt _ _ hrow,obS,←hle]
    cases h2:leP p i i with
    | false =>
     rw[tv_f fun h=>by have:=h.ord.refl i hip;rw[h2]at this;cases this]
     rfl
    | true =>
     rw[Bool.not_true,cond_false,wr1 (by omega)]
     refine ih fun j hj hjp => ?_
     rcases Nat.lt_or_ge j i with h|h
     ·exact hv j h hjp
     ·have:j=i:=by omega
      subst this;exact⟨h1,h2⟩
  ·intro rc hv
   unfold wie
   rw[cdf (by omega),weq]
   have hrows:∀r∈p.1,isSetB p.1.length r=true:=by
    intro r hr
    obtain⟨j,hj,e⟩:=List.getElem_of_mem hr
    rw[hn]
    exact e▸(hv j (by omega) hj).1
   have hform:=wx2 hrows
   have hrefl:∀x,x<n→leP p x x=true:=fun x hxn=>(hv x hxn (by omega)).2
   generalize leP p=le at hform hrefl
   rw[hn]at hform
   subst hform
   rw[qt xgd]
   refine xjx n (fun i=>∀x,x<i→∀y,y<n→le y x=true→(y≠x→le x y=false)∧∀z,z<n→le z y=true→le z x=true) (by omega) ?_ ?_ 0 (by omega) (by intro j hj;omega)
   ·intro rc2 i hi hv2 ih2
    unfold wak
    rw[cdt (by omega)]
    have hS:∀a,a∈fl n (fun a=>le a i)↔a<n∧le a i=true:=fun a=>fl_mem
    have hSl:=jh n fun a=>le a i
    refine xjy (fl n fun a=>le a i).length (fun k=>∀y∈(fl n fun a=>le a i).take k,(y≠i→le i y=false)∧∀z,z<n→le z y=true→le z i=true) (by omega) ?_ ?_ 0 (by omega) (by simp)
    ·intro rc3 k hk hv3 ih3
     have hk2:=(hS _).1 (List.getElem_mem hk)
     have hk3:=jo hk
     have hk4:∀{P:Nat→Prop},(∀y∈(fl n fun a=>le a i).take (k+1),P y)↔_:=qp hk
     unfold wer
     generalize (fl n fun a=>le a i)[k]=y at hk2 hk3 hk4
     have hkl:=jh n fun a=>le a y
     simp only[wga hi,obS,cs_len,cdt (show(k:Int)<((fl n fun a=>le a i).length:Int) by omega),hk3,wga hk2.1,wxw (fl n fun a=>le a y) i (by omega),wrw (P:=fun a=>le a y) (Q:=fun a=>le a i) (show n≤4294967296 by omega),wr1 (show k≤4611686018427387904 by omega)]
     have e1:decide (i∈fl n fun a=>le a y)=le i y:=by
      rw[Bool.eq_iff_iff,decide_eq_true_eq,fl_mem];simp[hi]
     rw[e1]
     have key:(y≠i→le i y=false)→cond (!tv (∀x,x<n→le x y=true→le x i=true)) (some (false,())) (rc3 (pos n le) (n:Int) (i:Int) ((k+1:Nat):Int))=some (tv (n≤10∧Ord n le),()):=by
      intro h1
      by_cases h2:∀x,x<n→le x y=true→le x i=true
      ·rw[tv_t h2]
       exact ih3 (hk4.2 ⟨hv3,h1,h2⟩)
      ·rw[tv_f h2,tv_f fun h=>h2 fun x hxn h3=>h.2.trans _ _ _ hxn hk2.1 hi h3 hk2.2]
       rfl
     by_cases h1:y=i
     ·rw[cdf (by omega)]
      exact key fun h=>absurd h1 h
     ·rw[cdt (by omega)]
      cases h2:le i y with
      | true =>
       rw[tv_f (P:=n≤10∧Ord n le) fun h=>by rw[h.2.anti _ _ hk2.1 hi h1 hk2.2]at h2;cases h2]
       rfl
      | false =>
       rw[cond_false]
       exact key fun _=>h2
    ·intro rc3 hv3
     rw[List.take_length]at hv3
     unfold wer
     rw[wga hi,obS,cs_len,cdf (by omega),waj,wr1 (by omega)]
     exact ih2 (all_lt_succ.2 ⟨hv2,fun y hy hyi=>hv3 y ((hS y).2 ⟨hy,hyi⟩)⟩)
   ·intro rc2 hv2
    unfold wak
    rw[cdf (by omega),xj,tv_t]
    refine⟨by rw[wb]at hl;exact hl,fun x hx=>hrefl x hx,fun x y hx hy hxy h=>((hv2 y hy x hx h).1 hxy),fun x y z hx hy hz h1 h2=>(hv2 z hz y hy h2).2 x hx h1⟩
 ·rw[cdt (by omega),tv_f fun h=>hl h.len]
abbrev du (le:Nat→Nat→Bool):Nat→Nat→Bool:=fun x y=>le y x
def low (n:Nat) (le:Nat→Nat→Bool) (S:List Nat):List Nat:=fl n fun z=>S.all fun s=>le z s
def grt (le:Nat→Nat→Bool) (L:List Nat):Int:=match L.find? fun x=>L.all fun y=>le y x with
 | some x=>(x:Int)
 | none => -1
def bnd (n:Nat) (le:Nat→Nat→Bool) (S:List Nat):Int:=grt le (low n le S)
structure IsGlb (n:Nat) (le:Nat→Nat→Bool) (S:List Nat) (m:Nat):Prop where
 lt:m<n
 lo:∀s∈S,le m s=true
 gr:∀z,z<n→(∀s∈S,le z s=true)→le z m=true
theorem low_mem {n:Nat}{le:Nat→Nat→Bool}{S:List Nat}{z:Nat}:z∈low n le S↔z<n∧∀s∈S,le z s=true:=by
 unfold low
 rw[fl_mem,List.all_eq_true]
theorem wp2 {n:Nat}{le:Nat→Nat→Bool}{S:List Nat}(h:0≤bnd n le S):IsGlb n le S (bnd n le S).toNat:=by
 unfold bnd grt at *
 cases hf:(low n le S).find? fun x=>(low n le S).all fun y=>le y x with
 | none=>rw[hf]at h;exact absurd h (by decide)
 | some x =>
  have h1:=List.find?_some hf
  have h2:=low_mem.1 (List.mem_of_find?_eq_some hf)
  simp only[Int.toNat_natCast]
  exact⟨h2.1,h2.2,fun z hz hs=>List.all_eq_true.1 h1 z (low_mem.2 ⟨hz,hs⟩)⟩
theorem w53 {n:Nat}{le:Nat→Nat→Bool}(ho:Ord n le){S:List Nat}{m k:Nat}(h:IsGlb n le S m) (h2:IsGlb n le S k):m=k:=by
 by_cases e:m=k
 ·exact e
 ·have h3:=h.gr k h2.lt h2.lo
  have h4:=h2.gr m h.lt h.lo
  have:=ho.anti m k h.lt h2.lt e h4
  rw[this]at h3;cases h3
theorem zj {n:Nat}{le:Nat→Nat→Bool}(ho:Ord n le){S:List Nat}{m:Nat}(h:IsGlb n le S m):bnd n le S=(m:Int):=by
 have h0:0≤bnd n le S:=by
  unfold bnd grt
  cases hf:(low n le S).find? fun x=>(low n le S).all fun y=>le y x with
  | none =>
   have:=List.find?_eq_none.1 hf m (low_mem.2 ⟨h.lt,h.lo⟩)
   exact absurd (List.all_eq_true.2 fun y hy=>h.gr y (low_mem.1 hy).1 (low_mem.1 hy).2) this
  | some x=>simp
 have:=w53 ho (wp2 h0) h
 omega
theorem wyj {n:Nat}{le:Nat→Nat→Bool}{L:List Nat}(hL:∀x∈L,x<n) (hl:L.length≤4294967296):V30 big (mkT n le) (cs L)=some (grt le L,()):=by
 unfold V30 w3s
 rw[cs_len]
 refine xl3 L.length (fun i=>∀x∈L.take i,¬(L.all fun y=>le y x)=true) (by omega) ?_ ?_ 0 (by omega) (by simp)
 ·intro rc i hi hv ih
  have hx:=hL _ (List.getElem_mem hi)
  have hh := @jgp _ L (fun x=>L.all fun y=>le y x) i hi hv
  have hn:=fun h=>ih ((qp hi).2 ⟨hv,h⟩)
  unfold wdy
  rw[cdt (by omega),jo hi,obS,cs_len]
  generalize L[i]=x at hx hh hn
  refine xl4 L.length (fun k b=>b=(L.take k).all fun y=>le y x) (by omega) ?_ ?_ 0 (by omega) _ rfl
  ·intro rc2 k b hk hb ih2
   have hy:=hL _ (List.getElem_mem hk)
   have ht := @jea _ L k hk fun y=>le y x
   have ha:=jo hk
   unfold whl
   rw[cdt (by omega),ha,obS,wr1 (by omega)]
   generalize L[k]=y at hy ht
   cases b with
   | false=>exact ih2 _ (by rw[ht,←hb];rfl)
   | true =>
    rw[cond_true,jd hy,obS,jd hx,obS]
    exact ih2 _ (by rw[ht,←hb];rfl)
  ·intro rc2 b hb
   rw[List.take_length]at hb
   unfold whl
   rw[cdf (by omega),wdx,hb]
   cases h:L.all fun y=>le y x with
   | true =>
    rw[cond_true]
    unfold grt
    rw[hh h]
   | false =>
    rw[cond_false,wr1 (by omega)]
    exact hn (by rw[h];simp)
 ·intro rc hv
  rw[List.take_length]at hv
  unfold wdy
  rw[cdf (by omega),ym]
  unfold grt
  rw[List.find?_eq_none.2 hv]
theorem low2 {n:Nat}{le:Nat→Nat→Bool}{x y:Nat}:low n le [x,y]=fl n fun z=>le z x&&le z y:=by
 unfold low
 congr 1;funext z;simp
theorem w6g {n:Nat}{le:Nat→Nat→Bool}(hn:n≤1048576){x y:Nat}(hx:x<n) (hy:y<n):V32 big (mkT n le) (mkT n le,(x:Int),(y:Int),())=some (cs (low n le [x,y]),()):=by
 unfold V32 w3t
 rw[mkR_len,low2]
 refine xl5 n (fun i l=>l=cs (fl i fun z=>le z x&&le z y)) (by omega) ?_ ?_ 0 (by omega) _ rfl
 ·intro rc i l hi hv ih
  have hl:=jh i fun z=>le z x&&le z y
  unfold whn V31 xgx
  simp only[cdt (show(i:Int)<(n:Int) by omega),jd hi,jd hx,jd hy,obS,wr1 (show i≤4611686018427387904 by omega)]
  cases h1:le i x with
  | false=>exact ih _ (by rw[hv];exact fl_f (P:=fun z=>le z x&&le z y) (by simp[h1]))
  | true =>
   simp only[cond_true,obS]
   cases h2:le i y with
   | false=>exact ih _ (by rw[hv];exact fl_f (P:=fun z=>le z x&&le z y) (by simp[h1,h2]))
   | true =>
    rw[cond_true,app1 (by rw[hv,cs_len];omega),obS]
    exact ih _ (by rw[hv];exact fl_t (P:=fun z=>le z x&&le z y) (by simp[h1,h2]))
 ·intro rc l hv
  unfold whn
  rw[cdf (by omega),wdz,hv]
theorem xeo {n:Nat}{le:Nat→Nat→Bool}{S:List Nat}:∀x∈low n le S,x<n:=fun x hx=>(low_mem.1 hx).1
theorem w2a {n:Nat}{le:Nat→Nat→Bool}{S:List Nat}:(low n le S).length≤n:=jh _ _
theorem xr {n:Nat}{le:Nat→Nat→Bool}(hn:n≤1048576):V33 big (mkT n le)=some (@ite _ (∀x y,x<n→y<n→0≤bnd n le [x,y]) (Classical.propDecidable _) (mkT n fun x y=>bnd n le [x,y],true,()) ([],false,()),()):=by
 unfold V33 w3v
 rw[mkR_len]
 refine xl6 n (fun i t=>t=(mkR i fun x=>mkR n fun y=>bnd n le [x,y])∧∀x,x<i→∀y,y<n→0≤bnd n le [x,y]) (by omega) ?_ ?_ 0 (by omega) _ ⟨rfl,by intro x hx;omega⟩
 ·intro rc i t hi hv ih
  unfold wd2
  rw[cdt (by omega),mkR_len]
  refine xl7 n (fun j r=>r=(mkR j fun y=>bnd n le [i,y])∧∀y,y<j→0≤bnd n le [i,y]) (by omega) ?_ ?_ 0 (by omega) _ ⟨rfl,by intro x hx;omega⟩
  ·intro rc2 j r hj hr ih2
   unfold whq
   rw[cdt (by omega),w6g hn hi hj,obS,wyj xeo (by have := @w2a n le [i,j];omega),obS]
   show cond (decide (bnd n le [i,j]<0)) _ ((appI r [bnd n le [i,j]]).bind _)=_
   by_cases h:0≤bnd n le [i,j]
   ·rw[cdf (by omega),app1 (by rw[hr.1,mkR_len];omega),obS,wr1 (by omega)]
    exact ih2 _ ⟨by rw[hr.1];exact(jv j _).symm,all_lt_succ.2 ⟨hr.2,h⟩⟩
   ·rw[cdt (by omega),if_neg fun h2=>h (h2 i j hi hj)]
  ·intro rc2 r hr
   unfold whq
   rw[cdf (by omega),wd1,app1 (by rw[hv.1,mkR_len];omega),obS,wr1 (by omega)]
   refine ih _ ⟨?_,all_lt_succ.2 ⟨hv.2,hr.2⟩⟩
   rw[hv.1,hr.1]
   exact(jv i fun x=>mkR n fun y=>bnd n le [x,y]).symm
 ·intro rc t hv
  unfold wd2
  rw[cdf (by omega),yn,if_pos fun x y hx hy=>hv.2 x hx y hy,hv.1]
theorem w15 {n:Nat}{le:Nat→Nat→Bool}(hn:n≤1048576):V34 big (mkT n le)=some (mkT n (du le),()):=by
 unfold V34 w3w
 rw[mkR_len,wb3 (by omega),obS]
 refine xl8 n (fun i d=>d=mkT n fun a b=>decide (a<i)&&le b a) (by omega) ?_ ?_ 0 (by omega) _ (jw fun a b _ _=>by simp)
 ·intro rc i d hi hv ih
  unfold wd5
  rw[cdt (by omega),mkR_len]
  refine xl9 n (fun j d=>d=mkT n fun a b=>(decide (a<i)||decide (a=i)&&decide (b<j))&&le b a) (by omega) ?_ ?_ 0 (by omega) _ (by rw[hv];exact jw fun a b _ _=>by simp)
  ·intro rc2 j d2 hj hv2 ih2
   unfold wht
   generalize hf:(fun a b=>(decide (a<i)||decide (a=i)&&decide (b<j))&&le b a)=f at hv2
   simp only[cdt (show(j:Int)<(n:Int) by omega),hv2,jd hi,jp hi,obS,jd hj,jp hj,Int.toNat_natCast,wr1 (show j≤4611686018427387904 by omega)]
   refine ih2 _ ?_
   rw[wro,←hf]
   refine jw fun a b _ _ => ?_
   by_cases h1:a=i
   ·subst h1
    by_cases h2:b=j
    ·subst h2;simp
    ·rw[if_neg fun h=>h2 h.2,show decide (b<j+1)=decide (b<j) from decide_eq_decide.2 (by omega)]
   ·rw[if_neg fun h=>h1 h.1];simp[h1]
  ·intro rc2 d2 hv2
   unfold wht
   rw[cdf (by omega),wd4,wr1 (by omega)]
   refine ih _ ?_
   rw[hv2]
   refine jw fun a b _ hb => ?_
   congr 1
   rw[decide_eq_true hb,Bool.and_true,←Bool.decide_or]
   exact decide_eq_decide.2 (by omega)
 ·intro rc d hv
  unfold wd5
  rw[cdf (by omega),yo,hv]
  congr 2
  exact jw fun a b ha _=>by simp[ha]
structure Lat (n:Nat) (le:Nat→Nat→Bool):Prop where
 ne:0<n
 meet:∀x y,x<n→y<n→0≤bnd n le [x,y]
 join:∀x y,x<n→y<n→0≤bnd n (du le) [x,y]
def mt (n:Nat) (le:Nat→Nat→Bool) (x y:Nat):Nat:=(bnd n le [x,y]).toNat
def gb (n:Nat) (le:Nat→Nat→Bool) (S:List Nat):Nat:=(bnd n le S).toNat
def lat (n:Nat) (le:Nat→Nat→Bool):List (List Bool)×List (List Int)×List (List Int)×Unit :=
 (mkT n le,mkT n (fun x y=>((mt n le x y:Nat):Int)),mkT n (fun x y=>((mt n (du le) x y:Nat):Int)),())
structure LatP (n:Nat) (le:Nat→Nat→Bool):Prop where
 le10:n≤10
 ord:Ord n le
 lat:Lat n le
theorem xb {n:Nat}{le:Nat→Nat→Bool}(h:LatP n le):V35 (pos n le)=some ((some (lat n le),true,()),()):=by
 have h10:=h.le10
 have h0:=h.lat.ne
 unfold V35 wr9
 simp only[wlu h.le10 h.ord,obS,Bool.not_true,cond_false,mkR_len,cdf (show ¬((n:Int)=0) by omega),xr (le:=le) (show n≤1048576 by omega),w15 (le:=le) (show n≤1048576 by omega),xr (le:=du le) (show n≤1048576 by omega)]
 rw[if_pos h.lat.meet,if_pos h.lat.join]
 simp only[cond_true]
 have e1:(mkT n fun x y=>bnd n le [x,y])=mkT n fun x y=>((mt n le x y:Nat):Int):=jw fun x y hx hy=>by
  have:=h.lat.meet x y hx hy
  unfold mt;omega
 have e2:(mkT n fun x y=>bnd n (du le) [x,y])=mkT n fun x y=>((mt n (du le) x y:Nat):Int):=jw fun x y hx hy=>by
  have:=h.lat.join x y hx hy
  unfold mt;omega
 rw[e1,e2]
 rfl
theorem wxx {p:PT}(hx:∀r∈p.1,r.length≤4294967296) (h:¬(Good p∧Lat p.1.length (leP p))):∃l,V35 p=some ((l,false,()),()):=by
 by_cases hg:Good p
 ·have hf:=hg.form
  have ho:=hg.ord
  have h10:=hg.len
  replace h:¬Lat p.1.length (leP p):=fun hl=>h ⟨hg,hl⟩
  generalize p.1.length=n at *
  generalize leP p=le at *
  subst hf
  unfold V35 wr9
  simp only[wlu h10 ho,obS,Bool.not_true,cond_false,mkR_len,xr (le:=le) (show n≤1048576 by omega),w15 (le:=le) (show n≤1048576 by omega),xr (le:=du le) (show n≤1048576 by omega)]
  by_cases h0:n=0
  ·rw[cdt (by omega)]
   exact⟨_,rfl⟩
  ·rw[cdf (by omega)]
   by_cases h1:∀x y,x<n→y<n→0≤bnd n le [x,y]
   ·rw[if_pos h1]
    by_cases h2:∀x y,x<n→y<n→0≤bnd n (du le) [x,y]
    ·exact absurd ⟨by omega,h1,h2⟩ h
    ·rw[if_neg h2]
     exact⟨_,rfl⟩
   ·rw[if_neg h1]
    exact⟨_,rfl⟩
 ·obtain⟨T,hT⟩:=w6c p hx hg
  unfold V35 wr9
  rw[hT,obS]
  exact⟨_,rfl⟩
theorem xt {n:Nat}{le:Nat→Nat→Bool}(hn:n≤1048576):V59 big (pos n le)=some (pos n (du le),()):=by
 unfold V59 w4k
 refine xmm n (fun i o=>o.1=mkR i fun y=>cs (fl n fun x=>le y x)) (by omega) ?_ ?_ 0 (by omega) _ rfl
 ·intro rc i o hi hv ih
  unfold weu
  rw[wb,cdt (by omega)]
  refine xmn n (fun j l=>l=cs (fl j fun x=>le i x)) (by omega) ?_ ?_ 0 (by omega) _ rfl
  ·intro rc2 j l hj hl ih2
   have hlen:=jh j fun x=>le i x
   unfold wih
   rw[wb,cdt (by omega),zl (by omega) hi hj,obS,wr1 (by omega)]
   cases h:le i j with
   | true =>
    rw[cond_true,app1 (by rw[hl,cs_len];omega),obS]
    exact ih2 _ (by rw[hl];exact fl_t (P:=fun x=>le i x) h)
   | false=>exact ih2 _ (by rw[hl];exact fl_f (P:=fun x=>le i x) h)
  ·intro rc2 l hl
   unfold wih
   rw[wb,cdf (by omega),wet,app1 (by rw[hv,mkR_len];omega),obS,wr1 (by omega)]
   exact ih _ (by rw[hl];show o.1++_=_;rw[hv];exact(jv i fun y=>cs (fl n fun x=>le y x)).symm)
 ·intro rc o hv
  unfold weu
  rw[wb,cdf (by omega),yt]
  unfold pos
  congr 2
  exact Prod.ext hv rfl
theorem wu {n:Nat}{le:Nat→Nat→Bool}(hn:n≤1048576){S:List Nat}(hS:∀s∈S,s<n) (hSl:S.length≤4294967296):V60 big (pos n le) (cs S)=some (bnd n le S,()):=by
 unfold V60 w4o
 refine xmp n (fun i l=>l=cs (fl i fun z=>S.all fun s=>le z s)) (by omega) ?_ ?_ 0 (by omega) _ rfl
 ·intro rc i l hi hv ih
  have hlen:=jh i fun z=>S.all fun s=>le z s
  unfold wez
  rw[wb,cdt (by omega)]
  refine xmq S.length (fun k b=>b=(S.take k).all fun s=>le i s) (by omega) ?_ ?_ 0 (by omega) _ rfl
  ·intro rc2 k b hk hb ih2
   have hs:=hS _ (List.getElem_mem hk)
   have ht := @jea _ S k hk fun s=>le i s
   have ha:=jo hk
   unfold wik
   rw[cs_len,cdt (by omega),ha,obS,wr1 (by omega)]
   generalize S[k]=s at hs ht
   rw[zl (by omega) hi hs,obS]
   cases b with
   | true=>exact ih2 _ (by rw[ht,←hb];rfl)
   | false=>exact ih2 _ (by rw[ht,←hb];rfl)
  ·intro rc2 b hb
   rw[List.take_length]at hb
   unfold wik
   rw[cs_len,cdf (by omega),wex,wr1 (by omega)]
   cases b with
   | true =>
    rw[cond_true,app1 (by rw[hv,cs_len];omega),obS]
    exact ih _ (by rw[hv];exact fl_t (P:=fun z=>S.all fun s=>le z s) hb.symm)
   | false=>exact ih _ (by rw[hv];exact fl_f (P:=fun z=>S.all fun s=>le z s) hb.symm)
 ·intro rc l hv
  unfold wez
  rw[wb,cdf (by omega),yu]
  replace hv:l=cs (low n le S):=hv
  rw[hv]
  have hll := @w2a n le S
  unfold bnd
  have hlt := @xeo n le S
  have hfl:low n le S=fl n fun z=>S.all fun s=>le z s:=rfl
  have hw:∀x,x<n→V57 big (cs (low n le S)) (cs (fl n fun a=>le a x))=some ((low n le S).all fun y=>le y x,()):=by
   intro x hx
   rw[hfl,wrw (by omega),←hfl]
   congr 2
   exact jbb (by rw[List.all_eq_true];exact⟨fun h y hy hp=>h y (fl_mem.2 ⟨hy,hp⟩),fun h y hy=>h y (fl_mem.1 hy).1 (fl_mem.1 hy).2⟩)
  generalize low n le S=L at *
  refine xj2 L.length (fun i=>∀x∈L.take i,¬(L.all fun y=>le y x)=true) (by omega) ?_ ?_ 0 (by omega) (by simp)
  ·intro rc2 i hi hv2 ih2
   have hx:=hlt _ (List.getElem_mem hi)
   have hh := @jgp _ L (fun x=>L.all fun y=>le y x) i hi hv2
   have hn2:=fun h=>ih2 ((qp hi).2 ⟨hv2,h⟩)
   have ha:=jo hi
   have hg:=jz hi
   unfold wey
   simp only[cs_len,cdt (show(i:Int)<(L.length:Int) by omega),ha,obS,Int.toNat_natCast,hg,wr1 (show i≤4611686018427387904 by omega)]
   generalize L[i]=x at hx hh hn2
   rw[wga hx,obS,hw x hx,obS]
   cases h:L.all fun y=>le y x with
   | true =>
    rw[cond_true]
    unfold grt
    rw[hh h]
   | false =>
    rw[cond_false]
    exact hn2 (by rw[h];simp)
  ·intro rc2 hv2
   rw[List.take_length]at hv2
   unfold wey
   rw[cs_len,cdf (by omega),wal]
   unfold grt
   rw[List.find?_eq_none.2 hv2]
theorem wgr {n:Nat}{le:Nat→Nat→Bool}(x y:Nat):bnd n le [x,y]=bnd n le [y,x]:=by
 unfold bnd
 congr 1
 unfold low
 congr 1;funext z;simp[Bool.and_comm]
theorem Ord.du {n:Nat}{le:Nat→Nat→Bool}(h:Ord n le):Ord n (du le) where
 refl:=h.refl
 anti x y hx hy hxy h1:=by
  have h3:le y x=true:=h1
  show le x y=false
  by_cases h2:le x y=true
  ·rw[h.anti x y hx hy hxy h2]at h3;cases h3
  ·simpa using h2
 trans x y z hx hy hz h1 h2:=h.trans z y x hz hy hx h2 h1
theorem wl6 {n:Nat}{le:Nat→Nat→Bool}(ho:Ord n le){x:Nat}(hx:x<n):bnd n le [x,x]=(x:Int) :=
 zj ho ⟨hx,by simp[ho.refl x hx],fun z _ h=>h x (by simp)⟩
theorem wrv (p:PT) (hx:∀r∈p.1,r.length≤4294967296):V61 big p=some (tv (Good p∧Lat p.1.length (leP p)),()):=by
 unfold V61 w4p
 rw[wx8 p hx,obS]
 by_cases hg:Good p
 ·rw[tv_t hg]
  have e:(Good p∧Lat p.1.length (leP p))↔Lat p.1.length (leP p):=⟨fun h=>h.2,fun h=>⟨hg,h⟩⟩
  rw[qt e,Bool.not_true,cond_false]
  have hf:=hg.form
  have ho:=hg.ord
  have h10:=hg.len
  clear e hg hx
  generalize p.1.length=n at *
  generalize leP p=le at *
  subst hf
  by_cases h0:n=0
  ·rw[cdt (by omega),tv_f fun h=>by have:=h.ne;omega]
  ·rw[cdf (by omega),xt (by omega),obS]
   have key:∀x y,x<n→y<n→(0≤bnd n le [x,y]↔0≤bnd n le [y,x]):=fun x y _ _=>by rw[wgr]
   refine xmr n (fun i=>∀x,x<i→∀y,y<x→0≤bnd n le [x,y]∧0≤bnd n (du le) [x,y]) (by omega) ?_ ?_ 0 (by omega) (by intro x hx;omega)
   ·intro rc i hi hv ih
    unfold we2
    rw[wb,cdt (by omega)]
    refine xms i (fun j=>∀y,y<j→0≤bnd n le [i,y]∧0≤bnd n (du le) [i,y]) (by omega) ?_ ?_ 0 (by omega) (by intro x hx;omega)
    ·intro rc2 j hj hv2 ih2
     unfold wio
     have e:([(i:Int),(j:Int)]:List Int)=cs [i,j]:=rfl
     have hS:∀s∈[i,j],s<n:=by intro s hs;simp at hs;omega
     rw[cdt (by omega),e,wu (by omega) hS (by simp),obS,wu (le:=du le) (by omega) hS (by simp),obS]
     by_cases h1:0≤bnd n le [i,j]
     ·rw[cdf (by omega)]
      by_cases h2:0≤bnd n (du le) [i,j]
      ·rw[cdf (by omega),wr1 (by omega)]
       exact ih2 (all_lt_succ.2 ⟨hv2,h1,h2⟩)
      ·rw[cdt (by omega),tv_f fun h=>h2 (h.join i j hi (by omega))]
     ·rw[cdt (by omega),tv_f fun h=>h1 (h.meet i j hi (by omega))]
    ·intro rc2 hv2
     unfold wio
     rw[cdf (by omega),we1,wr1 (by omega)]
     exact ih (all_lt_succ.2 ⟨hv,hv2⟩)
   ·intro rc hv
    unfold we2
    rw[wb,cdf (by omega),yv,tv_t]
    refine⟨by omega,fun x y hx hy => ?_,fun x y hx hy => ?_⟩
    ·rcases Nat.lt_trichotomy x y with h|h|h
     ·rw[wgr];exact(hv y hy x h).1
     ·subst h;rw[wl6 ho hx];omega
     ·exact(hv x hx y h).1
    ·rcases Nat.lt_trichotomy x y with h|h|h
     ·rw[wgr];exact(hv y hy x h).2
     ·subst h;rw[wl6 ho.du hx];omega
     ·exact(hv x hx y h).2
 ·rw[tv_f hg,tv_f fun h=>hg h.1]
  rfl
theorem xem {p:PT}(hx:∀r∈p.1,r.length≤4294967296):(∃n le,p=pos n le∧LatP n le∧V61 big p=some (true,())∧V35 p=some ((some (lat n le),true,()),())) ∨
  (V61 big p=some (false,())∧∃l,V35 p=some ((l,false,()),())):=by
 by_cases h:Good p∧Lat p.1.length (leP p)
 ·have hl:LatP p.1.length (leP p):=⟨h.1.len,h.1.ord,h.2⟩
  refine .inl ⟨p.1.length,leP p,h.1.form,hl,by rw[wrv p hx,tv_t h], ?_⟩
  have:=xb hl
  rw[←h.1.form]at this
  exact this
 ·exact .inr ⟨by rw[wrv p hx,tv_f h],wxx hx h⟩
theorem xm {n:Nat}{o:List (List Bool)}(ho:o.length=n) (hn:n≤1048576){c:((Option ((List (List Bool))×((List (List Int))×((List (List Int))×Unit))))×Unit)}{P:Nat→Bool}(h:∀i,i<n→V44 (i:Int) c.1=some (P i,())):V45 big o c=some (cs (fl n P),()):=by
 unfold V45 w35
 rw[ho]
 refine xmg n (fun i l=>l=cs (fl i P)) (by omega) ?_ ?_ 0 (by omega) _ rfl
 ·intro rc i l hi hv ih
  have hl:=jh i P
  unfold wh5
  rw[cdt (by omega),h i hi,obS,wr1 (by omega)]
  cases hp:P i with
  | true=>rw[cond_true,app1 (by rw[hv,cs_len];omega),obS];exact ih _ (by rw[hv];exact fl_t hp)
  | false=>exact ih _ (by rw[hv];exact fl_f hp)
 ·intro rc l hv
  unfold wh5
  rw[cdf (by omega),wee,hv]
theorem zn {n:Nat}{o:List (List Bool)}(ho:o.length=n) (hn:n≤1048576){c:((Option ((List (List Bool))×((List (List Int))×((List (List Int))×Unit))))×(Int×(Int×(Int×Unit))))}{P:Nat→Bool}(h:∀i,i<n→V40 (i:Int) c.1 c.2.1 c.2.2.1 c.2.2.2.1=some (P i,())):V41 big o c=some (cs (fl n P),()):=by
 unfold V41 w33
 rw[ho]
 refine xmf n (fun i l=>l=cs (fl i P)) (by omega) ?_ ?_ 0 (by omega) _ rfl
 ·intro rc i l hi hv ih
  have hl:=jh i P
  unfold wh3
  rw[cdt (by omega),h i hi,obS,wr1 (by omega)]
  cases hp:P i with
  | true=>rw[cond_true,app1 (by rw[hv,cs_len];omega),obS];exact ih _ (by rw[hv];exact fl_t hp)
  | false=>exact ih _ (by rw[hv];exact fl_f hp)
 ·intro rc l hv
  unfold wh3
  rw[cdf (by omega),wed,hv]
theorem zi {n:Nat}{o:List (List Bool)}(ho:o.length=n) (hn:n≤1048576){c:((List (List Bool))×(Int×Unit))}{P:Nat→Bool}(h:∀i,i<n→V51 (i:Int) c.1 c.2.1=some (P i,())):V52 big o c=some (cs (fl n P),()):=by
 unfold V52 w4a
 rw[ho]
 refine xmi n (fun i l=>l=cs (fl i P)) (by omega) ?_ ?_ 0 (by omega) _ rfl
 ·intro rc i l hi hv ih
  have hl:=jh i P
  unfold wh9
  rw[cdt (by omega),h i hi,obS,wr1 (by omega)]
  cases hp:P i with
  | true=>rw[cond_true,app1 (by rw[hv,cs_len];omega),obS];exact ih _ (by rw[hv];exact fl_t hp)
  | false=>exact ih _ (by rw[hv];exact fl_f hp)
 ·intro rc l hv
  unfold wh9
  rw[cdf (by omega),weg,hv]
def SmallP (p:PT):Prop:=p.1.length≤1048576∧∀r∈p.1,r.length≤1048576
theorem SmallP.rows {p:PT}(h:SmallP p):∀r∈p.1,r.length≤4294967296:=fun r hr=>by have:=h.2 r hr;omega
def ls (le:Nat→Nat→Bool) (x y:Nat):Bool:=decide (x≠y)&&le x y
def cov (n:Nat) (le:Nat→Nat→Bool) (x y:Nat):Bool:=ls le x y&&(List.range n).all fun z => !(ls le x z&&ls le z y)
theorem wrn {n:Nat}{le:Nat→Nat→Bool}{x y:Nat}(hx:x<n) (hy:y<n):V49 (mkT n le) (x:Int) (y:Int)=some (ls le x y,()):=by
 unfold V49 xg4 ls
 simp only[jd hx,jd hy,obS]
 by_cases h:x=y
 ·rw[cdf (by omega),decide_eq_false (by omega)];rfl
 ·rw[cdt (by omega),decide_eq_true h];rfl
theorem wb5 {n:Nat}{le:Nat→Nat→Bool}(hn:n≤4294967296){x y:Nat}(hx:x<n) (hy:y<n):V16 (pos n le) (x:Int) (y:Int)=some (ls le x y,()):=by
 unfold V16 xgs ls
 rw[zl hn hx hy,obS]
 by_cases h:x=y
 ·rw[cdf (by omega),decide_eq_false (by omega)];rfl
 ·rw[cdt (by omega),decide_eq_true h];rfl
theorem w51 {n:Nat}{le:Nat→Nat→Bool}{x y:Nat}(h:ls le x y=true) (h2:∀z,z<n→¬(ls le x z=true∧ls le z y=true)):cov n le x y=true:=by
 unfold cov
 rw[h,Bool.true_and,List.all_eq_true]
 intro z hz
 have:=h2 z (List.mem_range.1 hz)
 cases h3:ls le x z<;>cases h4:ls le z y<;>simp_all
theorem wss {n:Nat}{le:Nat→Nat→Bool}{x y z:Nat}(hz:z<n) (h1:ls le x z=true) (h2:ls le z y=true):cov n le x y=false:=by
 unfold cov
 rw[Bool.and_eq_false_iff]
 refine .inr (List.all_eq_false.2 ⟨z,List.mem_range.2 hz,by simp[h1,h2]⟩)
theorem xee {n:Nat}{le:Nat→Nat→Bool}(hn:n≤1048576){x y:Nat}(hx:x<n) (hy:y<n):V50 big (mkT n le) (x:Int) (y:Int)=some (cov n le x y,()):=by
 unfold V50 w38
 rw[wrn hx hy,obS,mkR_len]
 cases h:ls le x y with
 | false=>simp[cov,h]
 | true =>
  rw[Bool.not_true,cond_false]
  refine xmh n (fun i=>∀z,z<i→¬(ls le x z=true∧ls le z y=true)) (by omega) ?_ ?_ 0 (by omega) (by intro z hz;omega)
  ·intro rc i hi hv ih
   unfold wh7
   rw[cdt (by omega),wrn hx hi,obS,wrn hi hy,obS,wr1 (by omega)]
   cases h1:ls le x i with
   | false=>exact ih (all_lt_succ.2 ⟨hv,by simp[h1]⟩)
   | true =>
    cases h2:ls le i y with
    | false=>exact ih (all_lt_succ.2 ⟨hv,by simp[h2]⟩)
    | true=>rw[wss hi h1 h2];rfl
  ·intro rc hv
   unfold wh7
   rw[cdf (by omega),wef,w51 h hv]
theorem wry {n:Nat}{le:Nat→Nat→Bool}(hn:n≤1048576){x y:Nat}(hx:x<n) (hy:y<n):V17 big (pos n le) (x:Int) (y:Int)=some (cov n le x y,()):=by
 unfold V17 w3c
 rw[wb5 (by omega) hx hy,obS]
 cases h:ls le x y with
 | false=>simp[cov,h]
 | true =>
  rw[Bool.not_true,cond_false]
  refine xlu n (fun i=>∀z,z<i→¬(ls le x z=true∧ls le z y=true)) (by omega) ?_ ?_ 0 (by omega) (by intro z hz;omega)
  ·intro rc i hi hv ih
   unfold wg6
   rw[wb,cdt (by omega),wb5 (by omega) hx hi,obS,wb5 (by omega) hi hy,obS,wr1 (by omega)]
   cases h1:ls le x i with
   | false=>exact ih (all_lt_succ.2 ⟨hv,by simp[h1]⟩)
   | true =>
    cases h2:ls le i y with
    | false=>exact ih (all_lt_succ.2 ⟨hv,by simp[h2]⟩)
    | true=>rw[wss hi h1 h2];rfl
  ·intro rc hv
   unfold wg6
   rw[wb,cdf (by omega),wde,w51 h hv]
theorem xns {n:Nat}{le:Nat→Nat→Bool}(s:List Int) (h:s.length≤4294967296):V95 (mkT n le) s=some (s.all (inB n),()):=by
 unfold V95 xhs
 rw[mkR_len,wj2 n s (by omega)];rfl
theorem LatP.du {n:Nat}{le:Nat→Nat→Bool}(h:LatP n le):LatP n (du le):=⟨h.le10,Ord.du h.ord,h.lat.ne,h.lat.join,h.lat.meet⟩
theorem LatP.glb {n:Nat}{le:Nat→Nat→Bool}(h:LatP n le){x y:Nat}(hx:x<n) (hy:y<n):IsGlb n le [x,y] (mt n le x y):=wp2 (h.lat.meet x y hx hy)
theorem LatP.bnd2 {n:Nat}{le:Nat→Nat→Bool}(h:LatP n le){x y:Nat}(hx:x<n) (hy:y<n):bnd n le [x,y]=((mt n le x y:Nat):Int):=by
 have:=h.lat.meet x y hx hy
 unfold mt;omega
theorem LatP.mlt {n:Nat}{le:Nat→Nat→Bool}(h:LatP n le){x y:Nat}(hx:x<n) (hy:y<n):mt n le x y<n:=(h.glb hx hy).lt
theorem LatP.m1 {n:Nat}{le:Nat→Nat→Bool}(h:LatP n le){x y:Nat}(hx:x<n) (hy:y<n):le (mt n le x y) x=true:=(h.glb hx hy).lo x (by simp)
theorem LatP.m2 {n:Nat}{le:Nat→Nat→Bool}(h:LatP n le){x y:Nat}(hx:x<n) (hy:y<n):le (mt n le x y) y=true:=(h.glb hx hy).lo y (by simp)
theorem LatP.mg {n:Nat}{le:Nat→Nat→Bool}(h:LatP n le){x y z:Nat}(hx:x<n) (hy:y<n) (hz:z<n) (h1:le z x=true) (h2:le z y=true):le z (mt n le x y)=true :=
 (h.glb hx hy).gr z hz (by simp[h1,h2])
theorem LatP.tr {n:Nat}{le:Nat→Nat→Bool}(h:LatP n le){x y z:Nat}(hx:x<n) (hy:y<n) (hz:z<n) (h1:le x y=true) (h2:le y z=true):le x z=true:=h.ord.trans x y z hx hy hz h1 h2
theorem LatP.as {n:Nat}{le:Nat→Nat→Bool}(h:LatP n le){x y:Nat}(hx:x<n) (hy:y<n) (h1:le x y=true) (h2:le y x=true):x=y:=by
 by_cases e:x=y
 ·exact e
 ·rw[h.ord.anti x y hx hy e h1]at h2;cases h2
theorem xl {n:Nat}{le:Nat→Nat→Bool}(x y:Nat):mt n le x y=mt n le y x:=by unfold mt;rw[wgr]
theorem topEx {n:Nat}{le:Nat→Nat→Bool}(h:LatP n le):∃t,IsGlb n le [] t:=by
 have key:∀i,i≤n→∃t,t<n∧∀x,x<i→le x t=true:=by
  intro i
  induction i with
  | zero=>exact fun _=>⟨0,h.lat.ne,by intro x hx;omega⟩
  | succ i ih =>
   intro hi
   obtain⟨t,ht,h1⟩:=ih (by omega)
   have hin:i<n:=by omega
   refine⟨mt n (YtgmapdlhkfajoaaGreat.du le) t i,h.du.mlt ht hin,all_lt_succ.2 ⟨fun x hx => ?_,h.du.m2 ht hin⟩⟩
   exact h.tr (by omega) ht (h.du.mlt ht hin) (h1 x hx) (h.du.m1 ht hin)
 obtain⟨t,ht,h1⟩:=key n (by omega)
 exact⟨t,ht,by simp,fun z hz _=>h1 z hz⟩
theorem glbEx {n:Nat}{le:Nat→Nat→Bool}(h:LatP n le):∀S:List Nat,(∀s∈S,s<n)→∃m,IsGlb n le S m
 | [],_=>topEx h
 | s::S,hS=>by
  obtain⟨m,hm⟩:=glbEx h S fun x hx=>hS x (by simp[hx])
  have hs:=hS s (by simp)
  refine⟨mt n le s m,h.mlt hs hm.lt,fun x hx => ?_,fun z hz hx => ?_⟩
  ·rcases List.mem_cons.1 hx with rfl|hx'
   ·exact h.m1 hs hm.lt
   ·exact h.tr (h.mlt hs hm.lt) hm.lt (hS x hx) (h.m2 hs hm.lt) (hm.lo x hx')
  ·exact h.mg hs hm.lt hz (hx s (by simp)) (hm.gr z hz fun x hx'=>hx x (by simp[hx']))
theorem LatP.gbs {n:Nat}{le:Nat→Nat→Bool}(h:LatP n le){S:List Nat}(hS:∀s∈S,s<n):IsGlb n le S (gb n le S):=by
 obtain⟨m,hm⟩:=glbEx h S hS
 unfold gb
 rw[zj h.ord hm]
 exact hm
theorem LatP.bnds {n:Nat}{le:Nat→Nat→Bool}(h:LatP n le){S:List Nat}(hS:∀s∈S,s<n):bnd n le S=((gb n le S:Nat):Int):=zj h.ord (h.gbs hS)
theorem xh2 {n:Nat}{le:Nat→Nat→Bool}(h:LatP n le){S:List Nat}{m:Nat}(hm:IsGlb n le S m):gb n le S=m:=by
 unfold gb;rw[zj h.ord hm];rfl
theorem noneLt {n:Nat}:∀s∈([]:List Nat),s<n:=fun s hs=>by cases hs
theorem lat1 (n:Nat) (le:Nat→Nat→Bool):(lat n le).1=mkT n le:=rfl
theorem lat2 (n:Nat) (le:Nat→Nat→Bool):(lat n le).2.1=mkT n fun x y=>((mt n le x y:Nat):Int):=rfl
theorem lat3 (n:Nat) (le:Nat→Nat→Bool):(lat n le).2.2.1=mkT n fun x y=>((mt n (du le) x y:Nat):Int):=rfl
theorem wt {n:Nat}{le:Nat→Nat→Bool}(h:LatP n le){x y:Nat}(hx:x<n) (hy:y<n):V63 (pos n le) (x:Int) (y:Int)=some (((mt n le x y:Nat):Int),()):=by
 have:=h.le10
 unfold V63 xhc
 rw[show([(x:Int),(y:Int)]:List Int)=cs [x,y] from rfl,wu (by omega) (by simp[hx,hy]) (by simp),obS,h.bnd2 hx hy]
theorem zm {n:Nat}{le:Nat→Nat→Bool}(h:LatP n le){x y:Nat}(hx:x<n) (hy:y<n):V62 (pos n le) (x:Int) (y:Int)=some (((mt n (du le) x y:Nat):Int),()):=by
 have:=h.le10
 unfold V62 xhb
 rw[xt (by omega),obS,show([(x:Int),(y:Int)]:List Int)=cs [x,y] from rfl,wu (by omega) (by simp[hx,hy]) (by simp),obS,h.du.bnd2 hx hy]
theorem specBoundL {n:Nat}{le:Nat→Nat→Bool}(h:LatP n le){S:List Nat}(hS:∀s∈S,s<n) (hl:S.length≤4294967296):V60 big (pos n le) (cs S)=some (((gb n le S:Nat):Int),()):=by
 have:=h.le10
 rw[wu (by omega) hS hl,h.bnds hS]
theorem wp8 {n:Nat}{le:Nat→Nat→Bool}(h:LatP n le):V67 (pos n le)=some (((gb n le []:Nat):Int),()):=by
 unfold V67 xhe
 rw[show([]:List Int)=cs [] from rfl,specBoundL h noneLt (by simp)];rfl
theorem zh {n:Nat}{le:Nat→Nat→Bool}(h:LatP n le):V66 (pos n le)=some (((gb n (du le) []:Nat):Int),()):=by
 have:=h.le10
 unfold V66 xhd
 rw[xt (by omega),obS,show([]:List Int)=cs [] from rfl,specBoundL h.du noneLt (by simp)];rfl
theorem wya {n:Nat}{le:Nat→Nat→Bool}(h:LatP n le):V39 big (some (lat n le))=some (((gb n le []:Nat):Int),()):=by
 have h10:=h.le10
 unfold V39 w31
 rw[obS,lat1,mkR_len]
 refine xme n (fun i t=>∃k:Nat,t=(k:Int)∧k<n∧∀x,x<i→le x k=true) (by omega) ?_ ?_ 0 (by omega) _ ⟨0,rfl,h.lat.ne,by intro x hx;omega⟩
 ·intro rc i t hi hv ih
  obtain⟨k,e,hk,h1⟩:=hv
  subst e
  unfold wh1
  rw[cdt (by omega),obS,lat3,jd hk,obS,jd hi,obS,wr1 (by omega)]
  refine ih _ ⟨mt n (YtgmapdlhkfajoaaGreat.du le) k i,rfl,h.du.mlt hk hi,all_lt_succ.2 ⟨fun x hx => ?_,h.du.m2 hk hi⟩⟩
  exact h.tr (by omega) hk (h.du.mlt hk hi) (h1 x hx) (h.du.m1 hk hi)
 ·intro rc t hv
  obtain⟨k,e,hk,h1⟩:=hv
  subst e
  unfold wh1
  rw[cdf (by omega),wec,xh2 h ⟨hk,by simp,fun z hz _=>h1 z hz⟩]
theorem wby {n:Nat}{le:Nat→Nat→Bool}(h:LatP n le):V38 big (some (lat n le))=some (((gb n (du le) []:Nat):Int),()):=by
 have h10:=h.le10
 unfold V38 w3z
 rw[obS,lat1,mkR_len]
 refine xmd n (fun i t=>∃k:Nat,t=(k:Int)∧k<n∧∀x,x<i→le k x=true) (by omega) ?_ ?_ 0 (by omega) _ ⟨0,rfl,h.lat.ne,by intro x hx;omega⟩
 ·intro rc i t hi hv ih
  obtain⟨k,e,hk,h1⟩:=hv
  subst e
  unfold whz
  rw[cdt (by omega),obS,lat2,jd hk,obS,jd hi,obS,wr1 (by omega)]
  refine ih _ ⟨mt n le k i,rfl,h.mlt hk hi,all_lt_succ.2 ⟨fun x hx => ?_,h.m2 hk hi⟩⟩
  exact h.tr (h.mlt hk hi) hk (by omega) (h.m1 hk hi) (h1 x hx)
 ·intro rc t hv
  obtain⟨k,e,hk,h1⟩:=hv
  subst e
  unfold whz
  rw[cdf (by omega),web,xh2 h.du ⟨hk,by simp,fun z hz _=>h1 z hz⟩]
theorem wb4 (a b:List Int) (h:a.length≤4294967296):V102 big a b=some (decide (a=b),()):=by
 unfold V102 wsz
 by_cases hl:a.length=b.length
 ·rw[cdf (by omega)]
  refine xh6 a.length (fun i=>a.take i=b.take i) (by omega) ?_ ?_ 0 (by omega) rfl
  ·intro rc i hi hv ih
   have hi2:i<b.length:=by omega
   unfold wcc
   rw[cdt (by omega),jf a i hi,obS,jf b i hi2,obS,wr1 (by omega)]
   by_cases e:b[i]=a[i]
   ·rw[cdf (by omega)]
    exact ih (by rw[List.take_succ_eq_append_getElem hi,List.take_succ_eq_append_getElem hi2,hv,e])
   ·rw[cdt e,decide_eq_false fun h=>by subst h;exact e rfl]
  ·intro rc hv
   rw[List.take_length,hl,List.take_length]at hv
   unfold wcc
   rw[cdf (by omega),zq,decide_eq_true hv]
 ·rw[cdt (by omega),decide_eq_false fun h=>hl (by rw[h])]
abbrev bt (n:Nat) (le:Nat→Nat→Bool):Nat:=gb n (du le) []
abbrev tp (n:Nat) (le:Nat→Nat→Bool):Nat:=gb n le []
def Dis (n:Nat) (le:Nat→Nat→Bool):Prop:=∀x y z,x<n→y<n→z<n→mt n le x (mt n (du le) y z)=mt n (du le) (mt n le x y) (mt n le x z)
theorem w9 {n:Nat}{le:Nat→Nat→Bool}(h:LatP n le):bt n le<n:=(h.du.gbs noneLt).lt
theorem xu {n:Nat}{le:Nat→Nat→Bool}(h:LatP n le):tp n le<n:=(h.gbs noneLt).lt
theorem wbz {n:Nat}{le:Nat→Nat→Bool}(h:LatP n le){x:Nat}(hx:x<n):le (bt n le) x=true:=(h.du.gbs noneLt).gr x hx (by simp)
theorem wb0 {n:Nat}{le:Nat→Nat→Bool}(h:LatP n le){x:Nat}(hx:x<n):le x (tp n le)=true:=(h.gbs noneLt).gr x hx (by simp)
theorem jlt {n:Nat}{le:Nat→Nat→Bool}(h:LatP n le){x y:Nat}(hx:x<n) (hy:y<n):mt n (du le) x y<n:=h.du.mlt hx hy
theorem j1 {n:Nat}{le:Nat→Nat→Bool}(h:LatP n le){x y:Nat}(hx:x<n) (hy:y<n):le x (mt n (du le) x y)=true:=h.du.m1 hx hy
theorem j2 {n:Nat}{le:Nat→Nat→Bool}(h:LatP n le){x y:Nat}(hx:x<n) (hy:y<n):le y (mt n (du le) x y)=true:=h.du.m2 hx hy
theorem jg {n:Nat}{le:Nat→Nat→Bool}(h:LatP n le){x y z:Nat}(hx:x<n) (hy:y<n) (hz:z<n) (h1:le x z=true) (h2:le y z=true):le (mt n (du le) x y) z=true:=h.du.mg hx hy hz h1 h2
theorem xeu {n:Nat}{le:Nat→Nat→Bool}(h:LatP n le):∃U,V36 big (some (lat n le))=some (U,())∧U.isNone=tv (Dis n le):=by
 have h10:=h.le10
 unfold V36 w3x
 rw[obS,lat1,mkR_len]
 refine xma (Q:=fun o=>∃U,o=some (U,())∧U.isNone=tv (Dis n le)) n (fun i=>∀x,x<i→∀y,y<n→∀z,z<n→mt n le x (mt n (du le) y z)=mt n (du le) (mt n le x y) (mt n le x z)) (by omega) ?_ ?_ 0 (by omega) (by intro x hx;omega)
 ·intro rc i hi hv ih
  unfold wd9
  rw[cdt (by omega),obS,lat1,mkR_len]
  refine xmb (Q:=fun o=>∃U,o=some (U,())∧U.isNone=tv (Dis n le)) n (fun j=>∀y,y<j→∀z,z<n→mt n le i (mt n (du le) y z)=mt n (du le) (mt n le i y) (mt n le i z)) (by omega) ?_ ?_ 0 (by omega) (by intro x hx;omega)
  ·intro rc2 j hj hv2 ih2
   unfold wea
   rw[cdt (by omega),obS,lat1,mkR_len]
   refine xmc (Q:=fun o=>∃U,o=some (U,())∧U.isNone=tv (Dis n le)) n (fun k=>∀z,z<k→mt n le i (mt n (du le) j z)=mt n (du le) (mt n le i j) (mt n le i z)) (by omega) ?_ ?_ 0 (by omega) (by intro x hx;omega)
   ·intro rc3 k hk hv3 ih3
    unfold whx
    simp only[cdt (show(k:Int)<(n:Int) by omega),obS,lat2,lat3,jd hi,jd hj,jd hk,jd (jlt h hj hk),jd (h.mlt hi hj),jd (h.mlt hi hk),wr1 (show k≤4611686018427387904 by omega)]
    by_cases e:mt n le i (mt n (du le) j k)=mt n (du le) (mt n le i j) (mt n le i k)
    ·rw[cdf (by omega)]
     exact ih3 (all_lt_succ.2 ⟨hv3,e⟩)
    ·rw[cdt (by omega)]
     exact⟨_,rfl,by rw[tv_f fun hd=>e (hd i j k hi hj hk)];rfl⟩
   ·intro rc3 hv3
    unfold whx
    rw[cdf (by omega),wd8,wr1 (by omega)]
    exact ih2 (all_lt_succ.2 ⟨hv2,hv3⟩)
  ·intro rc2 hv2
   unfold wea
   rw[cdf (by omega),yq,wr1 (by omega)]
   exact ih (all_lt_succ.2 ⟨hv,hv2⟩)
 ·intro rc hv
  unfold wd9
  rw[cdf (by omega),yp]
  exact⟨none,rfl,by rw[tv_t (P:=Dis n le) fun x y z hx hy hz=>hv x hx y hy z hz];rfl⟩
theorem xf2 {n:Nat}{le:Nat→Nat→Bool}(h:LatP n le):∃l b,V64 big (pos n le)=some ((l,b,()),())∧(!b)=tv (Dis n le):=by
 have h10:=h.le10
 unfold V64 w4q
 rw[wb]
 refine xmt (Q:=fun o=>∃l b,o=some ((l,b,()),())∧(!b)=tv (Dis n le)) n (fun i=>∀x,x<i→∀y,y<n→∀z,z<n→mt n le x (mt n (du le) y z)=mt n (du le) (mt n le x y) (mt n le x z)) (by omega) ?_ ?_ 0 (by omega) (by intro x hx;omega)
 ·intro rc i hi hv ih
  unfold we6
  rw[cdt (by omega)]
  refine xmu (Q:=fun o=>∃l b,o=some ((l,b,()),())∧(!b)=tv (Dis n le)) n (fun j=>∀y,y<j→∀z,z<n→mt n le i (mt n (du le) y z)=mt n (du le) (mt n le i y) (mt n le i z)) (by omega) ?_ ?_ 0 (by omega) (by intro x hx;omega)
  ·intro rc2 j hj hv2 ih2
   unfold we7
   rw[cdt (by omega)]
   refine xmv (Q:=fun o=>∃l b,o=some ((l,b,()),())∧(!b)=tv (Dis n le)) n (fun k=>∀z,z<k→mt n le i (mt n (du le) j z)=mt n (du le) (mt n le i j) (mt n le i z)) (by omega) ?_ ?_ 0 (by omega) (by intro x hx;omega)
   ·intro rc3 k hk hv3 ih3
    unfold wis
    simp only[cdt (show(k:Int)<(n:Int) by omega),zm h hj hk,obS,wt h hi (jlt h hj hk),wt h hi hj,wt h hi hk,zm h (h.mlt hi hj) (h.mlt hi hk),wr1 (show k≤4611686018427387904 by omega)]
    by_cases e:mt n le i (mt n (du le) j k)=mt n (du le) (mt n le i j) (mt n le i k)
    ·rw[cdf (by omega)]
     exact ih3 (all_lt_succ.2 ⟨hv3,e⟩)
    ·rw[cdt (by omega)]
     exact⟨_,_,rfl,by rw[tv_f fun hd=>e (hd i j k hi hj hk)];rfl⟩
   ·intro rc3 hv3
    unfold wis
    rw[cdf (by omega),we5,wr1 (by omega)]
    exact ih2 (all_lt_succ.2 ⟨hv2,hv3⟩)
  ·intro rc2 hv2
   unfold we7
   rw[cdf (by omega),yx,wr1 (by omega)]
   exact ih (all_lt_succ.2 ⟨hv,hv2⟩)
 ·intro rc hv
  unfold we6
  rw[cdf (by omega),yw]
  exact⟨[],false,rfl,by rw[tv_t (P:=Dis n le) fun x y z hx hy hz=>hv x hx y hy z hz];rfl⟩
def rel (n:Nat) (le:Nat→Nat→Bool) (x y z:Nat):List Nat:=fl n fun c=>decide (mt n le c y=x)&&decide (mt n (du le) c y=z)
def comp (n:Nat) (le:Nat→Nat→Bool) (x:Nat):List Nat:=rel n le (bt n le) x (tp n le)
theorem wyo {n:Nat}{le:Nat→Nat→Bool}(h:LatP n le){x y z:Nat}(hy:y<n):V42 (some (lat n le)) (x:Int) (y:Int) (z:Int)=some (cs (rel n le x y z),()):=by
 have h10:=h.le10
 unfold V42 xgz
 rw[obS,lat1,zn (mkR_len n _) (by omega) (P:=fun c=>decide (mt n le c y=x)&&decide (mt n (du le) c y=z))]
 ·rfl
 ·intro i hi
  unfold V40 xgy
  simp only[obS,lat2,lat3,jd hi,jd hy]
  by_cases e:mt n le i y=x
  ·rw[cdt (by omega),decide_eq_true e,Bool.true_and]
   congr 2
   exact decide_eq_decide.2 (by omega)
  ·rw[cdf (by omega),decide_eq_false e,Bool.false_and]
theorem wp7 {n:Nat}{le:Nat→Nat→Bool}(h:LatP n le){x y z:Nat}(hy:y<n):V68 big (pos n le) (x:Int) (y:Int) (z:Int)=some (cs (rel n le x y z),()):=by
 have h10:=h.le10
 unfold V68 w4s
 refine xmw n (fun i l=>l=cs (fl i fun c=>decide (mt n le c y=x)&&decide (mt n (du le) c y=z))) (by omega) ?_ ?_ 0 (by omega) _ rfl
 ·intro rc i l hi hv ih
  have hl:=jh i fun c=>decide (mt n le c y=x)&&decide (mt n (du le) c y=z)
  unfold wiu
  rw[wb,cdt (by omega),wt h hy hi,obS,zm h hy hi,obS,xl,xl (le:=du le),wr1 (by omega)]
  by_cases e:mt n le i y=x
  ·rw[cdt (by omega)]
   by_cases e2:mt n (du le) i y=z
   ·rw[cdt (by omega),app1 (by rw[hv,cs_len];omega),obS]
    exact ih _ (by rw[hv];exact fl_t (P:=fun c=>decide (mt n le c y=x)&&decide (mt n (du le) c y=z)) (by simp[e,e2]))
   ·rw[cdf (by omega)]
    exact ih _ (by rw[hv];exact fl_f (P:=fun c=>decide (mt n le c y=x)&&decide (mt n (du le) c y=z)) (by simp[e2]))
  ·rw[cdf (by omega)]
   exact ih _ (by rw[hv];exact fl_f (P:=fun c=>decide (mt n le c y=x)&&decide (mt n (du le) c y=z)) (by simp[e]))
 ·intro rc l hv
  unfold wiu
  rw[wb,cdf (by omega),we8,hv]
  rfl
theorem wgc {n:Nat}{le:Nat→Nat→Bool}(h:LatP n le){x:Nat}(hx:x<n):V43 (some (lat n le)) (x:Int)=some (cs (comp n le x),()):=by
 unfold V43 xg0
 rw[wby h,obS,wya h,obS,wyo h hx];rfl
def Cmp (n:Nat) (le:Nat→Nat→Bool):Prop:=∀x,x<n→comp n le x≠[]
theorem w55 {n:Nat}{le:Nat→Nat→Bool}(h:LatP n le):V47 (some (lat n le))=some (tv (Cmp n le),()):=by
 have h10:=h.le10
 unfold V47 xg3 V46 xg2
 rw[obS,lat1,xm (mkR_len n _) (by omega) (P:=fun x=>decide ((comp n le x).length=0))]
 ·simp only[obS,cs_len]
  congr 2
  symm
  refine jbb ?_
  rw[decide_eq_true_eq]
  constructor
  ·intro e x hx hc
   have:x∈fl n fun x=>decide ((comp n le x).length=0):=fl_mem.2 ⟨hx,by simp[hc]⟩
   have:=List.length_pos_of_mem this
   omega
  ·intro hc
   have:(fl n fun x=>decide ((comp n le x).length=0))=[]:=List.eq_nil_iff_forall_not_mem.2 fun x hx=>by
    have:=fl_mem.1 hx
    exact hc x this.1 (List.eq_nil_of_length_eq_zero (by simpa using this.2))
   rw[this];rfl
 ·intro i hi
  unfold V44 xg1
  rw[wgc h hi,obS,cs_len]
  congr 2
  exact decide_eq_decide.2 (by omega)
theorem xed {n:Nat}{le:Nat→Nat→Bool}(h:LatP n le):V69 big (pos n le)=some (mkR n fun x=>((comp n le x).length:Int),()):=by
 have h10:=h.le10
 unfold V69 w4u
 refine xmx n (fun i l=>l=mkR i fun x=>((comp n le x).length:Int)) (by omega) ?_ ?_ 0 (by omega) _ rfl
 ·intro rc i l hi hv ih
  unfold wiw
  rw[wb,cdt (by omega),zh h,obS,wp8 h,obS,wp7 h hi,obS,app1 (by rw[hv,mkR_len];omega),obS,wr1 (by omega)]
  exact ih _ (by rw[hv,cs_len];exact(jv i fun x=>((comp n le x).length:Int)).symm)
 ·intro rc l hv
  unfold wiw
  rw[wb,cdf (by omega),we9,hv]
structure BoolP (n:Nat) (le:Nat→Nat→Bool):Prop where
 lp:LatP n le
 dis:Dis n le
 cmp:Cmp n le
theorem specGood29 {n:Nat}{le:Nat→Nat→Bool}(h:LatP n le) (hg:V61 big (pos n le)=some (true,())):V70 (pos n le)=some (tv (Dis n le∧Cmp n le),()):=by
 have h10:=h.le10
 unfold V70 w4w V65 w4r
 obtain⟨l,b,h1,h2⟩:=xf2 h
 rw[hg,obS,h1]
 simp only[Bool.not_true,cond_false,obS,h2]
 by_cases hd:Dis n le
 ·rw[tv_t hd,cond_true,xed h,obS,wgt _ _ (by rw[mkR_len];omega),obS]
  congr 2
  symm
  refine jbb ?_
  rw[Bool.not_eq_true',decide_eq_false_iff_not,mkR_mem]
  constructor
  ·intro hc
   refine⟨hd,fun x hx he=>hc ⟨x,hx,by rw[he];rfl⟩⟩
  ·rintro⟨_,hc⟩ ⟨x,hx,e⟩
   exact hc x hx (List.eq_nil_of_length_eq_zero (by omega))
 ·rw[tv_f hd,tv_f fun hh=>hd hh.1];rfl
theorem implBool {n:Nat}{le:Nat→Nat→Bool}(h:LatP n le) (hg:V35 (pos n le)=some ((some (lat n le),true,()),())):V48 (pos n le)=some ((some (lat n le),tv (Dis n le∧Cmp n le),()),()):=by
 unfold V48 w37 V37 w3y
 obtain⟨U,h1,h2⟩:=xeu h
 rw[hg,obS]
 simp only[cond_true,h1,obS,h2]
 by_cases hd:Dis n le
 ·rw[tv_t hd,cond_true,w55 h,obS,qt (show Cmp n le↔Dis n le∧Cmp n le from⟨fun hc=>⟨hd,hc⟩,fun hh=>hh.2⟩)]
 ·rw[tv_f hd,tv_f fun hh=>hd hh.1];rfl
theorem wgs {p:PT}(hx:∀r∈p.1,r.length≤4294967296):(∃n le,p=pos n le∧BoolP n le∧V70 p=some (true,())∧V48 p=some ((some (lat n le),true,()),())) ∨
  (V70 p=some (false,())∧∃l,V48 p=some ((l,false,()),())):=by
 rcases xem hx with⟨n,le,e,h,h1,h2⟩|⟨h1,l,h2⟩
 ·subst e
  have e1:=specGood29 h h1
  have e2:=implBool h h2
  by_cases hb:Dis n le∧Cmp n le
  ·rw[tv_t hb]at e1 e2
   exact .inl ⟨n,le,rfl,⟨h,hb.1,hb.2⟩,e1,e2⟩
  ·rw[tv_f hb]at e1 e2
   exact .inr ⟨e1,_,e2⟩
 ·refine .inr ⟨?_,l, ?_⟩
  ·unfold V70 w4w V65 w4r
   rw[h1];rfl
  ·unfold V48 w37 V37 w3y
   rw[h2];rfl
def cpl (n:Nat) (le:Nat→Nat→Bool) (x:Nat):Nat:=(comp n le x).headD 0
theorem wrk {n:Nat}{le:Nat→Nat→Bool}(hc:Cmp n le){x:Nat}(hx:x<n):∃h:0<(comp n le x).length,(comp n le x)[0]=cpl n le x:=by
 have h0:0<(comp n le x).length:=List.length_pos_iff.2 (hc x hx)
 refine⟨h0, ?_⟩
 unfold cpl
 rw[List.getElem_zero,List.headD_eq_head?_getD,List.head?_eq_some_head (List.ne_nil_of_length_pos h0)]
 rfl
theorem we {n:Nat}{le:Nat→Nat→Bool}(hc:Cmp n le){x:Nat}(hx:x<n):cpl n le x<n∧mt n le (cpl n le x) x=bt n le∧mt n (du le) (cpl n le x) x=tp n le:=by
 obtain⟨h0,e⟩:=wrk hc hx
 have:=List.getElem_mem h0
 rw[e]at this
 have:=fl_mem.1 this
 simpa using this
theorem wbv {n:Nat}{le:Nat→Nat→Bool}(h:BoolP n le):V74 big (some (lat n le))=some (mkR n fun x=>((cpl n le x:Nat):Int),()):=by
 have h10:=h.lp.le10
 unfold V74 w42
 rw[obS,lat1,mkR_len]
 refine xm1 n (fun i l=>l=mkR i fun x=>((cpl n le x:Nat):Int)) (by omega) ?_ ?_ 0 (by omega) _ rfl
 ·intro rc i l hi hv ih
  obtain⟨h0,e⟩:=wrk h.cmp hi
  have a1:=jo h0
  have a2:=jz h0
  rw[e]at a1 a2
  unfold wi2
  rw[cdt (by omega),wgc h.lp hi,obS,show(0:Int)=((0:Nat):Int) from rfl,a1,obS,Int.toNat_natCast,a2,obS,app1 (by rw[hv,mkR_len];omega),obS,wr1 (by omega)]
  exact ih _ (by rw[hv];exact(jv i fun x=>((cpl n le x:Nat):Int)).symm)
 ·intro rc l hv
  unfold wi2
  rw[cdf (by omega),wfh,hv]
theorem wbx {n:Nat}{le:Nat→Nat→Bool}(h:BoolP n le):V76 big (pos n le)=some (mkR n fun x=>((cpl n le x:Nat):Int),()):=by
 have h10:=h.lp.le10
 unfold V76 w45
 refine xm2 n (fun i l=>l=mkR i fun x=>((cpl n le x:Nat):Int)) (by omega) ?_ ?_ 0 (by omega) _ rfl
 ·intro rc i l hi hv ih
  obtain⟨h0,e⟩:=wrk h.cmp hi
  have a1:=jo h0
  have a2:=jz h0
  rw[e]at a1 a2
  unfold wi4
  rw[wb,cdt (by omega),zh h.lp,obS,wp8 h.lp,obS,wp7 h.lp hi,obS]
  simp only[show(0:Int)=((0:Nat):Int) from rfl]
  rw[show atI (cs (rel n le (bt n le) i (tp n le))) ((0:Nat):Int)=_ from a1,obS,Int.toNat_natCast,show(cs (rel n le (bt n le) i (tp n le)))[0]? = _ from a2,obS,app1 (by rw[hv,mkR_len];omega),obS,wr1 (by omega)]
  exact ih _ (by rw[hv];exact(jv i fun x=>((cpl n le x:Nat):Int)).symm)
 ·intro rc l hv
  unfold wi4
  rw[wb,cdf (by omega),wfi,hv]
theorem w5z {n:Nat}{le:Nat→Nat→Bool}(h:BoolP n le){a b c:Nat}(ha:a<n) (hb:b<n) (hc:c<n) (h1:∀t,t<n→le t a=true→le t c=true→le t b=true) (h2:∀t,t<n→le t a=true→le t (cpl n le c)=true→le t b=true):le a b=true:=by
 obtain⟨q1,q2,q3⟩:=we h.cmp hc
 have e:=h.dis a (cpl n le c) c ha q1 hc
 rw[q3]at e
 have e2:mt n le a (tp n le)=a:=by
  have hl:=h.lp.mlt ha (xu h.lp)
  exact h.lp.as hl ha (h.lp.m1 ha (xu h.lp)) (h.lp.mg ha (xu h.lp) ha (h.lp.ord.refl a ha) (wb0 h.lp ha))
 rw[e2]at e
 rw[e]
 have l1:=h.lp.mlt ha q1
 have l2:=h.lp.mlt ha hc
 exact jg h.lp l1 l2 hb (h2 _ l1 (h.lp.m1 ha q1) (h.lp.m2 ha q1)) (h1 _ l2 (h.lp.m1 ha hc) (h.lp.m2 ha hc))
def bsum (n:Nat) (le:Nat→Nat→Bool) (x y:Nat):Nat:=mt n (du le) (mt n le x (cpl n le y)) (mt n le (cpl n le x) y)
theorem wlr {n:Nat}{le:Nat→Nat→Bool}(h:BoolP n le){x y:Nat}(hx:x<n) (hy:y<n):bsum n le x y<n :=
 jlt h.lp (h.lp.mlt hx (we h.cmp hy).1) (h.lp.mlt (we h.cmp hx).1 hy)
theorem w6e {n:Nat}{le:Nat→Nat→Bool}(h:BoolP n le){x y:Nat}(hx:x<n) (hy:y<n):V82 (pos n le) (mkR n fun x=>((cpl n le x:Nat):Int)) (x:Int) (y:Int)=some (((bsum n le x y:Nat):Int),()):=by
 have c1:=(we h.cmp hx).1
 have c2:=(we h.cmp hy).1
 unfold V82 xhj
 simp only[jd hy,jd hx,obS,wt h.lp hx c2,wt h.lp c1 hy,zm h.lp (h.lp.mlt hx c2) (h.lp.mlt c1 hy)]
 rfl
theorem wj4 (a b:List Int) (h:a.length≤4294967296):V125 big a b=some (decide (a=b),()):=by
 unfold V125 wt5
 by_cases hl:a.length=b.length
 ·rw[cdf (by omega)]
  refine xip a.length (fun i=>a.take i=b.take i) (by omega) ?_ ?_ 0 (by omega) rfl
  ·intro rc i hi hv ih
   have hi2:i<b.length:=by omega
   unfold wc4
   rw[cdt (by omega),jf a i hi,obS,jf b i hi2,obS,wr1 (by omega)]
   by_cases e:a[i]=b[i]
   ·rw[cdf (by omega)]
    exact ih (by rw[List.take_succ_eq_append_getElem hi,List.take_succ_eq_append_getElem hi2,hv,e])
   ·rw[cdt e,decide_eq_false fun h=>by subst h;exact e rfl]
  ·intro rc hv
   rw[List.take_length,hl,List.take_length]at hv
   unfold wc4
   rw[cdf (by omega),z7,decide_eq_true hv]
 ·rw[cdt (by omega),decide_eq_false fun h=>hl (by rw[h])]
def atm (n:Nat) (le:Nat→Nat→Bool):List Nat:=fl n fun y=>cov n le (bt n le) y
theorem xgp {n:Nat}{le:Nat→Nat→Bool}(hn:n≤1048576){x:Nat}(hx:x<n):V53 (mkT n le) (x:Int)=some (cs (fl n fun y=>cov n le x y),()):=by
 unfold V53 xg6
 rw[zi (mkR_len n _) hn (P:=fun y=>cov n le x y)]
 ·rfl
 ·intro i hi
  unfold V51 xg5
  rw[xee hn hx hi];rfl
theorem wxj {n:Nat}{le:Nat→Nat→Bool}(h:LatP n le):V54 (some (lat n le))=some (cs (atm n le),()):=by
 have h10:=h.le10
 unfold V54 xg7
 rw[obS,wby h,obS,lat1,xgp (by omega) (w9 h)];rfl
theorem wx7 {n:Nat}{le:Nat→Nat→Bool}(h:LatP n le):V71 big (pos n le)=some (cs (atm n le),()):=by
 have h10:=h.le10
 unfold V71 w4x
 rw[zh h,obS]
 refine xmy n (fun i l=>l=cs (fl i fun y=>cov n le (bt n le) y)) (by omega) ?_ ?_ 0 (by omega) _ rfl
 ·intro rc i l hi hv ih
  have hl:=jh i fun y=>cov n le (bt n le) y
  unfold wiy
  rw[wb,cdt (by omega),wry (by omega) (w9 h) hi,obS,wr1 (by omega)]
  cases hc:cov n le (bt n le) i with
  | true=>rw[cond_true,app1 (by rw[hv,cs_len];omega),obS];exact ih _ (by rw[hv];exact fl_t (P:=fun y=>cov n le (bt n le) y) hc)
  | false=>exact ih _ (by rw[hv];exact fl_f (P:=fun y=>cov n le (bt n le) y) hc)
 ·intro rc l hv
  unfold wiy
  rw[wb,cdf (by omega),wfa,hv]
  rfl
def pw (k:Nat):Nat:=2 ^ k
theorem w2b (k:Nat):pw (k+1)=pw k*2:=by unfold pw;rw[Nat.pow_succ]
theorem xnv (k:Nat):0<pw k:=Nat.pow_pos (by omega)
theorem wls {k:Nat}(hk:k≤10):pw k≤1024:=by
 have:=Nat.pow_le_pow_right (n:=2) (by omega) hk
 simpa [pw] using this
def codeOf (le:Nat→Nat→Bool) (A:List Nat) (x:Nat):Nat→Nat
 | 0=>0
 | k+1=>codeOf le A x k+(if le (A.getD k 0) x then pw k else 0)
theorem wi (le:Nat→Nat→Bool) (A:List Nat) (x k:Nat):codeOf le A x (k+1)=codeOf le A x k+(if le (A.getD k 0) x then pw k else 0):=rfl
theorem wjz (le:Nat→Nat→Bool) (A:List Nat) (x:Nat):∀k,codeOf le A x k<pw k
 | 0=>xnv 0
 | k+1=>by
  have:=wjz le A x k
  rw[wi,w2b]
  split<;>omega
theorem xgi (k:Nat) (hk:k≤10):V20 big 2 (k:Int)=some (((pw k:Nat):Int),()):=by
 unfold V20 wr2
 refine w78 (fun k _=>k.toNat) (fun q o=>∃j:Nat,j≤k∧q=((k-j:Nat):Int)∧o=((pw j:Nat):Int)) ?_ _ _ (by simp;omega) ⟨0,by omega,by simp,rfl⟩
 intro rc q o hv ih
 obtain⟨j,hj,e1,e2⟩:=hv
 subst e1;subst e2
 have hp:=wls (show j≤10 by omega)
 unfold wm0
 by_cases hjk:j<k
 ·rw[cdt (by omega),wr (n:=((k-j:Nat):Int)-1) (by omega) (by omega),wr (n:=((pw j:Nat):Int)*2) (by omega) (by omega)]
  refine ih _ _ ⟨j+1,by omega,by omega, ?_⟩ (by omega)
  rw[w2b];omega
 ·rw[cdf (by omega),wdh,show j=k by omega]
theorem shl1 {k:Nat}(hk:k≤10):shlI IntKind.i64 1 (k:Int)=some (((pw k:Nat):Int)):=by
 have hp:=wls hk
 unfold shlI
 rw[if_neg (by omega),Int.toNat_natCast,show min k IntKind.i64.bits=k from Nat.min_eq_left (by show k≤64;omega),Int.one_mul]
 have e:((2:Int) ^ k)=((pw k:Nat):Int):=by simp[pw]
 rw[e,wr (by omega) (by omega)]
theorem wo {S:List Nat}{k:Nat}(h:k<S.length):S.getD k 0=S[k]:=by rw[List.getD_eq_getElem?_getD,List.getElem?_eq_getElem h];rfl
def Cen (n:Nat) (le:Nat→Nat→Bool) (x y:Nat):Prop:=∀z,z<n→mt n (du le) (mt n le z x) (mt n le z y)=z∧mt n le (mt n (du le) z x) (mt n (du le) z y)=z
noncomputable def cenB (n:Nat) (le:Nat→Nat→Bool) (x:Nat):Bool:=(comp n le x).any fun y=>tv (Cen n le x y)
abbrev P2:=Int×Int×Unit
def lx:List Int→List Int→Bool
 | a::s,b::t=>if a≠b then decide (a<b) else lx s t
 | _,_=>false
def upd (b f:List Int) (g:Bool):List Int:=if g&&(decide (b.length=0)||lx f b) then f else b
def f5 (n:Nat) (le:Nat→Nat→Bool) (o:Nat) (x y z i:Nat):List Int:=[(o:Int),(x:Int),(y:Int),(z:Int),(i:Int)]
theorem xh1 {n:Nat}{P Q:Nat→Bool}(h:∀x,x<n→P x=true→Q x=true){y:Nat}(hy:y<n) (h1:Q y=true) (h2:P y=false):(fl n P).length<(fl n Q).length:=by
 have hm:(fl n P).Sublist (fl n Q):=by
  have e:fl n P=(fl n Q).filter P:=by
   unfold fl
   rw[List.filter_filter]
   refine List.filter_congr fun x hx => ?_
   have:=h x (List.mem_range.1 hx)
   cases hp:P x with
   | true=>simp[this hp]
   | false=>simp
  rw[e];exact List.filter_sublist
 refine Nat.lt_of_le_of_ne hm.length_le fun e => ?_
 have:=hm.eq_of_length e
 have hq:=Go.Gx.fl_inj this hy
 rw[h1,h2]at hq
 exact absurd hq (by simp)
theorem xn3 {n:Nat}{le:Nat→Nat→Bool}(h:LatP n le){x y z:Nat}(hx:x<n) (hy:y<n) (hz:z<n) (h1:ls le x y=true) (h2:ls le y z=true):ls le x z=true:=by
 unfold ls at *
 simp only[Bool.and_eq_true,decide_eq_true_eq]at *
 refine⟨fun e => ?_,h.ord.trans x y z hx hy hz h1.2 h2.2⟩
 subst e
 have:=h.ord.anti x y hx hy h1.1 h1.2;rw[h2.2]at this;exact absurd this (by simp)
theorem xnt {le:Nat→Nat→Bool}{x:Nat}:ls le x x=false:=by unfold ls;simp
theorem wxp {n:Nat}{le:Nat→Nat→Bool}{x y:Nat}(h:cov n le x y=true):ls le x y=true:=by
 unfold cov at h
 exact(Bool.and_eq_true_iff.1 h).1
theorem wao {S:List Nat}{i:Nat}(h:i<S.length):atI (cs S) (i:Int)=some ((S.getD i 0:Nat):Int):=by rw[jo h,wo h]
theorem yg {S:List Nat}{i:Nat}(h:i<S.length):S.getD i 0∈S:=by rw[wo h];exact List.getElem_mem h
theorem xle {n:Nat}{le:Nat→Nat→Bool}(h:LatP n le){x:Nat}(hx:x<n):mt n le x x=x:=by unfold mt;rw[wl6 h.ord hx];rfl
def jnf (m:Nat) (le':Nat→Nat→Bool) (S:List Nat):Nat:=S.foldl (fun j x=>mt m (du le') j x) (bt m le')
theorem wxv {m:Nat}{le':Nat→Nat→Bool}(h:LatP m le'){S:List Nat}(hS:∀s∈S,s<m):jnf m le' S<m:=by
 suffices hh:∀(S:List Nat) (j:Nat),j<m→(∀s∈S,s<m)→S.foldl (fun j x=>mt m (du le') j x) j<m from hh S _ (w9 h) hS
 intro S
 induction S with
 | nil=>intro j hj _;exact hj
 | cons s S ih=>intro j hj hS;exact ih _ (jlt h hj (hS s List.mem_cons_self)) fun t ht=>hS t (List.mem_cons_of_mem _ ht)
def sel (le:Nat→Nat→Bool) (A G B:List Nat) (x:Nat):Nat→List Nat
 | 0=>[]
 | k+1=>if le (A.getD (G.getD k 0) 0) x then sel le A G B x k++[B.getD k 0] else sel le A G B x k
theorem wp6 {m:Nat}{le:Nat→Nat→Bool}{A G B:List Nat}{x:Nat}(hB:∀b∈B,b<m):∀k,k≤B.length→∀s∈sel le A G B x k,s<m
 | 0,_,s,h=>by simp[sel]at h
 | k+1,hk,s,h=>by
  unfold sel at h
  split at h
  ·rcases List.mem_append.1 h with h|h
   ·exact wp6 hB k (by omega) s h
   ·rw[List.mem_singleton]at h;subst h;exact hB _ (yg (by omega))
  ·exact wp6 hB k (by omega) s h
def bmv (m:Nat) (le le':Nat→Nat→Bool) (A G B:List Nat) (x:Nat):Nat:=jnf m le' (sel le A G B x B.length)
theorem wxi {n:Nat}{le:Nat→Nat→Bool}:∀x∈atm n le,x<n:=fun x hx=>(fl_mem.1 hx).1
def LMc (n m:Nat) (le le':Nat→Nat→Bool) (F:List Nat) (x y:Nat):Prop:=F.getD (mt n le x y) 0=mt m le' (F.getD x 0) (F.getD y 0)∧F.getD (mt n (du le) x y) 0=mt m (du le') (F.getD x 0) (F.getD y 0)
structure LMp (n m:Nat) (le le':Nat→Nat→Bool) (F:List Nat):Prop where
 bot:F.getD (bt n le) 0=bt m le'
 top:F.getD (tp n le) 0=tp m le'
 maps:∀x y,x<n→y<n→LMc n m le le' F x y
theorem xen {n m:Nat}{le le':Nat→Nat→Bool}(h:LatP n le) (h':LatP m le'){F:List Nat}(hl:F.length=n) (hF:∀x∈F,x<m) (hhas:(cs F).all (inB m)=true):V96 big (some (lat n le)) (some (lat m le')) (cs F)=some (tv (LMp n m le le' F),()):=by
 have h10:=h.le10
 have b1:bt n le<F.length:=by rw[hl];exact w9 h
 have b2:tp n le<F.length:=by rw[hl];exact xu h
 unfold V96 w5n
 simp only[obS,lat1,mkR_len,cs_len,cdf (show ¬(F.length:Int)≠(n:Int) by omega),xns (cs F) (show(cs F).length≤4294967296 by rw[cs_len];omega),hhas,Bool.not_true,cond_false,wby h,wby h',wya h,wya h',wao b1,wao b2]
 by_cases e1:F.getD (bt n le) 0=bt m le'
 ·rw[cdf (by simp only[e1,ne_eq,not_true_eq_false,not_false_eq_true])]
  by_cases e2:F.getD (tp n le) 0=tp m le'
  ·rw[cdf (by simp only[e2,ne_eq,not_true_eq_false,not_false_eq_true])]
   refine xng n (fun i=>∀x,x<i→∀y,y<n→LMc n m le le' F x y) (by omega) ?_ ?_ 0 (by omega) (by intro x hx;omega)
   ·intro rc i hi hv ih
    unfold wfz
    rw[cs_len,hl,cdt (by omega)]
    refine xnh n (fun j=>∀y,y<j→LMc n m le le' F i y) (by omega) ?_ ?_ 0 (by omega) (by intro x hx;omega)
    ·intro rc2 j hj hv2 ih2
     have l1:mt n le i j<F.length:=by rw[hl];exact h.mlt hi hj
     have l2:mt n (du le) i j<F.length:=by rw[hl];exact jlt h hi hj
     have l3:i<F.length:=by omega
     have l4:j<F.length:=by omega
     have l5:=hF _ (yg l3)
     have l6:=hF _ (yg l4)
     unfold wjp
     simp only[cdt (show(j:Int)<(n:Int) by omega),obS,lat2,lat3,jd hi,jd hj,wao l1,wao l2,wao l3,wao l4,jd l5,jd l6,wr1 (show j≤4611686018427387904 by omega)]
     by_cases c1:F.getD (mt n le i j) 0=mt m le' (F.getD i 0) (F.getD j 0)
     ·rw[cdf (by simp only[c1,ne_eq,not_true_eq_false,not_false_eq_true])]
      by_cases c2:F.getD (mt n (du le) i j) 0=mt m (du le') (F.getD i 0) (F.getD j 0)
      ·rw[cdf (by simp only[c2,ne_eq,not_true_eq_false,not_false_eq_true])]
       exact ih2 (all_lt_succ.2 ⟨hv2,c1,c2⟩)
      ·rw[cdt (show((_:Nat):Int)≠((_:Nat):Int) from fun c=>c2 (Int.ofNat.inj c)),tv_f fun hh=>c2 (hh.maps i j hi hj).2]
     ·rw[cdt (show((_:Nat):Int)≠((_:Nat):Int) from fun c=>c1 (Int.ofNat.inj c)),tv_f fun hh=>c1 (hh.maps i j hi hj).1]
    ·intro rc2 hv2
     unfold wjp
     rw[cdf (by omega),wfy,wr1 (by omega)]
     have ih':=ih (all_lt_succ.2 ⟨hv,hv2⟩)
     rw[hl]at ih'
     exact ih'
   ·intro rc hv
    unfold wfz
    rw[cdf (by omega),y9,tv_t ⟨e1,e2,fun x y hx hy=>hv x hx y hy⟩]
  ·rw[cdt (show((_:Nat):Int)≠((_:Nat):Int) from fun c=>e2 (Int.ofNat.inj c)),tv_f fun hh=>e2 hh.top]
 ·rw[cdt (show((_:Nat):Int)≠((_:Nat):Int) from fun c=>e1 (Int.ofNat.inj c)),tv_f fun hh=>e1 hh.bot]
theorem w5y {m:Nat}{le':Nat→Nat→Bool}(h:BoolP m le'){a y z:Nat}(ha:a<m) (hy:y<m) (hz:z<m) (hc:cov m le' (bt m le') a=true) (hj:le' a (mt m (du le') y z)=true):le' a y=true∨le' a z=true:=by
 have L:=h.lp
 have hls:=wxp hc
 have key:∀w,w<m→le' a w=true∨mt m le' a w=bt m le':=fun w hw=>by
  have l1:=L.mlt ha hw
  by_cases e:mt m le' a w=a
  ·exact .inl (by rw[←e];exact L.m2 ha hw)
  ·by_cases e2:bt m le'=mt m le' a w
   ·exact .inr e2.symm
   ·have c1:ls le' (bt m le') (mt m le' a w)=true:=by unfold ls;simp[e2,wbz L l1]
    have c2:ls le' (mt m le' a w) a=true:=by unfold ls;simp[e,L.m1 ha hw]
    rw[wss l1 c1 c2]at hc
    exact absurd hc (by simp)
 rcases key y hy with e1|e1
 ·exact .inl e1
 ·rcases key z hz with e2|e2
  ·exact .inr e2
  ·exfalso
   have e:=h.dis a y z ha hy hz
   rw[e1,e2,xle L.du (w9 L)]at e
   have lj:=jlt L hy hz
   have:mt m le' a (mt m (du le') y z)=a:=L.as (L.mlt ha lj) ha (L.m1 ha lj) (L.mg ha lj ha (L.ord.refl a ha) hj)
   rw[this]at e
   unfold ls at hls
   simp[e]at hls
abbrev OpT:=Int×List Int×Unit
abbrev AlT:=Int×List OpT×Unit
def SmallA (a:AlT):Prop:=a.2.1.length≤1048576∧∀o∈a.2.1,o.2.1.length≤1048576
def flt (n:Nat) (f:Nat→Nat→Int):Nat→List Int
 | 0=>[]
 | k+1=>flt n f k++mkR n (f k)
theorem wc (n:Nat) (f:Nat→Nat→Int):∀k,(flt n f k).length=k*n
 | 0=>by simp[flt]
 | k+1=>by rw[flt,List.length_append,wc n f k,mkR_len,Nat.succ_mul]
theorem wb1 {i n:Nat}(h1:i≤10) (h2:n≤10):i*n≤100:=by
 have:=Nat.mul_le_mul h1 h2;omega
theorem wrt {n:Nat}{f:Nat→Nat→Int}(h:n≤10):V79 big (mkT n f)=some ((2,flt n f n,()),()):=by
 unfold V79 w49
 rw[mkR_len]
 refine xm5 n (fun i o=>o=((2:Int),flt n f i,())) (by omega) ?_ ?_ 0 (by omega) _ rfl
 ·intro rc i o hi hv ih
  have hl:=wc n f i
  have hn:=wb1 (i:=i) (n:=n) (by omega) h
  subst hv
  unfold wi9
  have e:appI (flt n f i) (mkR n (f i))=some (flt n f (i+1)):=by
   unfold appI
   rw[if_pos (by rw[mkR_len];omega)];rfl
  simp only[cdt (show(i:Int)<(n:Int) by omega),jd hi,obS,e,wr1 (show i≤4611686018427387904 by omega)]
  exact ih _ rfl
 ·intro rc o hv
  unfold wi9
  rw[cdf (by omega),wfm,hv]
abbrev meetF (n:Nat) (le:Nat→Nat→Bool):Nat→Nat→Int:=fun x y=>((mt n le x y:Nat):Int)
def latAlg (n:Nat) (le:Nat→Nat→Bool):AlT:=((n:Int),[(2,flt n (meetF n le) n,()),(2,flt n (meetF n (du le)) n,())],())
theorem w5w {n:Nat}{le:Nat→Nat→Bool}(h:LatP n le):V86 (some (lat n le))=some (latAlg n le,()):=by
 unfold V86 xhk
 simp only[obS,lat1,lat2,lat3,mkR_len,wrt h.le10]
 rfl
theorem wrp {n:Nat}{le:Nat→Nat→Bool}(h:LatP n le):V88 big (pos n le)=some (latAlg n le,()):=by
 have h10:=h.le10
 unfold V88 w5i
 rw[xt (by omega),obS,wb]
 refine xna n (fun i a b=>a=((2:Int),flt n (meetF n le) i,())∧b=((2:Int),flt n (meetF n (du le)) i,())) (by omega) ?_ ?_ 0 (by omega) _ _ ⟨rfl,rfl⟩
 ·intro rc i a b hi hv ih
  obtain⟨e1,e2⟩:=hv
  subst e1;subst e2
  have hl:=wc n (meetF n le) i
  have hl2:=wc n (meetF n (du le)) i
  have hn:=wb1 (i:=i) (n:=n) (by omega) h10
  unfold wfs
  rw[cdt (by omega)]
  refine xnb n (fun j a b=>a=((2:Int),flt n (meetF n le) i++mkR j (meetF n le i),())∧b=((2:Int),flt n (meetF n (du le)) i++mkR j (meetF n (du le) i),())) (by omega) ?_ ?_ 0 (by omega) _ _ ⟨by rw[jcy,List.append_nil],by rw[jcy,List.append_nil]⟩
  ·intro rc2 j a b hj hv2 ih2
   obtain⟨e1,e2⟩:=hv2
   subst e1;subst e2
   have b1:V60 big (pos n le) [(i:Int),(j:Int)]=some (((mt n le i j:Nat):Int),()):=specBoundL h (S:=[i,j]) (by intro s hs;simp at hs;omega) (by simp)
   have b2:V60 big (pos n (du le)) [(i:Int),(j:Int)]=some (((mt n (du le) i j:Nat):Int),()):=specBoundL h.du (S:=[i,j]) (by intro s hs;simp at hs;omega) (by simp)
   unfold wji
   simp only[cdt (show(j:Int)<(n:Int) by omega),b1,b2,obS]
   rw[app1 (by rw[List.length_append,mkR_len];omega),obS,app1 (by rw[List.length_append,mkR_len];omega),obS,wr1 (by omega)]
   exact ih2 _ _ ⟨by rw[jv,List.append_assoc],by rw[jv,List.append_assoc]⟩
  ·intro rc2 a b hv2
   obtain⟨e1,e2⟩:=hv2
   unfold wji
   rw[cdf (by omega),wfr,wr1 (by omega)]
   exact ih _ _ ⟨e1,e2⟩
 ·intro rc a b hv
  obtain⟨e1,e2⟩:=hv
  unfold wfs
  rw[cdf (by omega),y7,e1,e2]
  rfl
abbrev sumF (n:Nat) (le:Nat→Nat→Bool):Nat→Nat→Int:=fun x y=>((bsum n le x y:Nat):Int)
def ringAlg (n:Nat) (le:Nat→Nat→Bool):AlT:=((n:Int),[(2,flt n (sumF n le) n,()),(2,flt n (meetF n le) n,())],())
theorem xll {n:Nat}{le:Nat→Nat→Bool}(h:BoolP n le):V78 big (some (lat n le))=some (mkT n (sumF n le),()):=by
 have h10:=h.lp.le10
 unfold V78 w48
 simp only[wbv h,obS,lat1,mkR_len]
 refine xm3 n (fun i t=>t=mkR i fun x=>mkR n (sumF n le x)) (by omega) ?_ ?_ 0 (by omega) _ rfl
 ·intro rc i t hi hv ih
  unfold wfl
  simp only[cdt (show(i:Int)<(n:Int) by omega),obS,lat1,mkR_len]
  refine xm4 n (fun j r=>r=mkR j (sumF n le i)) (by omega) ?_ ?_ 0 (by omega) _ rfl
  ·intro rc2 j r hj hr ih2
   have cj:=(we h.cmp hj).1
   have ci:=(we h.cmp hi).1
   have l1:=h.lp.mlt hi cj
   have l2:=h.lp.mlt ci hj
   unfold wi7
   simp only[cdt (show(j:Int)<(n:Int) by omega),obS,lat2,lat3,Int.toNat_natCast,jd hi,jd hj,jp hi,jp hj,jd ci,jd cj,jd l1,jd l2,wr1 (show j≤4611686018427387904 by omega)]
   rw[app1 (by rw[hr,mkR_len];omega),obS]
   exact ih2 _ (by rw[hr,jv];rfl)
  ·intro rc2 r hr
   unfold wi7
   rw[cdf (by omega),wfk,app1 (by rw[hv,mkR_len];omega),obS,wr1 (by omega)]
   exact ih _ (by rw[hv,hr,jv])
 ·intro rc t hv
  unfold wfl
  rw[cdf (by omega),y5,hv]
theorem wlt {n:Nat}{le:Nat→Nat→Bool}(h:BoolP n le):V80 (some (lat n le))=some (ringAlg n le,()):=by
 unfold V80 xhi
 simp only[obS,lat1,lat2,mkR_len,xll h,wrt h.lp.le10]
 rfl
theorem wlz {n:Nat}{le:Nat→Nat→Bool}(h:BoolP n le):V83 big (pos n le)=some (ringAlg n le,()):=by
 have h10:=h.lp.le10
 unfold V83 w5d
 rw[wbx h,obS,wb]
 refine xm7 n (fun i a b=>a=((2:Int),flt n (sumF n le) i,())∧b=((2:Int),flt n (meetF n le) i,())) (by omega) ?_ ?_ 0 (by omega) _ _ ⟨rfl,rfl⟩
 ·intro rc i a b hi hv ih
  obtain⟨e1,e2⟩:=hv
  subst e1;subst e2
  have hl:=wc n (meetF n le) i
  have hl2:=wc n (sumF n le) i
  have hn:=wb1 (i:=i) (n:=n) (by omega) h10
  unfold wfp
  rw[cdt (by omega)]
  refine xm8 n (fun j a b=>a=((2:Int),flt n (sumF n le) i++mkR j (sumF n le i),())∧b=((2:Int),flt n (meetF n le) i++mkR j (meetF n le i),())) (by omega) ?_ ?_ 0 (by omega) _ _ ⟨by rw[jcy,List.append_nil],by rw[jcy,List.append_nil]⟩
  ·intro rc2 j a b hj hv2 ih2
   obtain⟨e1,e2⟩:=hv2
   subst e1;subst e2
   unfold wjc
   simp only[cdt (show(j:Int)<(n:Int) by omega),w6e h hi hj,wt h.lp hi hj,obS]
   rw[app1 (by rw[List.length_append,mkR_len];omega),obS,app1 (by rw[List.length_append,mkR_len];omega),obS,wr1 (by omega)]
   exact ih2 _ _ ⟨by rw[jv,List.append_assoc],by rw[jv,List.append_assoc]⟩
  ·intro rc2 a b hv2
   obtain⟨e1,e2⟩:=hv2
   unfold wjc
   rw[cdf (by omega),wfo,wr1 (by omega)]
   exact ih _ _ ⟨e1,e2⟩
 ·intro rc a b hv
  obtain⟨e1,e2⟩:=hv
  unfold wfp
  rw[cdf (by omega),y6,e1,e2]
  rfl
structure Pt (n:Nat) (P:Nat→Nat):Prop where
 lo:∀x,x<n→P x≤x
 id:∀x,x<n→P (P x)=P x
theorem Pt.lt {n:Nat}{P:Nat→Nat}(h:Pt n P){x:Nat}(hx:x<n):P x<n:=Nat.lt_of_le_of_lt (h.lo x hx) hx
def Lep (n:Nat) (P C:Nat→Nat):Prop:=∀x,x<n→C (P x)=C x
theorem Lep.refl {n:Nat}{P:Nat→Nat}(h:Pt n P):Lep n P P:=h.id
theorem Lep.trans {n:Nat}{P Q C:Nat→Nat}(h:Pt n P) (h1:Lep n P Q) (h2:Lep n Q C):Lep n P C:=fun x hx=>by
 have e1:=h1 x hx
 have e2:=h2 (P x) (h.lt hx)
 have e3:=h2 x hx
 rw[←e2,e1,e3]
def opsL (n:Nat) (fs:List (Nat→Nat→Nat)):List OpT:=fs.map fun f=>((2:Int),flt n (fun x y=>((f x y:Nat):Int)) n,())
def algL (n:Nat) (fs:List (Nat→Nat→Nat)):AlT:=((n:Int),opsL n fs,())
def Opn (n:Nat) (fs:List (Nat→Nat→Nat)):Prop:=∀f∈fs,∀x y,x<n→y<n→f x y<n
theorem w57 {n i:Nat}(h:i<n*n):i / n<n∧i % n<n:=by
 have hn:0<n:=by
  rcases Nat.eq_zero_or_pos n with e|e
  ·subst e;omega
  ·exact e
 exact⟨Nat.div_lt_of_lt_mul h,Nat.mod_lt _ hn⟩
theorem w58 {n x y:Nat}(hx:x<n) (hy:y<n):x*n+y<n*n∧(x*n+y) / n=x∧(x*n+y) % n=y:=by
 have hn:0<n:=by omega
 refine⟨?_, ?_, ?_⟩
 ·have:=Nat.mul_le_mul_right n (show x+1≤n by omega)
  rw[Nat.succ_mul]at this;omega
 ·rw[Nat.mul_comm,Nat.mul_add_div hn,Nat.div_eq_of_lt hy,Nat.add_zero]
 ·rw[Nat.mul_comm,Nat.mul_add_mod,Nat.mod_eq_of_lt hy]
theorem wge {n:Nat}{f:Nat→Nat→Int}(hn:0<n):∀{k i:Nat},i<k*n→(flt n f k)[i]? = some (f (i / n) (i % n))
 | 0,i,h=>by omega
 | k+1,i,h=>by
  have hl:=wc n f k
  rw[Nat.succ_mul]at h
  unfold flt
  by_cases c:i<k*n
  ·rw[List.getElem?_append_left (by omega)];exact wge hn c
  ·obtain⟨j,rfl⟩:∃j,i=n*k+j:=⟨i-n*k,by rw[Nat.mul_comm n k];omega⟩
   have h2:j<n:=by rw[Nat.mul_comm n k]at h;omega
   have h3:n*k+j-k*n=j:=by rw[Nat.mul_comm n k];omega
   have e1:(n*k+j) / n=k:=by rw[Nat.mul_add_div hn,Nat.div_eq_of_lt h2,Nat.add_zero]
   have e2:(n*k+j) % n=j:=by rw[Nat.mul_add_mod,Nat.mod_eq_of_lt h2]
   rw[List.getElem?_append_right (by omega),hl,h3,jp h2,e1,e2]
theorem xlg (n:Nat) (fs:List (Nat→Nat→Nat)):(opsL n fs).length=fs.length:=List.length_map _
theorem wj5 {n:Nat}{fs:List (Nat→Nat→Nat)}{t:Nat}(h:t<fs.length):atI (opsL n fs) (t:Int)=some ((2:Int),flt n (fun x y=>((fs[t] x y:Nat):Int)) n,()):=by
 rw[jf _ t (by rw[xlg];exact h)];simp[opsL]
theorem xes {n:Nat}{f:Nat→Nat→Nat}{i:Nat}(h:i<n*n):atI (flt n (fun x y=>((f x y:Nat):Int)) n) (i:Int)=some ((f (i / n) (i % n):Nat):Int):=by
 have hn:0<n:=Nat.lt_of_le_of_lt (Nat.zero_le _) (w57 h).1
 rw[jy,wge hn h]
theorem xev {n:Nat}{fs:List (Nat→Nat→Nat)}(h10:n≤10){t x y:Nat}(ht:t<fs.length) (hx:x<n) (hy:y<n):V126 big (algL n fs) (t:Int) [(x:Int),(y:Int)]=some (((fs[t] x y:Nat):Int),()):=by
 have hnn:=wb1 (i:=n) (n:=n) h10 h10
 obtain⟨a1,a2,a3⟩:=w58 hx hy
 unfold V126 wt7
 refine xiq 2 (fun k v=>v=if k=0 then(0:Int) else if k=1 then(x:Int) else((x*n+y:Nat):Int)) (by omega) ?_ ?_ 0 (by omega) _ (by simp)
 ·intro rc k v hk hv ih
  have hk2:k=0∨k=1:=by omega
  unfold wc6
  rcases hk2 with rfl|rfl
  ·rw[if_pos rfl]at hv
   subst hv
   rw[cdt (by simp),show atI [(x:Int),(y:Int)] ((0:Nat):Int)=some (x:Int) from rfl,obS,Int.zero_mul,wr (n:=0) (by omega) (by omega),wr (by omega) (by omega),wr1 (by omega)]
   exact ih _ (by simp)
  ·rw[if_neg (by omega),if_pos rfl]at hv
   subst hv
   rw[cdt (by simp),show atI [(x:Int),(y:Int)] ((1:Nat):Int)=some (y:Int) from rfl,obS,show(x:Int)*(algL n fs).1=((x*n:Nat):Int) from(Int.natCast_mul x n).symm,wr (n:=((x*n:Nat):Int)) (by omega) (by omega),wr (by omega) (by omega),wr1 (by omega)]
   exact ih _ (by simp)
 ·intro rc v hv
  rw[if_neg (by omega),if_neg (by omega)]at hv
  unfold wc6
  rw[cdf (by simp),z8,show(algL n fs).2.1=opsL n fs from rfl,wj5 ht,obS,hv,xes a1,a2,a3]
  rfl
theorem xlc {n:Nat}{f:Nat→Nat→Int}(hn:0<n) (k:Nat):flt n f k=mkR (k*n) fun j=>f (j / n) (j % n) :=
 jci (wc n f k) fun i hi=>by
  have:=wge (f:=f) hn (show i<k*n by rw[←wc n f k];exact hi)
  rw[List.getElem?_eq_getElem hi]at this
  exact Option.some.inj this
theorem wx4 {n:Nat}{le:Nat→Nat→Bool}(hn:n≤1048576):V92 big (mkT n le)=some (pos n le,()):=by
 unfold V92 w5m
 rw[mkR_len]
 refine xnd n (fun y p=>p=(mkR y fun y=>cs (fl n fun x=>le x y),())) (by omega) ?_ ?_ 0 (by omega) _ rfl
 ·rintro rc y p hy rfl ih
  unfold wfv
  rw[cdt (by omega),mkR_len]
  refine xne n (fun x l=>l=cs (fl x fun x=>le x y)) (by omega) ?_ ?_ 0 (by omega) _ rfl
  ·intro rc2 x l hx hv ih2
   have hl:=jh x fun x=>le x y
   unfold wjl
   rw[cdt (by omega),jd hx,obS,jd hy,obS,wr1 (by omega)]
   cases c:le x y with
   | true=>rw[cond_true,app1 (by rw[hv,cs_len];omega),obS];exact ih2 _ (by rw[hv];exact fl_t (P:=fun x=>le x y) c)
   | false=>exact ih2 _ (by rw[hv];exact fl_f (P:=fun x=>le x y) c)
  ·intro rc2 l hv
   unfold wjl
   rw[cdf (by omega),wfu,app1 (by rw[mkR_len];omega),obS,wr1 (by omega)]
   exact ih _ (by rw[hv,jv])
 ·rintro rc p rfl
  unfold wfv
  rw[cdf (by omega),y8]
  rfl
inductive Wd where
 | v (n:Int)
 | op (g:Int) (a b:Wd)
def Wd.fl:Wd→List Int
 | .v n=>[n]
 | .op g a b=>g::(a.fl++b.fl)
def Wd.hd:Wd→Int
 | .v n=>n
 | .op g _ _=>g
def Wd.ok:Wd→Prop
 | .v n=>0≤n∧n<5
 | .op g a b=>(g = -1∨g = -2)∧a.ok∧b.ok
theorem Wd.pos:∀A:Wd,0<A.fl.length
 | .v n=>by simp[Wd.fl]
 | .op g a b=>by simp[Wd.fl]
def wle:Wd→Wd→Bool
 | .v n,.v m=>decide (n=m)
 | .v n,.op h c d=>if h = -1 then wle (.v n) c&&wle (.v n) d else wle (.v n) c||wle (.v n) d
 | .op g a b,.v m=>if g = -2 then wle a (.v m)&&wle b (.v m) else wle a (.v m)||wle b (.v m)
 | .op g a b,.op h c d=>if g = -2 then wle a (.op h c d)&&wle b (.op h c d) else if h = -1 then wle (.op g a b) c&&wle (.op g a b) d else(wle a (.op h c d)||wle b (.op h c d))||(wle (.op g a b) c||wle (.op g a b) d)
  termination_by A B=>A.fl.length+B.fl.length
  decreasing_by all_goals (simp[Wd.fl];try omega)
def At (s:List Int) (i:Nat) (A:Wd):Prop:=A.ok∧∃r,s.drop i=A.fl++r
theorem At.lt {s:List Int}{i:Nat}{A:Wd}(h:At s i A):i+A.fl.length≤s.length:=by
 obtain⟨_,r,e⟩:=h
 have:=congrArg List.length e
 have:=A.pos
 simp only[List.length_drop,List.length_append]at *
 omega
theorem At.head {s:List Int}{i:Nat}{A:Wd}(h:At s i A):atI s (i:Int)=some A.hd:=by
 have hl:=h.lt
 have hp:=A.pos
 obtain⟨_,r,e⟩:=h
 rw[jy]
 have:s[i]? = (s.drop i)[0]? := by rw[List.getElem?_drop];rfl
 rw[this,e]
 cases A<;>simp[Wd.fl,Wd.hd]
def ea (E:List P2) (i:Nat):Nat:=(E.getD i (0,0,())).1.toNat
def eb (E:List P2) (i:Nat):Nat:=(E.getD i (0,0,())).2.1.toNat
theorem xgb (n:Nat) (P:Nat→Bool):(fl n P).Nodup:=List.nodup_range.filter _
theorem wj7 {α:Type}{L:List α}{p:α→Bool}{i:Nat}(hi:i<L.length) (h:∀x∈L.take i,p x=true) (hp:p L[i]=true):∀x∈L.take (i+1),p x=true:=by
 intro x hx
 rw[List.take_succ_eq_append_getElem hi]at hx
 rcases List.mem_append.1 hx with hx|hx
 ·exact h x hx
 ·rw[List.mem_singleton]at hx
  rw[hx];exact hp
theorem wmc {α:Type}{L:List α}{p:α→Bool}(h:∀x∈L.take L.length,p x=true):L.all p=true:=by
 rw[List.take_length]at h
 exact List.all_eq_true.2 h
theorem wmb {α:Type}{L:List α}{p:α→Bool}{i:Nat}(hi:i<L.length) (hp:p L[i]=false):L.all p=false:=by
 rw[List.all_eq_false]
 exact⟨_,List.getElem_mem hi,by rw[hp];exact Bool.false_ne_true⟩
theorem w18 {n j:Nat}(h:n≤8) (hj:j≤3):n ^ j≤512 :=
 Nat.le_trans (Nat.pow_le_pow_left h j) (Nat.le_trans (Nat.pow_le_pow_right (by omega) hj) (by decide))
theorem wrm {n:Nat}(h:n≤8) (k:Nat) (hk:k≤3):V98 big (n:Int) (k:Int)=some (((n ^ k:Nat):Int),()):=by
 unfold V98 w5o
 refine xni (fun k _=>k.toNat) (fun q o=>∃j:Nat,j≤k∧q=((k-j:Nat):Int)∧o=((n ^ j:Nat):Int)) ?_ _ _ (by simp;omega) ⟨0,by omega,by simp,rfl⟩
 intro rc q o hv ih
 obtain⟨j,hj,e1,e2⟩:=hv
 subst e1;subst e2
 unfold wxa
 by_cases hjk:j<k
 ·have hp:=w18 h (show j+1≤3 by omega)
  rw[Nat.pow_succ]at hp
  rw[cdt (by omega),wr (n:=((k-j:Nat):Int)-1) (by omega) (by omega),←Int.natCast_mul,wr (n:=((n ^ j*n:Nat):Int)) (by omega) (by omega)]
  exact ih _ _ ⟨j+1,by omega,by omega,by rw[Nat.pow_succ]⟩ (by omega)
 ·rw[cdf (by omega),wjr,show j=k by omega]
theorem w2e {n:Nat}(h:n≤8) (k:Nat) (hk:k≤3):V20 big (n:Int) (k:Int)=some (((n ^ k:Nat):Int),()):=by
 unfold V20 wr2
 refine w78 (fun k _=>k.toNat) (fun q o=>∃j:Nat,j≤k∧q=((k-j:Nat):Int)∧o=((n ^ j:Nat):Int)) ?_ _ _ (by simp;omega) ⟨0,by omega,by simp,rfl⟩
 intro rc q o hv ih
 obtain⟨j,hj,e1,e2⟩:=hv
 subst e1;subst e2
 unfold wm0
 by_cases hjk:j<k
 ·have hp:=w18 h (show j+1≤3 by omega)
  rw[Nat.pow_succ]at hp
  rw[cdt (by omega),wr (n:=((k-j:Nat):Int)-1) (by omega) (by omega),←Int.natCast_mul,wr (n:=((n ^ j*n:Nat):Int)) (by omega) (by omega)]
  exact ih _ _ ⟨j+1,by omega,by omega,by rw[Nat.pow_succ]⟩ (by omega)
 ·rw[cdf (by omega),wdh,show j=k by omega]
def opB (n:Nat) (f:OpT):Bool:=decide (0≤f.1∧f.1≤3∧f.2.1.length=n ^ f.1.toNat)&&f.2.1.all (inB n)
theorem xgg {n:Nat}(h:n≤8) (f:OpT) (hl:f.2.1.length≤1048576):V99 f (n:Int)=some (opB n f,()):=by
 unfold V99 xhu opB
 by_cases h0:0≤f.1
 ·rw[cdt h0]
  by_cases h3:f.1≤3
  ·rw[cdt h3]
   have e:=wrm h f.1.toNat (by omega)
   rw[show((f.1.toNat:Nat):Int)=f.1 by omega]at e
   rw[e,obS]
   by_cases hn:f.2.1.length=n ^ f.1.toNat
   ·rw[cdt (by omega),wj2 n f.2.1 (by omega),obS,decide_eq_true ⟨h0,h3,hn⟩,Bool.true_and]
   ·rw[cdf (by omega),decide_eq_false (fun c=>hn c.2.2),Bool.false_and]
  ·rw[cdf h3,decide_eq_false (fun c=>h3 c.2.1),Bool.false_and]
 ·rw[cdf h0,decide_eq_false (fun c=>h0 c.1),Bool.false_and]
theorem xgh {n:Nat}(h:n≤8) (f:OpT) (hl:f.2.1.length≤1048576):V122 big (n:Int) f=some (opB n f,()):=by
 unfold V122 wtz opB
 rw[wgf,obS]
 by_cases h03:0≤f.1∧f.1≤3
 ·rw[decide_eq_true h03,Bool.not_true,cond_false]
  have e:=w2e h f.1.toNat (by omega)
  rw[show((f.1.toNat:Nat):Int)=f.1 by omega]at e
  rw[e,obS]
  by_cases hn:f.2.1.length=n ^ f.1.toNat
  ·rw[cdf (by omega),decide_eq_true ⟨h03.1,h03.2,hn⟩,Bool.true_and]
   refine xim f.2.1.length (fun i=>∀x∈f.2.1.take i,inB n x=true) (by omega) ?_ ?_ 0 (by omega) (by simp)
   ·intro rc i hi hv ih
    unfold wcy
    rw[cdt (by omega),jf _ i hi,obS,wr (n:=(n:Int)-1) (by omega) (by omega),wgf,obS,wr1 (by omega)]
    by_cases hb:inB n f.2.1[i]=true
    ·have hb2:=hb
     unfold inB at hb2
     have hb3:=of_decide_eq_true hb2
     rw[decide_eq_true (show(0≤f.2.1[i]∧f.2.1[i]≤(n:Int)-1) by omega),Bool.not_true,cond_false]
     exact ih (wj7 hi hv hb)
    ·have hb2:inB n f.2.1[i]=false:=by simpa using hb
     rw[wmb hi hb2]
     unfold inB at hb2
     have hb3:=of_decide_eq_false hb2
     rw[decide_eq_false (show ¬(0≤f.2.1[i]∧f.2.1[i]≤(n:Int)-1) by omega),Bool.not_false,cond_true]
   ·intro rc hv
    unfold wcy
    rw[cdf (by omega),z4,wmc hv]
  ·rw[cdt (by omega),decide_eq_false (fun c=>hn c.2.2),Bool.false_and]
 ·rw[decide_eq_false h03,Bool.not_false,cond_true,decide_eq_false (fun c=>h03 ⟨c.1,c.2.1⟩),Bool.false_and]
def algB (a:AlT):Bool:=decide (1≤a.1∧a.1≤8∧a.2.1.length≤4)&&a.2.1.all (opB a.1.toNat)
theorem wj3 (a:AlT) (h:SmallA a):V100 big a=some (algB a,()):=by
 unfold V100 wsv algB
 by_cases h1:a.1<1
 ·rw[cdt h1,decide_eq_false (by omega),Bool.false_and]
 ·by_cases h8:8<a.1
  ·rw[cdf h1,cdt h8,decide_eq_false (by omega),Bool.false_and]
  ·by_cases h4:4<a.2.1.length
   ·rw[cdf h1,cdf h8,cdt (by omega),decide_eq_false (by omega),Bool.false_and]
   ·rw[cdf h1,cdf h8,cdf (by omega),decide_eq_true (by omega),Bool.true_and]
    refine xh4 a.2.1.length (fun i=>∀x∈a.2.1.take i,opB a.1.toNat x=true) (by omega) ?_ ?_ 0 (by omega) (by simp)
    ·intro rc i hi hv ih
     have e:=xgg (n:=a.1.toNat) (by omega) a.2.1[i] (h.2 _ (List.getElem_mem hi))
     rw[show((a.1.toNat:Nat):Int)=a.1 by omega]at e
     unfold wb8
     rw[cdt (by omega),jf _ i hi,obS,e,obS,wr1 (by omega)]
     cases hb:opB a.1.toNat a.2.1[i] with
     | true=>exact ih (wj7 hi hv hb)
     | false=>rw[wmb hi hb];rfl
    ·intro rc hv
     unfold wb8
     rw[cdf (by omega),zo,wmc hv]
theorem w59 (a:AlT) (h:SmallA a):V123 big a=some (algB a,()):=by
 unfold V123 wt1 algB
 rw[wgf,obS]
 by_cases h18:1≤a.1∧a.1≤8
 ·rw[decide_eq_true h18,Bool.not_true,cond_false]
  by_cases h4:4<a.2.1.length
  ·rw[cdt (by omega),decide_eq_false (by omega),Bool.false_and]
  ·rw[cdf (by omega),decide_eq_true (by omega),Bool.true_and]
   refine xin a.2.1.length (fun i=>∀x∈a.2.1.take i,opB a.1.toNat x=true) (by omega) ?_ ?_ 0 (by omega) (by simp)
   ·intro rc i hi hv ih
    have e:=xgh (n:=a.1.toNat) (by omega) a.2.1[i] (h.2 _ (List.getElem_mem hi))
    rw[show((a.1.toNat:Nat):Int)=a.1 by omega]at e
    unfold wc0
    rw[cdt (by omega),jf _ i hi,obS,e,obS,wr1 (by omega)]
    cases hb:opB a.1.toNat a.2.1[i] with
    | true=>exact ih (wj7 hi hv hb)
    | false=>rw[wmb hi hb];rfl
   ·intro rc hv
    unfold wc0
    rw[cdf (by omega),z5,wmc hv]
 ·rw[decide_eq_false h18,Bool.not_false,cond_true,decide_eq_false (by omega),Bool.false_and]
theorem w6a (a:AlT) (h:a.2.1.length≤1048576):V124 big a=some (a.2.1.map (·.1),()):=by
 unfold V124 wt3
 refine xio a.2.1.length (fun i l=>l=(a.2.1.take i).map (·.1)) (by omega) ?_ ?_ 0 (by omega) _ rfl
 ·rintro rc i l hi rfl ih
  unfold wc2
  rw[cdt (by omega),jf _ i hi,obS,app1 (by rw[List.length_map,List.length_take];omega),obS,wr1 (by omega)]
  exact ih _ (by rw[List.take_succ_eq_append_getElem hi,List.map_append];rfl)
 ·rintro rc l rfl
  unfold wc2
  rw[cdf (by omega),z6,List.take_length]
theorem wp9 (a:AlT) (h:a.2.1.length≤1048576):V101 big a=some (a.2.1.map (·.1),()):=by
 unfold V101 wsx
 refine xh5 a.2.1.length (fun i l=>l=(a.2.1.take i).map (·.1)) (by omega) ?_ ?_ 0 (by omega) _ rfl
 ·rintro rc i l hi rfl ih
  unfold wca
  rw[cdt (by omega),jf _ i hi,obS,app1 (by rw[List.length_map,List.length_take];omega),obS,wr1 (by omega)]
  exact ih _ (by rw[List.take_succ_eq_append_getElem hi,List.map_append];rfl)
 ·rintro rc l rfl
  unfold wca
  rw[cdf (by omega),zp,List.take_length]
theorem wly (a b:AlT) (h:SmallA a):V104 big a b=some (decide (a=b),()):=by
 have h1:=h.1
 unfold V104 ws2
 by_cases e1:a.1=b.1
 ·rw[cdf (fun c=>c e1)]
  by_cases e2:a.2.1.length=b.2.1.length
  ·rw[cdf (by omega)]
   refine xh9 a.2.1.length (fun i=>a.2.1.take i=b.2.1.take i) (by omega) ?_ ?_ 0 (by omega) rfl
   ·intro rc i hi hv ih
    have hib:i<b.2.1.length:=by omega
    unfold wch
    rw[cdt (by omega),jf _ i hi,obS,jf _ i hib,obS]
    by_cases c1:a.2.1[i].1=b.2.1[i].1
    ·rw[cdf (fun c=>c c1),obS,wb4 _ _ (by have:=h.2 _ (List.getElem_mem hi);omega),obS,wr1 (by omega)]
     by_cases c2:a.2.1[i].2.1=b.2.1[i].2.1
     ·rw[decide_eq_true c2,Bool.not_true,cond_false]
      refine ih ?_
      rw[List.take_succ_eq_append_getElem hi,List.take_succ_eq_append_getElem hib,hv,show a.2.1[i]=b.2.1[i] from Prod.ext c1 (Prod.ext c2 rfl)]
     ·rw[decide_eq_false c2,Bool.not_false,cond_true,decide_eq_false]
      intro e
      subst e
      exact c2 rfl
    ·rw[cdt c1,decide_eq_false]
     intro e
     subst e
     exact c1 rfl
   ·intro rc hv
    unfold wch
    rw[List.take_length,e2,List.take_length]at hv
    rw[cdf (by omega),zv,decide_eq_true]
    exact Prod.ext e1 (Prod.ext hv rfl)
  ·rw[cdt (by omega),decide_eq_false]
   intro e
   subst e
   exact e2 rfl
 ·rw[cdt e1,decide_eq_false]
  intro e
  subst e
  exact e1 rfl
theorem xk3 {a:AlT}(h:algB a=true) (ht:a.2.1.map (·.1)=[2,2]):∃n f g,1≤n∧n≤8∧Opn n [f,g]∧a=algL n [f,g]:=by
 unfold algB at h
 rw[Bool.and_eq_true]at h
 obtain⟨h1,h2⟩:=h
 have h1:=of_decide_eq_true h1
 obtain⟨m,ops,u⟩:=a
 simp only at h1 h2 ht
 obtain⟨n,rfl⟩:∃n:Nat,m=(n:Int):=⟨m.toNat,by omega⟩
 simp only[Int.toNat_natCast]at h2
 have one:∀o:OpT,o.1=2→opB n o=true→∃f:Nat→Nat→Nat,(∀x y,x<n→y<n→f x y<n)∧o=((2:Int),flt n (fun x y=>((f x y:Nat):Int)) n,()):=by
  intro o ho hb
  unfold opB at hb
  rw[Bool.and_eq_true]at hb
  obtain⟨b1,b2⟩:=hb
  have b1:=of_decide_eq_true b1
  rw[ho,show(2:Int).toNat=2 from rfl,Nat.pow_two]at b1
  have hl:=b1.2.2
  have b3:=List.all_eq_true.1 b2
  have key:∀i,(hi:i<o.2.1.length)→0≤o.2.1[i]∧o.2.1[i]<n:=fun i hi=>of_decide_eq_true (b3 _ (List.getElem_mem hi))
  refine⟨fun x y=>(o.2.1.getD (x*n+y) 0).toNat,fun x y hx hy => ?_, ?_⟩
  ·have hi:x*n+y<o.2.1.length:=by rw[hl];exact(w58 hx hy).1
   have:=key _ hi
   simp only[List.getD_eq_getElem?_getD,List.getElem?_eq_getElem hi,Option.getD_some]
   omega
  ·refine Prod.ext ho (Prod.ext ?_ rfl)
   have hn:0<n:=by omega
   rw[xlc hn]
   refine jci hl fun i hi => ?_
   have:=key _ hi
   have e:i / n*n+i % n=i:=by rw[Nat.mul_comm];exact Nat.div_add_mod i n
   simp only[e,List.getD_eq_getElem?_getD,List.getElem?_eq_getElem hi,Option.getD_some]
   omega
 rcases ops with _|⟨o1,_|⟨o2,_|⟨o3,r⟩⟩⟩
 ·simp at ht
 ·simp at ht
 rotate_left
 ·simp at ht
 ·simp only[List.map_cons,List.map_nil,List.cons.injEq,and_true]at ht
  simp only[List.all_cons,List.all_nil,Bool.and_true,Bool.and_eq_true]at h2
  obtain⟨f,hf,ef⟩:=one o1 ht.1 h2.1
  obtain⟨g,hg,eg⟩:=one o2 ht.2 h2.2
  refine⟨n,f,g,by omega,by omega, ?_, ?_⟩
  ·intro k hk
   rcases List.mem_cons.1 hk with rfl|hk
   ·exact hf
   ·rw[List.mem_singleton]at hk
    subst hk
    exact hg
  ·rw[ef,eg];rfl
def omF (g:Nat→Nat→Nat) (i j x y:Nat):Bool:=if x<i∨(x=i∧y<j) then decide (g x y=x) else false
theorem wgg {n:Nat}{g:Nat→Nat→Nat}(h8:n≤8):V103 big (n:Int) (flt n (fun x y=>((g x y:Nat):Int)) n)=some (mkT n fun x y=>decide (g x y=x),()):=by
 have hnn:=wb1 (i:=n) (n:=n) (by omega) (by omega)
 unfold V103 ws1
 rw[wb3 (by omega),obS]
 simp only[mkR_len]
 refine xh7 n (fun i o=>o=mkT n fun x y=>if x<i then decide (g x y=x) else false) (by omega) ?_ ?_ 0 (by omega) _ (jw fun x y _ _=>by rw[if_neg (by omega)])
 ·rintro rc i o hi rfl ih
  unfold zu
  rw[cdt (by omega),mkR_len]
  refine xh8 n (fun j o=>o=mkT n (omF g i j)) (by omega) ?_ ?_ 0 (by omega) _ (jw fun x y _ _=>by simp[omF])
  ·rintro rc2 j o hj rfl ih2
   obtain⟨a1,a2,a3⟩:=w58 hi hj
   have hij:i*n≤n*n:=Nat.mul_le_mul_right n (by omega)
   have e0:IntKind.i64.wrap (IntKind.i64.wrap ((i:Int)*(n:Int))+(j:Int))=((i*n+j:Nat):Int):=by
    rw[←Int.natCast_mul,wr (n:=((i*n:Nat):Int)) (by omega) (by omega),wr (by omega) (by omega)];omega
   have e1:=xes (f:=g) a1
   rw[a2,a3]at e1
   unfold wcf
   simp only[cdt (show(j:Int)<(n:Int) by omega),jd hi,obS,Int.toNat_natCast,jp hi,e0,e1,jd hj,jp hj,wr1 (show j≤4611686018427387904 by omega)]
   refine ih2 _ ?_
   rw[wro]
   refine jw fun x y hx hy => ?_
   unfold omF
   by_cases c:x=i∧y=j
   ·obtain⟨rfl,rfl⟩:=c
    rw[if_pos ⟨rfl,rfl⟩,if_pos (.inr ⟨rfl,by omega⟩)]
    exact decide_eq_decide.2 (by omega)
   ·rw[if_neg c]
    by_cases c2:x<i∨(x=i∧y<j)
    ·rw[if_pos c2,if_pos (by omega)]
    ·rw[if_neg c2,if_neg (by omega)]
  ·rintro rc2 o rfl
   unfold wcf
   rw[cdf (by omega),zt,wr1 (by omega)]
   refine ih _ (jw fun x y hx hy => ?_)
   unfold omF
   by_cases c:x<i∨(x=i∧y<n)
   ·rw[if_pos c,if_pos (by omega)]
   ·rw[if_neg c,if_neg (by omega)]
 ·rintro rc o rfl
  unfold zu
  rw[cdf (by omega),xe,jw fun x y hx hy=>by rw[if_pos hx]]
theorem w2c {m:Nat}{le:Nat→Nat→Bool}{f g:Nat→Nat→Nat}(e:ringAlg m le=algL m [f,g]):flt m (sumF m le) m=flt m (fun x y=>((f x y:Nat):Int)) m∧flt m (meetF m le) m=flt m (fun x y=>((g x y:Nat):Int)) m:=by
 have e2:[((2:Int),flt m (sumF m le) m,()),((2:Int),flt m (meetF m le) m,())]=[((2:Int),flt m (fun x y=>((f x y:Nat):Int)) m,()),((2:Int),flt m (fun x y=>((g x y:Nat):Int)) m,())]:=congrArg (fun a:AlT=>a.2.1) e
 simp only[List.cons.injEq,Prod.mk.injEq,true_and,and_true]at e2
 exact e2
theorem specRingLoop {n:Nat}{f g:Nat→Nat→Nat}(n8:n≤8){res:Option (((List (List Int)×Unit)×(Bool×Unit))×Unit)}(hres:wl (algL n [f,g]) ([],()) (pos n fun x y=>decide (g x y=x))=res):wk2 big (algL n [f,g]) ([],()) ([],()) (0:Int)=res:=by
 refine xir n (fun y p=>p=(mkR y fun y=>cs (fl n fun x=>decide (g x y=x)),())) (by omega) ?_ ?_ 0 (by omega) _ rfl
 ·rintro rc y p hy rfl ih
  unfold wab
  rw[show(algL n [f,g]).1=(n:Int) from rfl,cdt (by omega)]
  refine xis n (fun x l=>l=cs (fl x fun x=>decide (g x y=x))) (by omega) ?_ ?_ 0 (by omega) _ rfl
  ·intro rc2 x l hx hv ih2
   have hl:=jh x fun x=>decide (g x y=x)
   have e1:V126 big (algL n [f,g]) 1 [(x:Int),(y:Int)]=some (((g x y:Nat):Int),()):=xev (fs:=[f,g]) (t:=1) (by omega) (by simp) hx hy
   unfold wc9
   rw[show(algL n [f,g]).1=(n:Int) from rfl,cdt (by omega),e1,obS,wr1 (by omega)]
   by_cases c:g x y=x
   ·rw[cdt (congrArg Nat.cast c),app1 (by rw[hv,cs_len];omega),obS]
    exact ih2 _ (by rw[hv];exact fl_t (P:=fun x=>decide (g x y=x)) (decide_eq_true c))
   ·rw[cdf (show ¬((g x y:Nat):Int)=(x:Int) by omega)]
    exact ih2 _ (by rw[hv];exact fl_f (P:=fun x=>decide (g x y=x)) (decide_eq_false c))
  ·intro rc2 l hv
   unfold wc9
   rw[show(algL n [f,g]).1=(n:Int) from rfl,cdf (by omega),waa,app1 (by rw[mkR_len];omega),obS,wr1 (by omega)]
   exact ih _ (by rw[hv,jv])
 ·rintro rc p rfl
  unfold wab
  rw[show(algL n [f,g]).1=(n:Int) from rfl,cdf (by omega)]
  exact hres
theorem ringEnd {m:Nat}{le:Nat→Nat→Bool}{f g:Nat→Nat→Nat}(h:BoolP m le) (n8:m≤8) (g1:V70 (pos m le)=some (true,())):wl (algL m [f,g]) ([],()) (pos m le)=some (bif decide (ringAlg m le=algL m [f,g]) then(pos m le,true,()) else((([]:List (List Int)),()),false,()),()):=by
 have hnn:=wb1 (i:=m) (n:=m) (by omega) (by omega)
 have o0:atI (algL m [f,g]).2.1 (0:Int)=some ((2:Int),flt m (fun x y=>((f x y:Nat):Int)) m,()):=wj5 (fs:=[f,g]) (t:=0) (by simp)
 have o1:atI (algL m [f,g]).2.1 (1:Int)=some ((2:Int),flt m (fun x y=>((g x y:Nat):Int)) m,()):=wj5 (fs:=[f,g]) (t:=1) (by simp)
 have r0:atI (ringAlg m le).2.1 (0:Int)=some ((2:Int),flt m (sumF m le) m,()):=rfl
 have r1:atI (ringAlg m le).2.1 (1:Int)=some ((2:Int),flt m (meetF m le) m,()):=rfl
 have q0:(ringAlg m le).2.1[(0:Int).toNat]? = some ((2:Int),flt m (sumF m le) m,()):=rfl
 have q1:(ringAlg m le).2.1[(1:Int).toNat]? = some ((2:Int),flt m (meetF m le) m,()):=rfl
 have l0:(flt m (sumF m le) m).length≤4294967296:=by rw[wc];omega
 have l1:(flt m (meetF m le) m).length≤4294967296:=by rw[wc];omega
 have s0:=wj4 (flt m (sumF m le) m) (flt m (fun x y=>((f x y:Nat):Int)) m) l0
 have s1:=wj4 (flt m (meetF m le) m) (flt m (fun x y=>((g x y:Nat):Int)) m) l1
 have e3:=wlz h
 generalize hA:ringAlg m le=A at *
 generalize hB:algL m [f,g]=B at *
 unfold wl
 rw[g1,obS,Bool.not_true,cond_false,e3,obS]
 dsimp only
 rw[r0,obS,q0,obS,obS,o0,obS,obS,s0,obS]
 by_cases c0:flt m (sumF m le) m=flt m (fun x y=>((f x y:Nat):Int)) m
 ·rw[decide_eq_true c0,Bool.not_true,cond_false,r1,obS,q1,obS,obS,o1,obS,obS,s1,obS]
  by_cases c1:flt m (meetF m le) m=flt m (fun x y=>((g x y:Nat):Int)) m
  ·rw[decide_eq_true c1,Bool.not_true,cond_false,decide_eq_true (show A=B by rw[←hA,←hB];unfold ringAlg;rw[c0,c1];rfl),cond_true]
  ·have hne:¬A=B:=fun e=>c1 (w2c (hA.trans (e.trans hB.symm))).2
   rw[decide_eq_false c1,Bool.not_false,cond_true,decide_eq_false hne,cond_false]
 ·have hne:¬A=B:=fun e=>c0 (w2c (hA.trans (e.trans hB.symm))).1
  rw[decide_eq_false c0,Bool.not_false,cond_true,decide_eq_false hne,cond_false]
abbrev Cu:=List Int×Int×Int×Unit
def COk (k:Nat) (c:Cu):Prop:=0≤c.2.1∧c.2.1+k≤4611686018427387904∧c.1.length≤65536∧∀x∈c.1,0≤x∧x≤255
theorem and255 (x:Int):∃n:Nat,n≤255∧bitI .and .u64 x 255=(n:Int):=by
 refine⟨(BitVec.ofInt IntKind.u64.bits x &&& BitVec.ofInt IntKind.u64.bits 255).toNat, ?_, ?_⟩
 ·rw[BitVec.toNat_and]
  exact Nat.le_trans Nat.and_le_right (by decide)
 ·have h:(BitVec.ofInt IntKind.u64.bits x &&& BitVec.ofInt IntKind.u64.bits 255).toNat≤255:=by
   rw[BitVec.toNat_and]
   exact Nat.le_trans Nat.and_le_right (by decide)
  unfold bitI
  exact IntWalk.u64_in _ (by omega)
theorem wxq {k:Nat}{c:Cu}(h:COk (k+1) c):∃v c',V1 c=some (v,(c',()))∧0≤v∧v≤255∧COk k c':=by
 obtain⟨h0,h1,h2,h3⟩:=h
 obtain⟨l,a,s,u⟩:=c
 simp only at h0 h1 h2 h3
 have hw:IntKind.i64.wrap (a+1)=a+1:=wr (by omega) (by omega)
 have key:∀s':Int,COk k (l,a+1,s',u):=fun s'=>⟨by show 0≤a+1;omega,by show a+1+k≤_;omega,h2,h3⟩
 have tail:∀s':Int,∃v c',((shrI IntKind.u64 s' (40:Int)).bind fun xq=>some (IntKind.i64.wrap (bitI .and IntKind.u64 xq (255:Int)),((l,a+1,s',u),())))=some (v,(c',()))∧0≤v∧v≤255∧COk k c':=by
  intro s'
  obtain⟨n,hn,e⟩:=and255 (s'.fdiv (2 ^ min (40:Int).toNat IntKind.u64.bits))
  unfold shrI
  rw[if_neg (by omega),obS,e,wr (by omega) (by omega)]
  exact⟨_,_,rfl,by omega,by omega,key s'⟩
 unfold V1 V1_s
 dsimp only
 rw[hw]
 by_cases ha:a<(l.length:Int)
 ·rw[cdt ha]
  have hal:a.toNat<l.length:=by omega
  have e:atI l a=some l[a.toNat]:=by
   have:=jf l a.toNat hal
   rwa [show((a.toNat:Nat):Int)=a by omega]at this
  have hb:=h3 _ (List.getElem_mem hal)
  rw[e,obS]
  by_cases c:a+1≤(l.length:Int)
  ·rw[cdt c,wr (by omega) (by omega)]
   exact⟨_,_,rfl,hb.1,hb.2,key _⟩
  ·rw[cdf c]
   exact tail _
 ·rw[cdf ha]
  by_cases c:a+1≤(l.length:Int)
  ·rw[cdt c]
   exact⟨_,_,rfl,by omega,by omega,key _⟩
  ·rw[cdf c]
   exact tail _
theorem COk.mono {k j:Nat}{c:Cu}(h:COk k c) (hj:j≤k):COk j c:=by
 obtain⟨h0,h1,h2,h3⟩:=h
 exact⟨h0,by omega,h2,h3⟩
theorem wx5 {a n:Int}(ha:0≤a) (hn:0<n):∃v,remI a n=some v∧0≤v∧v<n:=by
 refine⟨a.tmod n, ?_,Int.tmod_nonneg n ha,Int.tmod_lt_of_pos a hn⟩
 unfold remI
 rw[if_neg (by omega)]
theorem wd {k:Nat}{c:Cu}(h:COk (k+2) c) (n:Int):∃v c',V2 c n=some (v,(c',()))∧0≤v∧(1≤n→v<n)∧COk k c':=by
 unfold V2 V2_s
 by_cases h1:n≤1
 ·rw[cdt h1]
  exact⟨_,_,rfl,by omega,by omega,h.mono (by omega)⟩
 ·obtain⟨v,c1,e1,a1,a2,k1⟩:=wxq (k:=k+1) h
  rw[cdf h1,e1,obS]
  by_cases h2:200<n
  ·obtain⟨v2,c2,e2,b1,b2,k2⟩:=wxq k1
   rw[cdt h2]
   dsimp only
   rw[e2,obS]
   dsimp only
   rw[wr (n:=v*256) (by omega) (by omega),wr (by omega) (by omega)]
   obtain⟨z,ez,z0,z1⟩:=wx5 (a:=v*256+v2) (n:=n) (by omega) (by omega)
   rw[ez,obS]
   exact⟨_,_,rfl,z0,fun _=>z1,k2⟩
  ·rw[cdf h2]
   dsimp only
   obtain⟨z,ez,z0,z1⟩:=wx5 (a:=v) (n:=n) a1 (by omega)
   rw[ez,obS]
   exact⟨_,_,rfl,z0,fun _=>z1,k1.mono (by omega)⟩
theorem yf {k:Nat}{c:Cu}(h:COk (k+2) c) (n:Int):∃b c',V3 c n=some (b,(c',()))∧COk k c':=by
 obtain⟨v,c1,e1,_,_,k1⟩:=wd h n
 unfold V3 V3_s
 rw[e1,obS]
 exact⟨_,_,rfl,k1⟩
theorem wk {k:Nat}{c:Cu}(h:COk (k+2) c){l:List Int}(hl:l≠[]):∃v c',V4 c l=some (v,(c',()))∧v∈l∧COk k c':=by
 obtain⟨v,c1,e1,h0,h1,k1⟩:=wd h (l.length:Int)
 have hp:=List.length_pos_iff.2 hl
 have hv:=h1 (by omega)
 have hvl:v.toNat<l.length:=by omega
 have e:atI l v=some l[v.toNat]:=by
  have:=jf l v.toNat hvl
  rwa [show((v.toNat:Nat):Int)=v by omega]at this
 unfold V4 V4_s
 rw[e1,obS]
 dsimp only
 rw[e,obS]
 exact⟨_,_,rfl,List.getElem_mem hvl,k1⟩
def Codes (code:List Int):Prop:=code.length≤65536∧∀x∈code,0≤x∧x≤255
theorem Codes.start {code:List Int}(h:Codes code):COk 10000 (code,(0:Int),(0:Int),()):=⟨Int.le_refl _,by show(0:Int)+(10000:Nat)≤_;omega,h.1,h.2⟩
abbrev PTd:=List (List Int)×Unit
def DrP (m:Nat) (p:PTd):Prop:=p.1.length≤m∧∀r∈p.1,r.length≤m
theorem wxs {n:Int}(h1 : -1000≤n) (h2:n≤1000){l:List Int}(hl:l.length≤1000):∃b,V7 big n l=some (b,())∧(b=true→∀x∈l,0≤x∧x<n):=by
 unfold V7 V7_s
 refine xnz (Q:=fun r=>∃b,r=some (b,())∧(b=true→∀x∈l,0≤x∧x<n)) l.length (fun i=>∀x∈l.take i,0≤x∧x<n) (by omega) (fun rc i hi hI hr => ?_) (fun rc hI => ?_) 0 (by omega) (by simp)
 ·unfold wo3
  rw[cdt (by omega),jf l i hi,obS,wgf,obS,wr (by omega) (by omega)]
  by_cases c:0≤l[i]∧l[i]≤n-1
  ·rw[decide_eq_true c]
   simp only[Bool.not_true,cond_false]
   rw[wr (by omega) (by omega)]
   refine hr fun x hx => ?_
   rw[List.take_succ_eq_append_getElem hi,List.mem_append,List.mem_singleton]at hx
   rcases hx with hx|rfl
   ·exact hI x hx
   ·omega
  ·rw[decide_eq_false c]
   simp only[Bool.not_false,cond_true]
   exact⟨_,rfl,fun h=>by cases h⟩
 ·unfold wo3 wlk
  rw[cdf (by omega)]
  refine⟨_,rfl,fun _ => ?_⟩
  have hI:∀x∈l.take l.length,0≤x∧x<n:=hI
  rwa [List.take_of_length_le (Nat.le_refl _)]at hI
theorem wma {n:Nat}(hn:n≤1000){l:List Int}(hl:l.length≤1000):∃b,V8 big l (n:Int)=some (b,())∧(b=true→l.length=n∧∀x∈l,0≤x∧x<n):=by
 unfold V8 V8_s
 by_cases h:(l.length:Int)≠(n:Int)
 ·rw[cdt h]
  exact⟨_,rfl,fun h=>by cases h⟩
 ·rw[cdf h]
  have hln:l.length=n:=by omega
  obtain⟨b,e,hb⟩:=wxs (n:=(n:Int)) (by omega) (by omega) hl
  rw[e,obS]
  cases b with
  | false=>exact⟨_,rfl,fun h=>by cases h⟩
  | true =>
   have hb:=hb rfl
   simp only[Bool.not_true,cond_false]
   rw[ur false n (by omega),obS,obS,cdt (by omega)]
   refine xn0 (Q:=fun r=>∃b,r=some (b,())∧(b=true→l.length=n∧∀x∈l,0≤x∧x<n)) n (fun i s=>s.length=n) (by omega) (fun rc i s hi hI hr => ?_) (fun rc s hI => ?_) 0 (by omega) _ (by simp)
   ·unfold wpc
    have hil:i<l.length:=by omega
    have hx:=hb _ (List.getElem_mem hil)
    have hxl:l[i].toNat<s.length:=by rw[hI];omega
    have ea:atI s l[i]=some s[l[i].toNat]:=by
     have:=jf s l[i].toNat hxl
     rwa [show((l[i].toNat:Nat):Int)=l[i] by omega]at this
    rw[cdt (by omega),jf l i hil,obS,ea,obS,List.getElem?_eq_getElem hxl,obS]
    cases s[l[i].toNat] with
    | true=>exact⟨_,rfl,fun h=>by cases h⟩
    | false =>
     rw[cond_false,obS,ea,obS,List.getElem?_eq_getElem hxl,obS,wr (by omega) (by omega)]
     exact hr _ (by simpa using hI)
   ·unfold wpc wll
    rw[cdf (by omega)]
    exact⟨_,rfl,fun _=>⟨hln,hb⟩⟩
theorem wgv {k n:Nat}(hn:n≤1000){c:Cu}(h:COk (k+2*n+6) c):∃l c',V5 big c (n:Int)=some (l,(c',()))∧l.length≤n+1∧COk k c':=by
 unfold V5 V5_s
 refine xny (Q:=fun r=>∃l c',r=some (l,(c',()))∧l.length≤n+1∧COk k c') n (fun i c l=>l.length=i∧COk (k+2*(n-i)+6) c) (by omega) (fun rc i c l hi hI hr => ?_) (fun rc c l hI => ?_) 0 (by omega) _ _ ⟨rfl,by simpa using h⟩
 ·obtain⟨hl,hc⟩:=hI
  unfold wod
  obtain⟨v,c',e,v0,v1,hc'⟩:=wd (k:=k+2*(n-(i+1))+6) (hc.mono (by omega)) ((l.length:Int)+1)
  have hv:=v1 (by omega)
  rw[cdt (by omega),wr (n:=(l.length:Int)+1) (by omega) (by omega),e,obS]
  dsimp only
  have s1:slI l 0 v=some ((l.drop 0).take (v-0).toNat):=by unfold slI;rw[if_pos (by omega)];rfl
  have s2:slI l v (l.length:Int)=some ((l.drop v.toNat).take ((l.length:Int)-v).toNat):=by unfold slI;rw[if_pos (by omega)]
  rw[s1,obS,jk (by simp;omega),obS,jk (by simp;omega),obS,s2,obS,jk (by simp;omega),obS,wr (by omega) (by omega)]
  refine hr _ _ ⟨?_,hc'⟩
  simp
  omega
 ·obtain⟨hl,hc⟩:=hI
  unfold wod wlh
  rw[cdf (by omega)]
  obtain⟨v,c',e,v0,v1,hc'⟩:=wd (k:=k+4) (hc.mono (by omega)) 24
  rw[e,obS]
  dsimp only
  by_cases h0:v=0
  ·rw[cdt h0,jk (by simp;omega),obS]
   exact⟨_,_,rfl,by simp[hl],hc'.mono (by omega)⟩
  ·rw[cdf h0]
   by_cases h1:v=1
   ·rw[cdt h1]
    by_cases h2:(0:Int)<n
    ·rw[cdt h2]
     obtain⟨v2,c2,e2,a0,a1,hc2⟩:=wd (k:=k+2) (hc'.mono (by omega)) (n:Int)
     have ha:=a1 (by omega)
     obtain⟨v3,c3,e3,_,hc3⟩:=wk (k:=k) hc2 (l:=[(0:Int), -1,(n:Int)]) (by simp)
     have hvl:v2.toNat<l.length:=by omega
     have ea:atI l v2=some l[v2.toNat]:=by
      have:=jf l v2.toNat hvl
      rwa [show((v2.toNat:Nat):Int)=v2 by omega]at this
     rw[e2,obS]
     dsimp only
     rw[e3,obS]
     dsimp only
     rw[ea,obS,List.getElem?_eq_getElem hvl,obS]
     exact⟨_,_,rfl,by simp[hl],hc3⟩
    ·rw[cdf h2]
     exact⟨_,_,rfl,by omega,hc'.mono (by omega)⟩
   ·rw[cdf h1]
    exact⟨_,_,rfl,by omega,hc'.mono (by omega)⟩
def MX (n:Nat) (m:List (List Bool)):Prop:=m.length=n∧(∀r∈m,r.length=n)∧∀i,i<n→∃r,m[i]? = some r∧r[i]? = some true
theorem MX.set {n:Nat}{m:List (List Bool)}(h:MX n m){x y:Nat}{r:List Bool}(hr:m[x]? = some r){v:Bool}(hv:x=y→v=true):MX n (m.set x (r.set y v)):=by
 obtain⟨h1,h2,h3⟩:=h
 have hx:=(List.getElem?_eq_some_iff.1 hr).1
 refine⟨by simpa using h1,fun q hq => ?_,fun i hi => ?_⟩
 ·rcases List.mem_or_eq_of_mem_set hq with hq|rfl
  ·exact h2 q hq
  ·rw[List.length_set];exact h2 r (List.mem_of_getElem? hr)
 ·obtain⟨q,q1,q2⟩:=h3 i hi
  by_cases e:x=i
  ·subst e
   rw[hr]at q1
   cases q1
   refine⟨_,by rw[List.getElem?_set_self hx], ?_⟩
   by_cases e:y=x
   ·subst e
    have hl:y<r.length:=(List.getElem?_eq_some_iff.1 q2).1
    rw[List.getElem?_set_self hl,hv rfl]
   ·rw[List.getElem?_set_ne e];exact q2
  ·exact⟨q,by rw[List.getElem?_set_ne e];exact q1,q2⟩
theorem MX.at {n:Nat}{m:List (List Bool)}(h:MX n m){x y:Nat}(hx:x<n) (hy:y<n):∃r v,m[x]? = some r∧atI m (x:Int)=some r∧r[y]? = some v∧atI r (y:Int)=some v∧(x=y→v=true):=by
 obtain⟨h1,h2,h3⟩:=h
 have hl:x<m.length:=by omega
 have hr:=h2 _ (List.getElem_mem hl)
 have hyl:y<(m[x]).length:=by omega
 refine⟨m[x],(m[x])[y],List.getElem?_eq_getElem hl,jf m x hl,List.getElem?_eq_getElem hyl,jf _ y hyl,fun e => ?_⟩
 subst e
 obtain⟨q,q1,q2⟩:=h3 x hx
 rw[List.getElem?_eq_getElem hl]at q1
 cases q1
 rw[List.getElem?_eq_getElem hyl]at q2
 exact Option.some.inj q2
def Fr (n:Nat) (r:Option (PTd×Unit)):Prop:=∃p:PTd,r=some (p,())∧p.1.length=n∧∀q∈p.1,1≤q.length∧q.length≤n
theorem xek {n:Nat}(hn:n≤100){t4:PTd}{m:List (List Bool)}(hm:MX n m):Fr n (xo big (n:Int) t4 m ([],()) (0:Int)):=by
 refine xno (Q:=Fr n) n (fun i p=>p.1.length=i∧∀q∈p.1,1≤q.length∧q.length≤n) (by omega) (fun rc i p hi hI hr => ?_) (fun rc p hI => ?_) 0 (by omega) _ ⟨rfl,by simp⟩
 ·obtain⟨hI1,hI2⟩:=hI
  unfold wf7
  rw[cdt (by omega)]
  refine xnp (Q:=Fr n) n (fun j b=>b.length≤j∧(i<j→1≤b.length)) (by omega) (fun rc2 j b hj hJ hr2 => ?_) (fun rc2 b hJ => ?_) 0 (by omega) _ ⟨by simp,by omega⟩
  ·unfold wjy
   obtain⟨r,v,e1,e2,e3,e4,e5⟩:=hm.at hj hi
   rw[cdt (by omega),e2,obS,Int.toNat_natCast,e1,obS,obS,e4,obS,obS,Int.toNat_natCast,e3,obS]
   cases v with
   | true =>
    rw[cond_true,jk (by simp;omega),obS,wr (by omega) (by omega)]
    exact hr2 _ ⟨by simp;omega,fun _=>by simp⟩
   | false =>
    rw[cond_false,wr (by omega) (by omega)]
    refine hr2 _ ⟨by omega,fun h=>hJ.2 ?_⟩
    rcases Nat.lt_or_ge i j with h'|h'
    ·exact h'
    ·have:j=i:=by omega
     exact absurd (e5 this) (by simp)
  ·unfold wjy wf4
   rw[cdf (by omega),jk (by simp;omega),obS,wr (by omega) (by omega)]
   refine hr _ ⟨by simp[hI1],fun q hq => ?_⟩
   rcases List.mem_append.1 hq with hq|hq
   ·exact hI2 q hq
   ·rw[List.mem_singleton]at hq
    subst hq
    exact⟨hJ.2 hi,hJ.1⟩
 ·unfold wf7 zd
  rw[cdf (by omega)]
  exact⟨_,rfl,hI.1,hI.2⟩
theorem w52 {n:Nat}(hn:n≤100){t4:PTd}{m:List (List Bool)}(hm:MX n m):Fr n (wbr big (n:Int) t4 m (0:Int)):=by
 refine xnl (Q:=Fr n) n (fun _ m=>MX n m) (by omega) (fun rc z m hz hm hr => ?_) (fun rc m hm => ?_) 0 (by omega) _ hm
 ·unfold wf5
  rw[cdt (by omega)]
  refine xnm (Q:=Fr n) n (fun _ m=>MX n m) (by omega) (fun rc x m hx hm hr2 => ?_) (fun rc m hm => ?_) 0 (by omega) _ hm
  ·unfold wf6
   rw[cdt (by omega)]
   refine xnn (Q:=Fr n) n (fun _ m=>MX n m) (by omega) (fun rc y m hy hm hr3 => ?_) (fun rc m hm => ?_) 0 (by omega) _ hm
   ·unfold wjx
    obtain⟨r,v,e1,e2,e3,e4,e5⟩:=hm.at hx hy
    obtain⟨r',v',f1,f2,f3,f4,f5⟩:=hm.at hx hz
    rw[e1]at f1
    cases f1
    obtain⟨s,u,g1,g2,g3,g4,g5⟩:=hm.at hz hy
    simp only[Int.toNat_natCast,cdt (show(y:Int)<n by omega),e1,e2,e3,e4,f3,f4,g1,g2,g3,g4,obS]
    rw[wr (by omega) (by omega),show(y:Int)+1=((y+1:Nat):Int) by omega]
    cases v with
    | true =>
     rw[cond_true]
     exact hr3 _ (hm.set e1 fun _=>rfl)
    | false =>
     have hxy:x≠y:=fun e=>by have:=e5 e;cases this
     rw[cond_false]
     cases v' with
     | true=>rw[cond_true];exact hr3 _ (hm.set e1 fun e=>absurd e hxy)
     | false=>rw[cond_false];exact hr3 _ (hm.set e1 fun e=>absurd e hxy)
   ·unfold wjx wf3
    rw[cdf (by omega),wr (by omega) (by omega)]
    exact hr2 _ hm
  ·unfold wf6 zb
   rw[cdf (by omega),wr (by omega) (by omega)]
   exact hr _ hm
 ·unfold wf5 za
  rw[cdf (by omega)]
  exact xek hn hm
theorem wl8 {n:Nat}(hn:n≤100){ps:List (Int×(Int×Unit))}(hl:ps.length≤100000) (hp:∀p∈ps,(0≤p.1∧p.1<n)∧0≤p.2.1∧p.2.1<n):Fr n (V9 big (n:Int) ps):=by
 unfold V9 V9_s
 refine xn1 (Q:=Fr n) n (fun i m=>m.length=i∧(∀r∈m,r.length=n)∧∀j,j<i→∃r,m[j]? = some r∧r[j]? = some true) (by omega) (fun rc i m hi hI hr => ?_) (fun rc m hI => ?_) 0 (by omega) _ ⟨rfl,by simp,by omega⟩
 ·obtain⟨h1,h2,h3⟩:=hI
  unfold wpx
  have hil:i<(List.replicate n false).length:=by simpa using hi
  rw[cdt (by omega),ur false n (by omega),obS,obS,cdt (by omega),jf _ i hil,obS,Int.toNat_natCast,List.getElem?_eq_getElem hil,obS,jk (by simp;omega),obS,wr (by omega) (by omega)]
  refine hr _ ⟨by simp[h1],fun r hr => ?_,fun j hj => ?_⟩
  ·rcases List.mem_append.1 hr with hr|hr
   ·exact h2 r hr
   ·rw[List.mem_singleton]at hr;rw[hr];simp
  ·by_cases e:j<i
   ·obtain⟨r,r1,r2⟩:=h3 j e
    exact⟨r,by rw[List.getElem?_append_left (by omega)];exact r1,r2⟩
   ·have e:j=i:=by omega
    subst e
    refine⟨_,by rw[List.getElem?_append_right (by omega),h1,Nat.sub_self];rfl, ?_⟩
    rw[List.getElem?_set_self hil]
 ·unfold wpx wln
  rw[cdf (by omega)]
  refine xn2 (Q:=Fr n) ps.length (fun _ m=>MX n m) (by omega) (fun rc i m hi hm hr => ?_) (fun rc m hm => ?_) 0 (by omega) _ hI
  ·unfold wpy
   obtain⟨⟨a0,a1⟩,b0,b1⟩:=hp _ (List.getElem_mem hi)
   generalize hq:ps[i]=q at a0 a1 b0 b1
   obtain⟨x,y,u⟩:=q
   simp only at a0 a1 b0 b1
   obtain⟨x,rfl⟩:∃x':Nat,x=(x':Int):=⟨x.toNat,by omega⟩
   obtain⟨y,rfl⟩:∃y':Nat,y=(y':Int):=⟨y.toNat,by omega⟩
   obtain⟨r,v,e1,e2,e3,e4,e5⟩:=hm.at (x:=x) (y:=y) (by omega) (by omega)
   have ea:atI ps (i:Int)=some ((x:Int),((y:Int),u)):=by rw[jf ps i hi,hq]
   simp only[Int.toNat_natCast,cdt (show(i:Int)<ps.length by omega),ea,e1,e2,e3,e4,obS]
   rw[wr (by omega) (by omega)]
   exact hr _ (hm.set e1 fun _=>rfl)
  ·unfold wpy wlo
   rw[cdf (by omega)]
   exact w52 hn hm
theorem xlj {l:List Int}(hl:l.length≤1000000) (n:Int):∃l',V10 big l n=some (l',())∧l'.length≤l.length+1:=by
 have done:∀i:Nat,i≤l.length→∃l',wap l n (i:Int)=some (l',())∧l'.length≤l.length+1:=by
  intro i hi
  unfold wap
  have s1:slI l 0 (i:Int)=some ((l.drop 0).take i):=by unfold slI;rw[if_pos (by omega)];simp
  have s2:slI l (i:Int) (l.length:Int)=some ((l.drop i).take (l.length-i)):=by unfold slI;rw[if_pos (by omega),show((l.length:Int)-(i:Int)).toNat=l.length-i by omega,Int.toNat_natCast]
  have tail:∃l',((slI l 0 (i:Int)).bind fun xq8=>(appI [] xq8).bind fun xq9=>(appI xq9 [n]).bind fun xq10=>(slI l (i:Int) (l.length:Int)).bind fun xq11=>(appI xq10 xq11).bind fun xq12=>some (xq12,(())))=some (l',())∧l'.length≤l.length+1:=by
   rw[s1,obS,jk (by simp;omega),obS,jk (by simp;omega),obS,s2,obS,jk (by simp;omega),obS]
   exact⟨_,rfl,by simp;omega⟩
  by_cases h:i<l.length
  ·rw[cdt (by omega),jf l i h,obS]
   by_cases c:l[i]=n
   ·rw[cdt c];exact⟨l,rfl,by omega⟩
   ·rw[cdf c];exact tail
  ·rw[cdf (by omega)];exact tail
 unfold V10 w2n
 refine xlo (Q:=fun r=>∃l',r=some (l',())∧l'.length≤l.length+1) l.length (fun _=>True) (by omega) (fun rc i hi _ hr => ?_) (fun rc _ => ?_) 0 (by omega) trivial
 ·unfold wgy
  rw[cdt (by omega),jf l i hi,obS]
  by_cases c:l[i]<n
  ·rw[cdt c,wr (by omega) (by omega)];exact hr trivial
  ·rw[cdf c];exact done i (by omega)
 ·unfold wgy
  rw[cdf (by omega)]
  exact done _ (by omega)
def Dq (m k:Nat) (r:Option (PTd×(Cu×Unit))):Prop:=∃p c',r=some (p,(c',()))∧DrP m p∧COk k c'
theorem w6d {k:Nat}{t2:PTd}{p:PTd}{c:Cu}(hp:p.1.length≤11) (hr:∀r∈p.1,r.length≤12) (hc:COk (k+2*(12-p.1.length)+2) c):Dq 12 k (wh big c t2 p):=by
 refine xik (Q:=Dq 12 k) (fun _ p=>12-p.1.length) (fun c p=>p.1.length≤11∧(∀r∈p.1,r.length≤12)∧COk (k+2*(12-p.1.length)+2) c) (fun rc c p hI hrec => ?_) c p (by omega) ⟨hp,hr,hc⟩
 obtain⟨h1,h2,h3⟩:=hI
 unfold wqv wct
 obtain⟨v,c',e,v0,v1,hc'⟩:=wd (k:=k+2*(12-p.1.length)) h3 2
 have hv:=v1 (by omega)
 rw[e,obS]
 dsimp only
 rw[wr (by omega) (by omega)]
 by_cases c:(p.1.length:Int)<10+v
 ·rw[cdt c,jk (by simp;omega),obS]
  refine hrec _ _ ⟨by simp;omega,fun r hr => ?_, ?_⟩ (by simp;omega)
  ·rcases List.mem_append.1 hr with hr|hr
   ·exact h2 r hr
   ·rw[List.mem_singleton]at hr;rw[hr];simp
  ·simp only[List.length_append,List.length_singleton]
   exact hc'.mono (by omega)
 ·rw[cdf c]
  exact⟨_,_,rfl,⟨by omega,h2⟩,hc'.mono (by omega)⟩
theorem wj6 {k n:Nat}(hn:n≤7){t2:PTd}{c:Cu}{ps:List (Int×(Int×Unit))}(hl:ps.length≤1000) (hp:∀p∈ps,(0≤p.1∧p.1<n)∧0≤p.2.1∧p.2.1<n) (hc:COk (k+40) c) :
  Dq 12 k (x9 (wh big) c t2 (n:Int) ps):=by
 obtain⟨p,e,p1,p2⟩:=wl8 (n:=n) (by omega) (by omega) hp
 have hd:DrP 12 p:=⟨by omega,fun r hr=>by have:=p2 r hr;omega⟩
 unfold x9
 rw[e,obS]
 by_cases h0:(n:Int)=0
 ·rw[cdt h0]
  exact⟨_,_,rfl,hd,hc.mono (by omega)⟩
 ·rw[cdf h0]
  obtain⟨b,c1,e1,hc1⟩:=yf (k:=k+38) hc 16
  rw[e1,obS]
  cases b with
  | false=>exact⟨_,_,rfl,hd,hc1.mono (by omega)⟩
  | true =>
   simp only[Bool.not_true,cond_false]
   obtain⟨x,c2,e2,x0,x1,hc2⟩:=wd (k:=k+36) hc1 (n:Int)
   have hx:=x1 (by omega)
   obtain⟨v,c3,e3,_,_,hc3⟩:=wd (k:=k+34) hc2 4
   rw[e2,obS]
   dsimp only
   rw[e3,obS]
   dsimp only
   have hxl:x.toNat<p.1.length:=by omega
   have ea:atI p.1 x=some p.1[x.toNat]:=by
    have:=jf p.1 x.toNat hxl
    rwa [show((x.toNat:Nat):Int)=x by omega]at this
   have eb:p.1[x.toNat]? = some p.1[x.toNat]:=List.getElem?_eq_getElem hxl
   have hrow:=p2 _ (List.getElem_mem hxl)
   have upd:∀r:List Int,r.length≤12→DrP 12 (p.1.set x.toNat r,p.2):=fun r hr=>⟨by simp;omega,fun q hq=>by
    rcases List.mem_or_eq_of_mem_set hq with hq|rfl
    ·exact hd.2 q hq
    ·exact hr⟩
   simp only[ea,eb,obS]
   by_cases c0:v=0
   ·rw[cdt c0]
    have s1:slI p.1[x.toNat] (1:Int) (p.1[x.toNat].length:Int)=some ((p.1[x.toNat].drop 1).take (p.1[x.toNat].length-1)):=by unfold slI;rw[if_pos (by omega),show((p.1[x.toNat].length:Int)-1).toNat=p.1[x.toNat].length-1 by omega];rfl
    rw[s1,obS]
    exact⟨_,_,rfl,upd _ (by simp;omega),hc3.mono (by omega)⟩
   ·rw[cdf c0]
    by_cases c1:v=1
    ·rw[cdt c1,jk (by simp;omega),obS]
     exact⟨_,_,rfl,upd _ (by simp;omega),hc3.mono (by omega)⟩
    ·rw[cdf c1]
     by_cases c2':v=2
     ·rw[cdt c2']
      obtain⟨y,c4,e4,_,_,hc4⟩:=wd (k:=k+32) hc3 (n:Int)
      obtain⟨l',e5,hl'⟩:=xlj (l:=p.1[x.toNat]) (by omega) y
      rw[e4,obS]
      dsimp only
      rw[e5,obS]
      exact⟨_,_,rfl,upd _ (by simp only;omega),hc4.mono (by omega)⟩
     ·rw[cdf c2']
      by_cases c3':v=3
      ·rw[cdt c3']
       exact w6d (by omega) (fun r hr=>by have:=p2 r hr;omega) (hc3.mono (by omega))
      ·rw[cdf c3']
       exact⟨_,_,rfl,hd,hc3.mono (by omega)⟩
theorem wgh {n:Nat}{names:List Int}(hl:names.length=n) (hn:∀x∈names,0≤x∧x<n){x:Int}(h0:0≤x) (h1:x<n):∃v,atI names x=some v∧names[x.toNat]? = some v∧0≤v∧v<n:=by
 have hx:x.toNat<names.length:=by omega
 refine⟨names[x.toNat], ?_,List.getElem?_eq_getElem hx,hn _ (List.getElem_mem hx)⟩
 have:=jf names x.toNat hx
 rwa [show((x.toNat:Nat):Int)=x by omega]at this
theorem xeq {k:Nat}{c:Cu}(hc:COk (k+300) c):Dq 12 k (V11 big c):=by
 unfold V11 w2z
 obtain⟨n,c0,e,hn,hc0⟩:=wk (k:=k+298) hc (l:=[(0:Int),1,2,3,4,4,5,5,6,7]) (by simp)
 rw[e,obS]
 dsimp only
 obtain⟨n,rfl⟩:∃m:Nat,n=(m:Int):=⟨n.toNat,by simp at hn;omega⟩
 have hn7:n≤7:=by simp at hn;omega
 refine xlq (Q:=Dq 12 k) n (fun i c ps=>ps.length≤i*n∧(∀p∈ps,(0≤p.1∧p.1<n)∧0≤p.2.1∧p.2.1<n)∧COk (k+100+2*(n*(n-i))) c) (by omega) (fun rc i c ps hi hI hr => ?_) (fun rc c ps hI => ?_) 0 (by omega) _ _ ⟨by simp,by simp,hc0.mono (by have:n*(n-0)≤7*7:=Nat.mul_le_mul hn7 (by omega);omega)⟩
 ·obtain⟨h1,h2,h3⟩:=hI
  unfold wcw
  rw[cdt (by omega),wr (by omega) (by omega),show(i:Int)+1=((i+1:Nat):Int) by omega]
  have hmul:n*(n-i)=n*(n-(i+1))+n:=by
   rw[show n-i=(n-(i+1))+1 by omega,Nat.mul_succ]
  have hmul2:(i+1)*n=i*n+n:=Nat.succ_mul i n
  refine xlr (Q:=Dq 12 k) n (fun j c ps=>ps.length≤i*n+j∧(∀p∈ps,(0≤p.1∧p.1<n)∧0≤p.2.1∧p.2.1<n)∧COk (k+100+2*(n*(n-(i+1)))+2*(n-j)) c) (by omega) (fun rc2 j c ps hj hJ hr2 => ?_) (fun rc2 c ps hJ => ?_) (i+1) (by omega) _ _ ⟨by omega,h2,h3.mono (by omega)⟩
  ·obtain⟨j1,j2,j3⟩:=hJ
   unfold wg2
   obtain⟨b,c',e,hc'⟩:=yf (k:=k+100+2*(n*(n-(i+1)))+2*(n-(j+1))) (j3.mono (by omega)) 3
   have hin:i*n≤7*7:=Nat.mul_le_mul (by omega) hn7
   rw[cdt (by omega),e,obS,wr (by omega) (by omega)]
   cases b with
   | true =>
    rw[cond_true,jk (by simp;omega),obS]
    refine hr2 _ _ ⟨by simp;omega,fun p hp => ?_,hc'⟩
    rcases List.mem_append.1 hp with hp|hp
    ·exact j2 p hp
    ·rw[List.mem_singleton]at hp
     rw[hp]
     exact⟨⟨by simp,by simp;omega⟩,by simp,by simp;omega⟩
   | false =>
    rw[cond_false]
    exact hr2 _ _ ⟨by omega,j2,hc'⟩
  ·obtain⟨j1,j2,j3⟩:=hJ
   unfold wg2 wcu
   rw[cdf (by omega),wr (by omega) (by omega)]
   exact hr _ _ ⟨by omega,j2,j3.mono (by omega)⟩
 ·obtain⟨h1,h2,h3⟩:=hI
  have hnn:n*n≤7*7:=Nat.mul_le_mul hn7 hn7
  unfold wcw yj
  rw[cdf (by omega)]
  obtain⟨names,c1,e1,hl1,hc1⟩:=wgv (k:=k+60) (n:=n) (by omega) (h3.mono (by omega))
  obtain⟨b,e2,hb⟩:=wma (n:=n) (by omega) (l:=names) (by omega)
  rw[e1,obS]
  dsimp only
  rw[e2,obS]
  cases b with
  | false =>
   rw[cond_false]
   exact wj6 hn7 (by omega) h2 (hc1.mono (by omega))
  | true =>
   obtain⟨hb1,hb2⟩:=hb rfl
   obtain⟨b,c2,e3,hc2⟩:=yf (k:=k+58) hc1 2
   rw[cond_true,e3,obS]
   cases b with
   | false =>
    rw[cond_false]
    exact wj6 hn7 (by omega) h2 (hc2.mono (by omega))
   | true =>
    rw[cond_true]
    refine xij (Q:=Dq 12 k) ps.length (fun _ qs=>qs.length=ps.length∧∀p∈qs,(0≤p.1∧p.1<n)∧0≤p.2.1∧p.2.1<n) (by omega) (fun rc2 i qs hi hI hr => ?_) (fun rc2 qs hI => ?_) 0 (by omega) _ ⟨rfl,h2⟩
    ·obtain⟨i1,i2⟩:=hI
     have hil:i<qs.length:=by omega
     obtain⟨⟨a0,a1⟩,b0,b1⟩:=i2 _ (List.getElem_mem hil)
     obtain⟨x,x1,x2,x3,x4⟩:=wgh hb1 hb2 a0 a1
     obtain⟨y,y1,y2,y3,y4⟩:=wgh hb1 hb2 b0 b1
     unfold wcv
     simp only[Int.toNat_natCast,cdt (show(i:Int)<qs.length by omega),jf qs i hil,List.getElem?_eq_getElem hil,x1,x2,y1,y2,obS]
     rw[wr (by omega) (by omega)]
     refine hr _ ⟨by simpa using i1,fun p hp => ?_⟩
     rcases List.mem_or_eq_of_mem_set hp with hp|rfl
     ·exact i2 p hp
     ·exact⟨⟨x3,x4⟩,y3,y4⟩
    ·obtain⟨i1,i2⟩:=hI
     unfold wcv
     rw[cdf (by omega)]
     exact wj6 hn7 (by omega) i2 (hc2.mono (by omega))
def okKnown (k:Nat):Bool:=match V13 (k:Int) with
 | some (p,())=>decide (p.1.length≤9)&&p.1.all (fun r=>decide (r.length≤9))&&(match V18 big p with
  | some (ps,())=>decide (ps.length≤100)&&ps.all fun q=>decide (0≤q.1)&&decide (q.1<(p.1.length:Int))&&decide (0≤q.2.1)&&decide (q.2.1<(p.1.length:Int))
  | none=>false)
 | none=>false
theorem wym:(List.range 12).all okKnown=true:=by kernel_rfl
theorem xel {k:Int}(h0:0≤k) (h1:k<12):∃p ps,V13 k=some (p,())∧DrP 9 p∧V18 big p=some (ps,())∧ps.length≤100∧∀q∈ps,(0≤q.1∧q.1<p.1.length)∧0≤q.2.1∧q.2.1<p.1.length:=by
 have h:=List.all_eq_true.1 wym k.toNat (List.mem_range.2 (by omega))
 unfold okKnown at h
 rw[show((k.toNat:Nat):Int)=k by omega]at h
 split at h
 case h_2=>cases h
 rename_i p e
 simp only[Bool.and_eq_true,decide_eq_true_eq,List.all_eq_true]at h
 obtain⟨⟨h1,h2⟩,h3⟩:=h
 split at h3
 case h_2=>cases h3
 rename_i ps e2
 simp only[Bool.and_eq_true,decide_eq_true_eq,List.all_eq_true]at h3
 exact⟨p,ps,e,⟨h1,h2⟩,e2,h3.1,fun q hq=>by
  obtain⟨⟨⟨a,b⟩,c⟩,d⟩:=h3.2 q hq
  exact⟨⟨a,b⟩,c,d⟩⟩
theorem wyl {k:Nat}{c:Cu}(hc:COk (k+400) c):Dq 12 k (V19 big c):=by
 unfold V19 w3e
 obtain⟨b,c1,e1,hc1⟩:=yf (k:=k+398) hc 10
 rw[e1,obS]
 cases b with
 | true =>
  rw[cond_true]
  obtain⟨p,c2,e2,hp,hc2⟩:=xeq (k:=k+98) hc1
  rw[e2,obS]
  exact⟨_,_,rfl,hp,hc2.mono (by omega)⟩
 | false =>
  rw[cond_false]
  obtain⟨v,c2,e2,v0,v1,hc2⟩:=wd (k:=k+396) hc1 12
  obtain⟨p,ps,e3,hp,e4,hl,hps⟩:=xel v0 (v1 (by omega))
  have hp':DrP 12 p:=⟨by have:=hp.1;omega,fun r hr=>by have:=hp.2 r hr;omega⟩
  have hn:=hp.1
  obtain⟨names,c3,e5,hl1,hc3⟩:=wgv (k:=k+300) (n:=p.1.length) (by omega) (hc2.mono (by omega))
  obtain⟨b,e6,hb⟩:=wma (n:=p.1.length) (by omega) (l:=names) (by omega)
  rw[e2,obS]
  dsimp only
  rw[e3,obS]
  dsimp only
  rw[e5,obS]
  dsimp only
  rw[e6,obS]
  cases b with
  | false=>exact⟨_,_,rfl,hp',hc3.mono (by omega)⟩
  | true =>
   obtain⟨hb1,hb2⟩:=hb rfl
   obtain⟨b,c4,e7,hc4⟩:=yf (k:=k+298) hc3 2
   rw[cond_true,e7,obS]
   cases b with
   | false=>exact⟨_,_,rfl,hp',hc4.mono (by omega)⟩
   | true =>
    rw[cond_true,e4,obS]
    refine xlw (Q:=Dq 12 k) ps.length (fun _ qs=>qs.length=ps.length∧∀q∈qs,(0≤q.1∧q.1<p.1.length)∧0≤q.2.1∧q.2.1<p.1.length) (by omega) (fun rc2 i qs hi hI hr => ?_) (fun rc2 qs hI => ?_) 0 (by omega) _ ⟨rfl,hps⟩
    ·obtain⟨i1,i2⟩:=hI
     have hil:i<qs.length:=by omega
     obtain⟨⟨a0,a1⟩,b0,b1⟩:=i2 _ (List.getElem_mem hil)
     obtain⟨x,x1,x2,x3,x4⟩:=wgh hb1 hb2 a0 a1
     obtain⟨y,y1,y2,y3,y4⟩:=wgh hb1 hb2 b0 b1
     unfold wg9
     simp only[Int.toNat_natCast,cdt (show(i:Int)<qs.length by omega),jf qs i hil,List.getElem?_eq_getElem hil,x1,x2,y1,y2,obS]
     rw[wr (by omega) (by omega)]
     refine hr _ ⟨by simpa using i1,fun q hq => ?_⟩
     rcases List.mem_or_eq_of_mem_set hq with hq|rfl
     ·exact i2 q hq
     ·exact⟨⟨x3,x4⟩,y3,y4⟩
    ·obtain⟨i1,i2⟩:=hI
     unfold wg9 wdg
     obtain⟨p',e8,p1,p2⟩:=wl8 (n:=p.1.length) (by omega) (by omega) i2
     rw[cdf (by omega),e8,obS]
     exact⟨_,_,rfl,⟨by show p'.1.length≤12;omega,fun r hr=>by have:=p2 r hr;omega⟩,hc4.mono (by omega)⟩
theorem xf9 {code:List Int}(hw:Wf (.pair (.sl (.int .u8)) .unit) (code,())) (h:code.length≤65536):Codes code:=by
 refine⟨h,fun x hx => ?_⟩
 have:=hw.1.2 x hx
 have h2:(Lit.int .u8 x).wf=true:=this
 simp only[Lit.wf,Bool.and_eq_true,decide_eq_true_eq]at h2
 have e1:IntKind.u8.min=0:=rfl
 have e2:IntKind.u8.max=255:=rfl
 rw[e1,e2]at h2
 exact h2
def Wd.dual:Wd→Wd
 | .v n => .v n
 | .op g a b => .op (-3-g) a.dual b.dual
theorem cmp_mem {n:Nat}{le:Nat→Nat→Bool}{x y:Nat}:y∈comp n le x↔y<n∧mt n le y x=bt n le∧mt n (du le) y x=tp n le:=by
 unfold comp rel
 rw[fl_mem,Bool.and_eq_true,decide_eq_true_eq,decide_eq_true_eq]
theorem xk8 {n:Nat}{le:Nat→Nat→Bool}{x y:Nat}(hx:x<n) (hy:y∈comp n le x):x∈comp n le y:=by
 obtain⟨h1,h2,h3⟩:=cmp_mem.1 hy
 exact cmp_mem.2 ⟨hx,by rw[xl];exact h2,by rw[xl];exact h3⟩
def UniC (n:Nat) (le:Nat→Nat→Bool):Prop:=∀x,x<n→(comp n le x).length=1
theorem UniC.cmp {n:Nat}{le:Nat→Nat→Bool}(h:UniC n le):Cmp n le:=fun x hx e=>by have:=h x hx;rw[e]at this;cases this
theorem wsu {n:Nat}{le:Nat→Nat→Bool}(h:LatP n le){x:Nat}(hx:x<n) (e:le x (bt n le)=true):x=bt n le:=h.as hx (w9 h) e (wbz h hx)
theorem xh3 {n:Nat}{le:Nat→Nat→Bool}(h:LatP n le){x:Nat}(hx:x<n) (e:le (tp n le) x=true):x=tp n le:=h.as hx (xu h) (wb0 h hx) e
theorem xef {n:Nat}{le:Nat→Nat→Bool}(h:LatP n le) (hd:Dis n le){v a b:Nat}(hv:v<n) (ha:a<n) (hb:b<n) (e:le v (mt n (du le) a b)=true):le v (mt n (du le) (mt n le v a) (mt n le v b))=true:=by
 rw[←hd v a b hv ha hb]
 exact h.mg hv (jlt h ha hb) hv (h.ord.refl v hv) e
theorem xf4 {n:Nat}{le:Nat→Nat→Bool}(h:LatP n le) (hd:Dis n le){x y:Nat}(hx:x<n) (hy:y∈comp n le x):Cen n le x y:=fun z hz=>by
 obtain⟨y1,y2,y3⟩:=cmp_mem.1 hy
 have h1:mt n (du le) (mt n le z x) (mt n le z y)=z:=by
  rw[←hd z x y hz hx y1,xl (le:=du le),y3]
  exact h.as (h.mlt hz (xu h)) hz (h.m1 hz (xu h)) (h.mg hz (xu h) hz (h.ord.refl z hz) (wb0 h hz))
 refine⟨h1, ?_⟩
 have l1:=jlt h hz hx
 have l2:=jlt h hz y1
 have l3:=h.mlt l1 l2
 refine h.as l3 hz ?_ (h.mg l1 l2 hz (j1 h hz hx) (j1 h hz y1))
 refine h.tr l3 (jlt h (h.mlt l3 hz) (h.mlt l3 hx)) hz (xef h hd l3 hz hx (h.m1 l1 l2)) ?_
 refine jg h (h.mlt l3 hz) (h.mlt l3 hx) hz (h.m2 l3 hz) ?_
 have k1:=h.mlt l3 hx
 refine h.tr k1 (jlt h (h.mlt k1 hz) (h.mlt k1 y1)) hz (xef h hd k1 hz y1 (h.tr k1 l3 l2 (h.m1 l3 hx) (h.m2 l1 l2))) ?_
 refine jg h (h.mlt k1 hz) (h.mlt k1 y1) hz (h.m2 k1 hz) ?_
 have k2:=h.mlt k1 y1
 have k3:=h.mg y1 hx k2 (h.m2 k1 y1) (h.tr k2 k1 hx (h.m1 k1 y1) (h.m2 l3 hx))
 rw[y2]at k3
 exact h.tr k2 (w9 h) hz k3 (wbz h hz)
theorem cenB_iff {n:Nat}{le:Nat→Nat→Bool}{x:Nat}:cenB n le x=true↔∃y,y∈comp n le x∧Cen n le x y:=by
 unfold cenB
 rw[List.any_eq_true]
 exact⟨fun⟨y,h1,h2⟩=>⟨y,h1,tv_iff.1 h2⟩,fun⟨y,h1,h2⟩=>⟨y,h1,tv_iff.2 h2⟩⟩
theorem cenA {n:Nat}{le:Nat→Nat→Bool}(h:LatP n le){x y w:Nat}(hx:x<n) (hy:y<n) (hw:w<n) (hc:Cen n le x y){u:Nat}(hu:u<n) (h1:le (mt n le w x) u=true) (h2:le (mt n le w y) u=true):le w u=true:=by
 have:=(hc w hw).1
 rw[←this]
 exact jg h (h.mlt hw hx) (h.mlt hw hy) hu h1 h2
theorem cenBm {n:Nat}{le:Nat→Nat→Bool}(h:LatP n le){x y w:Nat}(hx:x<n) (hy:y<n) (hw:w<n) (hc:Cen n le x y){u:Nat}(hu:u<n) (h1:le u (mt n (du le) w x)=true) (h2:le u (mt n (du le) w y)=true):le u w=true:=by
 have:=(hc w hw).2
 rw[←this]
 exact h.mg (jlt h hw hx) (jlt h hw hy) hu h1 h2
theorem xea {n:Nat}{le:Nat→Nat→Bool}(h:LatP n le){x y:Nat}(hx:x<n) (hy:y<n) (hA:∀w u,w<n→u<n→le (mt n le w x) u=true→le (mt n le w y) u=true→le w u=true)
  (hB:∀w u,w<n→u<n→le u (mt n (du le) w x)=true→le u (mt n (du le) w y)=true→le u w=true):Cen n le x y:=fun z hz=>by
 have a1:=h.mlt hz hx
 have a2:=h.mlt hz hy
 have b1:=jlt h hz hx
 have b2:=jlt h hz hy
 exact⟨h.as (jlt h a1 a2) hz (jg h a1 a2 hz (h.m1 hz hx) (h.m1 hz hy)) (hA z _ hz (jlt h a1 a2) (j1 h a1 a2) (j2 h a1 a2)),
  h.as (h.mlt b1 b2) hz (hB z _ hz (h.mlt b1 b2) (h.m1 b1 b2) (h.m2 b1 b2)) (h.mg b1 b2 hz (j1 h hz hx) (j1 h hz hy))⟩
theorem Cen.dual {n:Nat}{le:Nat→Nat→Bool}{x y:Nat}(hc:Cen n le x y):Cen n (du le) x y:=fun z hz=>⟨(hc z hz).2,(hc z hz).1⟩
theorem comp_dual {n:Nat}{le:Nat→Nat→Bool}{x y:Nat}:y∈comp n (du le) x↔y∈comp n le x:=by
 rw[cmp_mem,cmp_mem]
 exact⟨fun⟨a,b,c⟩=>⟨a,c,b⟩,fun⟨a,b,c⟩=>⟨a,c,b⟩⟩
structure CP (n:Nat) (le:Nat→Nat→Bool) (x y:Nat):Prop where
 lx:x<n
 c:y∈comp n le x
 z:Cen n le x y
theorem CP.ly {n:Nat}{le:Nat→Nat→Bool}{x y:Nat}(p:CP n le x y):y<n:=(cmp_mem.1 p.c).1
theorem CP.sym {n:Nat}{le:Nat→Nat→Bool}{x y:Nat}(p:CP n le x y):CP n le y x:=⟨p.ly,xk8 p.lx p.c,fun z hz=>by
 have:=p.z z hz
 rw[xl (le:=du le) (mt n le z y),xl (mt n (du le) z y)];exact this⟩
theorem CP.dual {n:Nat}{le:Nat→Nat→Bool}{x y:Nat}(p:CP n le x y):CP n (du le) x y:=⟨p.lx,comp_dual.2 p.c,p.z.dual⟩
theorem CP.meet {n:Nat}{le:Nat→Nat→Bool}(h:LatP n le){x x' a a':Nat}(p:CP n le x x') (q:CP n le a a'):CP n le (mt n le x a) (mt n (du le) x' a'):=by
 have hx:=p.lx
 have hx':=p.ly
 have ha:=q.lx
 have ha':=q.ly
 have lm:=h.mlt hx ha
 have lj:=jlt h hx' ha'
 obtain⟨_,px1,px2⟩:=cmp_mem.1 p.c
 obtain⟨_,qa1,qa2⟩:=cmp_mem.1 q.c
 refine⟨lm,cmp_mem.2 ⟨lj, ?_, ?_⟩,xea h lm lj ?_ ?_⟩
 ·have k:=h.mlt lj lm
  refine wsu h k ?_
  have k1:=h.m1 lj lm
  have k2:=h.tr k lm hx (h.m2 lj lm) (h.m1 hx ha)
  have k3:=h.tr k lm ha (h.m2 lj lm) (h.m2 hx ha)
  have k4:=cenBm h ha ha' hx' q.z k (h.tr k ha (jlt h hx' ha) k3 (j2 h hx' ha)) k1
  rw[←px1]
  exact h.mg hx' hx k k4 k2
 ·have k:=jlt h lj lm
  refine xh3 h k ?_
  rw[←px2]
  refine jg h hx' hx k (h.tr hx' lj k (j1 h hx' ha') (j1 h lj lm)) ?_
  refine cenA h ha ha' hx q.z k (j2 h lj lm) ?_
  exact h.tr (h.mlt hx ha') ha' k (h.m2 hx ha') (h.tr ha' lj k (j2 h hx' ha') (j1 h lj lm))
 ·intro w u hw hu e1 e2
  have wx:=h.mlt hw hx
  have wj:=h.mlt hw lj
  refine cenA h hx hx' hw p.z hu (cenA h ha ha' wx q.z hu ?_ ?_) ?_
  ·have k:=h.mlt wx ha
   have k1:=h.tr k wx hw (h.m1 wx ha) (h.m1 hw hx)
   have k2:=h.tr k wx hx (h.m1 wx ha) (h.m2 hw hx)
   exact h.tr k (h.mlt hw lm) hu (h.mg hw lm k k1 (h.mg hx ha k k2 (h.m2 wx ha))) e1
  ·have k:=h.mlt wx ha'
   have k1:=h.tr k wx hw (h.m1 wx ha') (h.m1 hw hx)
   exact h.tr k wj hu (h.mg hw lj k k1 (h.tr k ha' lj (h.m2 wx ha') (j2 h hx' ha'))) e2
  ·have k:=h.mlt hw hx'
   exact h.tr k wj hu (h.mg hw lj k (h.m1 hw hx') (h.tr k hx' lj (h.m2 hw hx') (j1 h hx' ha'))) e2
 ·intro w u hw hu e1 e2
  have uz:=h.mlt hu hx
  have uz':=h.mlt hu hx'
  have wm:=jlt h hw lm
  have wj:=jlt h hw lj
  refine cenA h hx hx' hu p.z hw (cenA h ha ha' uz q.z hw ?_ ?_) ?_
  ·have k:=h.mlt uz ha
   have k0:=h.tr k uz hu (h.m1 uz ha) (h.m1 hu hx)
   have k1:=h.tr k uz hx (h.m1 uz ha) (h.m2 hu hx)
   have k2:=h.m2 uz ha
   have wx':=jlt h hw hx'
   have k3:le (mt n le (mt n le u x) a) (mt n (du le) w x')=true:=by
    refine cenBm h ha ha' wx' q.z k (h.tr k ha (jlt h wx' ha) k2 (j2 h wx' ha)) ?_
    have t:=jlt h wx' ha'
    refine h.tr k wj t (h.tr k hu wj k0 e2) (jg h hw lj t (h.tr hw wx' t (j1 h hw hx') (j1 h wx' ha')) (jg h hx' ha' t (h.tr hx' wx' t (j2 h hw hx') (j1 h wx' ha')) (j2 h wx' ha')))
   exact cenBm h hx hx' hw p.z k (h.tr k hx (jlt h hw hx) k1 (j2 h hw hx)) k3
  ·have k:=h.mlt uz ha'
   have k0:=h.tr k uz hu (h.m1 uz ha') (h.m1 hu hx)
   have wa:=jlt h hw ha
   exact cenBm h ha ha' hw q.z k (h.tr k wm wa (h.tr k hu wm k0 e1) (jg h hw lm wa (j1 h hw ha) (h.tr lm ha wa (h.m2 hx ha) (j2 h hw ha)))) (h.tr k ha' (jlt h hw ha') (h.m2 uz ha') (j2 h hw ha'))
  ·have wx:=jlt h hw hx
   exact cenBm h hx hx' hw p.z uz' (h.tr uz' wm wx (h.tr uz' hu wm (h.m1 hu hx') e1) (jg h hw lm wx (j1 h hw hx) (h.tr lm hx wx (h.m1 hx ha) (j2 h hw hx)))) (h.tr uz' hx' (jlt h hw hx') (h.m2 hu hx') (j2 h hw hx'))
theorem CP.join {n:Nat}{le:Nat→Nat→Bool}(h:LatP n le){x x' a a':Nat}(p:CP n le x x') (q:CP n le a a'):CP n le (mt n (du le) x a) (mt n le x' a') :=
 (CP.meet h.du p.dual q.dual).dual
theorem xk6 {n:Nat}{le:Nat→Nat→Bool}{x:Nat}(hx:x<n):cenB n le x=true↔∃y,CP n le x y:=by
 rw[cenB_iff]
 exact⟨fun⟨y,a,b⟩=>⟨y,hx,a,b⟩,fun⟨y,p⟩=>⟨y,p.c,p.z⟩⟩
theorem CP.bot {n:Nat}{le:Nat→Nat→Bool}(h:LatP n le):CP n le (bt n le) (tp n le):=by
 have b:=w9 h
 have t:=xu h
 refine⟨b,cmp_mem.2 ⟨t,wsu h (h.mlt t b) (h.m2 t b),xh3 h (jlt h t b) (j1 h t b)⟩,xea h b t ?_ ?_⟩
 ·intro w u hw hu _ e
  exact h.tr hw (h.mlt hw t) hu (h.mg hw t hw (h.ord.refl w hw) (wb0 h hw)) e
 ·intro w u hw hu e _
  exact h.tr hu (jlt h hw b) hw e (jg h hw b hw (h.ord.refl w hw) (wbz h hw))
noncomputable def cbl (n:Nat) (le:Nat→Nat→Bool) (c:Nat):List Nat:=fl n fun z=>cenB n le z&&le z c
theorem wv {n:Nat}{le:Nat→Nat→Bool}{c z:Nat}(hz:z<n):z∈cbl n le c↔(∃y,CP n le z y)∧le z c=true:=by
 unfold cbl
 rw[fl_mem,Bool.and_eq_true,xk6 hz]
 exact⟨fun q=>q.2,fun q=>⟨hz,q⟩⟩
theorem zf {n:Nat}{le:Nat→Nat→Bool}{c z:Nat}(hz:z∈cbl n le c):z<n:=(fl_mem.1 hz).1
theorem cbl_nodup {n:Nat}{le:Nat→Nat→Bool}{c:Nat}:(cbl n le c).Nodup:=List.nodup_range.filter _
theorem wgu {α:Type}{A B:List α}(f:α→α) (hA:A.Nodup) (hf:∀a,a∈A→f a∈B) (hi:∀a b,a∈A→b∈A→f a=f b→a=b):A.length≤B.length:=by
 have hn:(A.map f).Nodup:=List.pairwise_map.2 (hA.imp_of_mem fun {a b} ha hb hne e=>hne (hi a b ha hb e))
 have:=hn.length_le_of_subset (l₂:=B) fun x hx=>by
  obtain⟨a,ha,rfl⟩:=List.mem_map.1 hx
  exact hf a ha
 simpa using this
theorem wj1 {α:Type}(p:α→Bool):∀l:List α,l.length=(l.filter p).length+(l.filter fun z => !p z).length
 | []=>rfl
 | x::l=>by
  have:=wj1 p l
  rw[List.filter_cons,List.filter_cons]
  cases p x<;>simp<;>omega
theorem xf5 {n:Nat}{le:Nat→Nat→Bool}(h:LatP n le){c a c' a':Nat}(pc:CP n le c c') (pa:CP n le a a') (hac:le a c=true) (hm:∀z y,CP n le z y→le z a=true→z=bt n le∨z=a) (hab:a≠bt n le) :
  (cbl n le c).length=2*(cbl n le (mt n le c a')).length:=by
 have la:=pa.lx
 have la':=pa.ly
 have lc:=pc.lx
 have lca:=h.mlt lc la'
 obtain⟨_,pa1,pa2⟩:=cmp_mem.1 pa.c
 have hsplit:=wj1 (fun z=>le a z) (cbl n le c)
 have dich:∀z,z∈cbl n le c→¬le a z=true→le z a'=true:=fun z hz hn=>by
  have lz:=zf hz
  obtain⟨⟨y,pz⟩,hzc⟩:=(wv lz).1 hz
  have hb:mt n le z a=bt n le:=by
   rcases hm _ _ (CP.meet h pz pa) (h.m2 lz la) with r|r
   ·exact r
   ·exact absurd (r▸h.m1 lz la) hn
  exact cenA h la la' lz pa.z la' (by rw[hb];exact wbz h la') (h.m2 lz la')
 have naa':¬le a a'=true:=fun e=>hab (wsu h la (by rw[←pa1];exact h.mg la' la la e (h.ord.refl a la)))
 have e2:(cbl n le c).filter (fun z => !le a z)=cbl n le (mt n le c a'):=by
  unfold cbl fl
  rw[List.filter_filter]
  refine List.filter_congr fun z hz => ?_
  have lz:=List.mem_range.1 hz
  rw[Bool.eq_iff_iff]
  simp only[Bool.and_eq_true,Bool.not_eq_true']
  constructor
  ·rintro⟨h1,h2,h3⟩
   exact⟨h2,h.mg lc la' lz h3 (dich z (fl_mem.2 ⟨lz,by simp[h2,h3]⟩) (by simp[h1]))⟩
  ·rintro⟨h1,h2⟩
   have k1:=h.tr lz lca lc h2 (h.m1 lc la')
   have k2:=h.tr lz lca la' h2 (h.m2 lc la')
   refine⟨?_,h1,k1⟩
   cases e:le a z with
   | false=>rfl
   | true=>exact absurd (h.tr la lz la' e k2) naa'
 have inv1:∀z,z<n→le a z=true→mt n (du le) (mt n le z a') a=z:=fun z lz e=>by
  have r:=(pa.z z lz).1
  have:mt n le z a=a:=h.as (h.mlt lz la) la (h.m2 lz la) (h.mg lz la la e (h.ord.refl a la))
  rw[this,xl (le:=du le)]at r
  exact r
 have inv2:∀z,z<n→le z a'=true→mt n le (mt n (du le) z a) a'=z:=fun z lz e=>by
  have r:=(pa.z z lz).2
  have:mt n (du le) z a'=a':=h.as (jlt h lz la') la' (jg h lz la' la' e (h.ord.refl a' la')) (j2 h lz la')
  rw[this]at r
  exact r
 have mem2:∀z,z∈(cbl n le c).filter (fun z => !le a z)↔z∈cbl n le (mt n le c a'):=fun z=>by rw[e2]
 have hA:∀z,z∈(cbl n le c).filter (fun z=>le a z)↔z∈cbl n le c∧le a z=true:=fun z=>List.mem_filter
 have le1:((cbl n le c).filter fun z=>le a z).length≤(cbl n le (mt n le c a')).length:=by
  refine wgu (fun z=>mt n le z a') (cbl_nodup.filter _) (fun z hz => ?_) (fun z w hz hw e => ?_)
  ·have ⟨h1,h2⟩:=(hA z).1 hz
   have lz:=zf h1
   obtain⟨⟨y,pz⟩,hzc⟩:=(wv lz).1 h1
   have lm:=h.mlt lz la'
   exact(wv lm).2 ⟨⟨_,CP.meet h pz pa.sym⟩,h.mg lc la' lm (h.tr lm lz lc (h.m1 lz la') hzc) (h.m2 lz la')⟩
  ·have ⟨h1,h2⟩:=(hA z).1 hz
   have ⟨h3,h4⟩:=(hA w).1 hw
   rw[←inv1 z (zf h1) h2,←inv1 w (zf h3) h4]
   exact congrArg (fun t=>mt n (du le) t a) e
 have le2:(cbl n le (mt n le c a')).length≤((cbl n le c).filter fun z=>le a z).length:=by
  refine wgu (fun z=>mt n (du le) z a) cbl_nodup (fun z hz => ?_) (fun z w hz hw e => ?_)
  ·have lz:=zf hz
   obtain⟨⟨y,pz⟩,hzc⟩:=(wv lz).1 hz
   have lj:=jlt h lz la
   exact(hA _).2 ⟨(wv lj).2 ⟨⟨_,CP.join h pz pa⟩,jg h lz la lc (h.tr lz lca lc hzc (h.m1 lc la')) hac⟩,j2 h lz la⟩
  ·have lz:=zf hz
   have lw:=zf hw
   have z1:=h.tr lz lca la' ((wv lz).1 hz).2 (h.m2 lc la')
   have w1:=h.tr lw lca la' ((wv lw).1 hw).2 (h.m2 lc la')
   rw[←inv2 z lz z1,←inv2 w lw w1]
   exact congrArg (fun t=>mt n le t a') e
 have e3:((cbl n le c).filter fun z => !le a z).length=(cbl n le (mt n le c a')).length:=by rw[e2]
 omega
theorem w12 {n:Nat}{le:Nat→Nat→Bool}(h:LatP n le):∀k x y,CP n le x y→x≠bt n le→(fl n fun y=>le y x).length≤k→∃p p',CP n le p p'∧p≠bt n le∧le p x=true∧∀z y,CP n le z y→le z p=true→z=bt n le∨z=p
 | 0,x,y,hx,_,hk=>by
  have:x∈fl n fun y=>le y x:=fl_mem.2 ⟨hx.lx,h.ord.refl x hx.lx⟩
  have:=List.length_pos_of_mem this
  omega
 | k+1,x,y,hx,hb,hk=>by
  by_cases ha:∀z y,CP n le z y→le z x=true→z=bt n le∨z=x
  ·exact⟨x,y,hx,hb,h.ord.refl x hx.lx,ha⟩
  ·have ⟨q,hq⟩:=Classical.not_forall.1 ha
   have ⟨q',hq⟩:=Classical.not_forall.1 hq
   have ⟨hq1,hq2⟩:=Classical.not_imp.1 hq
   have ⟨hq3,hq4⟩:=Classical.not_imp.1 hq2
   have h1:q≠bt n le:=fun e=>hq4 (.inl e)
   have h2:q≠x:=fun e=>hq4 (.inr e)
   have hlt:(fl n fun y=>le y q).length<(fl n fun y=>le y x).length :=
    xh1 (fun y hy e=>h.tr hy hq1.lx hx.lx e hq3) hx.lx (h.ord.refl x hx.lx) (by
     cases e:le x q with
     | false=>rfl
     | true=>exact absurd (h.as hq1.lx hx.lx hq3 e) h2)
   obtain⟨p,p',hp,hpb,hpq,hpm⟩:=w12 h k q q' hq1 h1 (by omega)
   exact⟨p,p',hp,hpb,h.tr hp.lx hq1.lx hx.lx hpq hq3,hpm⟩
theorem w13 {n:Nat}{le:Nat→Nat→Bool}(h:LatP n le):∀k c c',CP n le c c'→(cbl n le c).length≤k→∃m,(cbl n le c).length=2 ^ m
 | 0,c,c',hc,hk=>by
  have:c∈cbl n le c:=(wv hc.lx).2 ⟨⟨_,hc⟩,h.ord.refl c hc.lx⟩
  have:=List.length_pos_of_mem this
  omega
 | k+1,c,c',hc,hk=>by
  have hmem:c∈cbl n le c:=(wv hc.lx).2 ⟨⟨_,hc⟩,h.ord.refl c hc.lx⟩
  have hpos:=List.length_pos_of_mem hmem
  by_cases hb:c=bt n le
  ·refine⟨0, ?_⟩
   have h1:(cbl n le c).length≤[bt n le].length:=wgu id cbl_nodup (fun z hz=>by
    have lz:=zf hz
    have:=((wv lz).1 hz).2
    rw[hb]at this
    have:=wsu h lz this
    simp[this]) (fun _ _ _ _ e=>e)
   simp at h1
   omega
  ·obtain⟨a,a',pa,hab,hac,hm⟩:=w12 h _ c c' hc hb (Nat.le_refl _)
   have e:=xf5 h hc pa hac hm hab
   obtain⟨m,hm2⟩:=w13 h k _ _ (CP.meet h hc pa.sym) (by omega)
   exact⟨m+1,by rw[e,hm2,Nat.pow_succ];omega⟩
theorem xk7 {n:Nat}{le:Nat→Nat→Bool}(h:LatP n le):∃m,(fl n (cenB n le)).length=2 ^ m:=by
 obtain⟨m,hm⟩:=w13 h _ _ _ (CP.bot h).sym (Nat.le_refl _)
 refine⟨m, ?_⟩
 rw[←hm]
 unfold cbl
 congr 1
 refine ut fun x hx => ?_
 rw[wb0 h hx,Bool.and_true]
theorem xw (a:List Int) (h:a.length≤400000000000):V73 big a a=some (true,()):=by
 unfold V73 w40
 rw[cdf (by omega)]
 refine xm0 a.length (fun i=>True) (by omega) (fun rc i hi hI hr => ?_) (fun rc hI => ?_) 0 (by omega) trivial
 ·unfold wi0
  rw[cdt (by omega),jf a i hi,obS,obS,cdf (by omega),wr1 (by omega)]
  exact hr trivial
 ·unfold wi0 wfg
  rw[cdf (by omega)]
theorem DrP.rows12 {p:PT}(h:DrP 12 p):∀r∈p.1,r.length≤4294967296:=fun r hr=>by have:=h.2 r hr;omega
def bitp (c i:Nat):Bool:=decide (c / 2 ^ i % 2=1)
noncomputable def hv (n:Nat) (H:Nat→Bool) (E:Nat→Prop):List Bool:=mkR n fun z=>H z||tv (E z)
def SubA (n:Nat) (le:Nat→Nat→Bool) (S:List Nat):Prop:=bt n le∈S∧(∀s∈S,cpl n le s∈S)∧∀x∈S,∀y∈S,mt n le x y∈S∧mt n (du le) x y∈S
noncomputable def suL (n:Nat) (le:Nat→Nat→Bool) (c:Nat):List (List Int):=((List.range c).filter fun b=>tv (SubA n le (fl n (bitp b)))).map fun b=>cs (fl n (bitp b))
theorem wl9:∀(N:Nat) (L:List Nat),L.Nodup→(∀x∈L,x<N)→L.length≤N:=fun N L h1 h2=>by
 have:=h1.length_le_of_subset (l₂:=List.range N) fun x hx=>List.mem_range.2 (h2 x hx)
 rwa [List.length_range]at this
theorem wb2 {α β:Type}{f:α→β}:∀{l:List α},(∀a∈l,∀b∈l,f a=f b→a=b)→l.Nodup→(l.map f).Nodup
 | [],_,_=>List.nodup_nil
 | a::l,hf,h=>by
  obtain⟨h1,h2⟩:=List.nodup_cons.1 h
  rw[List.map_cons,List.nodup_cons]
  refine⟨fun q => ?_,wb2 (fun x hx y hy=>hf x (List.mem_cons_of_mem _ hx) y (List.mem_cons_of_mem _ hy)) h2⟩
  obtain⟨b,hb,e⟩:=List.mem_map.1 q
  exact h1 (hf b (List.mem_cons_of_mem _ hb) a (by simp) e▸hb)
theorem w17 {n:Nat}{f:Nat→Nat→Int}{k:Nat}(hn:0<n){x:Int}(hx:x∈flt n f k):∃i,i<k*n∧x=f (i / n) (i % n):=by
 obtain⟨i,hi⟩:=List.mem_iff_getElem?.1 hx
 have hil:=(List.getElem?_eq_some_iff.1 hi).1
 rw[wc]at hil
 rw[wge hn hil]at hi
 exact⟨i,hil,(Option.some.inj hi).symm⟩
theorem latOp {n:Nat}{le:Nat→Nat→Bool}(h:LatP n le):opB n ((2:Int),flt n (meetF n le) n,())=true:=by
 have h0:=h.lat.ne
 unfold opB
 rw[Bool.and_eq_true]
 refine⟨decide_eq_true ⟨by omega,by omega, ?_⟩,List.all_eq_true.2 fun x hx => ?_⟩
 ·rw[wc]
  show n*n=n ^ 2
  rw[Nat.pow_two]
 ·obtain⟨i,hi,rfl⟩:=w17 h0 hx
  obtain⟨i1,i2⟩:=w57 hi
  have:=h.mlt i1 i2
  unfold inB meetF
  exact decide_eq_true (by omega)
structure GLat {α:Type}(le:α→α→Prop) (m j:α→α→α):Prop where
 rf:∀a,le a a
 tr:∀{a b c},le a b→le b c→le a c
 asy:∀{a b},le a b→le b a→a=b
 m1:∀a b,le (m a b) a
 m2:∀a b,le (m a b) b
 mg:∀{a b c},le c a→le c b→le c (m a b)
 j1:∀a b,le a (j a b)
 j2:∀a b,le b (j a b)
 jg:∀{a b c},le a c→le b c→le (j a b) c
def GMod {α:Type}(le:α→α→Prop) (m j:α→α→α):Prop:=∀x y z,le x z→j x (m y z)=m (j x y) z
theorem GLat.op {α:Type}{le:α→α→Prop}{m j:α→α→α}(H:GLat le m j):GLat (fun a b=>le b a) j m:=⟨H.rf,fun a b=>H.tr b a,fun a b=>H.asy b a,H.j1,H.j2,H.jg,H.m1,H.m2,H.mg⟩
theorem GLat.mc {α:Type}{le:α→α→Prop}{m j:α→α→α}(H:GLat le m j) (a b:α):m a b=m b a:=H.asy (H.mg (H.m2 a b) (H.m1 a b)) (H.mg (H.m2 b a) (H.m1 b a))
theorem GLat.jc {α:Type}{le:α→α→Prop}{m j:α→α→α}(H:GLat le m j) (a b:α):j a b=j b a:=H.op.mc a b
theorem GMod.op {α:Type}{le:α→α→Prop}{m j:α→α→α}(H:GLat le m j) (M:GMod le m j):GMod (fun a b=>le b a) j m:=fun x y z h=>by
 have:=M z y x h
 rw[H.mc x (j y z),H.jc y z,←this,H.jc,H.mc y x]
def Bst (Q:List Int→Prop) (b:List Int):Prop:=b=[]∧(∀l,¬Q l)∨Q b∧∀l,Q l→lx l b=false
theorem Bst.congr {Q R:List Int→Prop}{b:List Int}(h:Bst Q b) (e:∀l,Q l↔R l):Bst R b:=by
 have:Q=R:=funext fun l=>propext (e l)
 rw[←this];exact h
def SetL (n:Nat) (l:List Int):Prop:=∃P,l=cs (fl n P)
theorem SetL.len {n:Nat}{l:List Int}(h:SetL n l):l.length≤n:=by obtain⟨P,rfl⟩:=h;rw[cs_len];exact jh n P
theorem wyp (R:List (List Int)) (hl:R.length≤1000000000) (hr:∀x∈R,x.length≤10):V106 big R R=some (true,()):=by
 unfold V106 ws5
 rw[cdf (by omega)]
 refine xia R.length (fun i=>True) (by omega) (fun rc i hi hI hr2 => ?_) (fun rc hI => ?_) 0 (by omega) trivial
 ·have:=hr _ (List.getElem_mem hi)
  unfold wcj
  rw[cdt (by omega),jf R i hi,obS,obS,xw _ (by omega),obS,wr1 (by omega)]
  exact hr2 trivial
 ·unfold wcj zw
  rw[cdf (by omega)]
def boolA (n:Nat) (le:Nat→Nat→Bool):AlT:=((n:Int),[((2:Int),flt n (fun x y=>((mt n le x y:Nat):Int)) n,()),((2:Int),flt n (fun x y=>((mt n (du le) x y:Nat):Int)) n,()),((1:Int),(mkR n fun x=>((cpl n le x:Nat):Int),()))],())
theorem wq {n:Nat}{le:Nat→Nat→Bool}(h:BoolP n le):n≤8:=by
 obtain⟨m,hm⟩:=xk7 h.lp
 have e:fl n (cenB n le)=List.range n:=by
  unfold fl
  refine List.filter_eq_self.2 fun x hx => ?_
  have hx:=List.mem_range.1 hx
  obtain⟨c1,c2,c3⟩:=we h.cmp hx
  have hc:cpl n le x∈comp n le x:=cmp_mem.2 ⟨c1,c2,c3⟩
  exact cenB_iff.2 ⟨_,hc,xf4 h.lp h.dis hx hc⟩
 rw[e,List.length_range]at hm
 have h10:=h.lp.le10
 have:m<4:=by
  rcases Nat.lt_or_ge m 4 with c|c
  ·exact c
  ·have:=Nat.pow_le_pow_right (n:=2) (by omega) c
   omega
 have:m=0∨m=1∨m=2∨m=3:=by omega
 rcases this with rfl|rfl|rfl|rfl<;>simp at hm<;>omega
theorem w54 {n:Nat}{le:Nat→Nat→Bool}(h:BoolP n le):V100 big (boolA n le)=some (true,()):=by
 have h0:=h.lp.lat.ne
 have h8:=wq h
 have hnn:n*n≤8*8:=Nat.mul_le_mul h8 h8
 have hs:SmallA (boolA n le):=by
  refine⟨by show 3≤1048576;omega,fun o ho => ?_⟩
  simp only[boolA,List.mem_cons,List.not_mem_nil,or_false]at ho
  rcases ho with rfl|rfl|rfl
  ·show(flt n _ n).length≤_;rw[wc];omega
  ·show(flt n _ n).length≤_;rw[wc];omega
  ·show(mkR n _).length≤_;rw[mkR_len];omega
 rw[wj3 _ hs]
 have e:algB (boolA n le)=true:=by
  unfold algB boolA
  rw[Bool.and_eq_true]
  refine⟨decide_eq_true ⟨by show(1:Int)≤(n:Int);omega,by show(n:Int)≤8;omega,by show 3≤4;omega⟩, ?_⟩
  rw[List.all_cons,List.all_cons,List.all_cons,List.all_nil,Bool.and_true,Bool.and_eq_true,Bool.and_eq_true]
  refine⟨latOp h.lp,latOp h.lp.du, ?_⟩
  unfold opB
  rw[Bool.and_eq_true]
  refine⟨decide_eq_true ⟨by omega,by omega, ?_⟩,List.all_eq_true.2 fun x hx => ?_⟩
  ·show(mkR n _).length=n ^ 1
   rw[mkR_len,Nat.pow_one]
  ·obtain⟨i,hi⟩:=List.mem_iff_getElem?.1 hx
   have hin:i<n:=by
    have:=(List.getElem?_eq_some_iff.1 hi).1
    rwa [mkR_len]at this
   rw[jp hin]at hi
   have:=(we h.cmp hin).1
   have e:=Option.some.inj hi
   subst e
   unfold inB
   exact decide_eq_true (by show(0:Int)≤_∧((cpl n le i:Nat):Int)<(((n:Int).toNat:Nat):Int);omega)
 rw[e]
def okPow (k:Nat):Bool:=match V21 big (k:Int) with
 | some (p,())=>decide (p.1.length≤9)&&p.1.all (fun r=>decide (r.length≤9))&&(match V18 big p with
  | some (ps,())=>decide (ps.length≤100)&&ps.all fun q=>decide (0≤q.1)&&decide (q.1<(p.1.length:Int))&&decide (0≤q.2.1)&&decide (q.2.1<(p.1.length:Int))
  | none=>false)
 | none=>false
theorem xep:(List.range 4).all okPow=true:=by kernel_rfl
theorem xlh {k:Int}(h0:0≤k) (h1:k<4):∃p ps,V21 big k=some (p,())∧DrP 9 p∧V18 big p=some (ps,())∧ps.length≤100∧∀q∈ps,(0≤q.1∧q.1<p.1.length)∧0≤q.2.1∧q.2.1<p.1.length:=by
 have h:=List.all_eq_true.1 xep k.toNat (List.mem_range.2 (by omega))
 unfold okPow at h
 rw[show((k.toNat:Nat):Int)=k by omega]at h
 split at h
 case h_2=>cases h
 rename_i p e
 simp only[Bool.and_eq_true,decide_eq_true_eq,List.all_eq_true]at h
 obtain⟨⟨h1,h2⟩,h3⟩:=h
 split at h3
 case h_2=>cases h3
 rename_i ps e2
 simp only[Bool.and_eq_true,decide_eq_true_eq,List.all_eq_true]at h3
 exact⟨p,ps,e,⟨h1,h2⟩,e2,h3.1,fun q hq=>by
  obtain⟨⟨⟨a,b⟩,c⟩,d⟩:=h3.2 q hq
  exact⟨⟨a,b⟩,c,d⟩⟩
theorem wrx {k:Nat}{c:Cu}(hc:COk (k+410) c):Dq 12 k (V22 big c):=by
 unfold V22 w3h
 obtain⟨b,c1,e1,hc1⟩:=yf (k:=k+408) hc 6
 rw[e1,obS]
 cases b with
 | true =>
  rw[cond_true]
  obtain⟨p,c2,e2,hp,hc2⟩:=wyl (k:=k+8) hc1
  rw[e2,obS]
  exact⟨_,_,rfl,hp,hc2.mono (by omega)⟩
 | false =>
  rw[cond_false]
  obtain⟨v,c2,e2,v0,hc2⟩:=wk (k:=k+406) hc1 (l:=[(2:Int),2,3,3,1,0]) (by simp)
  have hv:0≤v∧v<4:=by
   simp only[List.mem_cons,List.not_mem_nil,or_false]at v0
   omega
  obtain⟨p,ps,e3,hp,e4,hl,hps⟩:=xlh hv.1 hv.2
  have hp':DrP 12 p:=⟨by have:=hp.1;omega,fun r hr=>by have:=hp.2 r hr;omega⟩
  have hn:=hp.1
  obtain⟨names,c3,e5,hl1,hc3⟩:=wgv (k:=k+300) (n:=p.1.length) (by omega) (hc2.mono (by omega))
  obtain⟨b,e6,hb⟩:=wma (n:=p.1.length) (by omega) (l:=names) (by omega)
  rw[e2,obS]
  dsimp only
  rw[e3,obS]
  dsimp only
  rw[e5,obS]
  dsimp only
  rw[e6,obS]
  cases b with
  | false=>exact⟨_,_,rfl,hp',hc3.mono (by omega)⟩
  | true =>
   obtain⟨hb1,hb2⟩:=hb rfl
   rw[cond_true,e4,obS]
   refine xly (Q:=Dq 12 k) ps.length (fun _ qs=>qs.length=ps.length∧∀q∈qs,(0≤q.1∧q.1<p.1.length)∧0≤q.2.1∧q.2.1<p.1.length) (by omega) (fun rc2 i qs hi hI hr => ?_) (fun rc2 qs hI => ?_) 0 (by omega) _ ⟨rfl,hps⟩
   ·obtain⟨i1,i2⟩:=hI
    have hil:i<qs.length:=by omega
    obtain⟨⟨a0,a1⟩,b0,b1⟩:=i2 _ (List.getElem_mem hil)
    obtain⟨x,x1,x2,x3,x4⟩:=wgh hb1 hb2 a0 a1
    obtain⟨y,y1,y2,y3,y4⟩:=wgh hb1 hb2 b0 b1
    unfold whd
    simp only[Int.toNat_natCast,cdt (show(i:Int)<qs.length by omega),jf qs i hil,List.getElem?_eq_getElem hil,x1,x2,y1,y2,obS]
    rw[wr (by omega) (by omega)]
    refine hr _ ⟨by simpa using i1,fun q hq => ?_⟩
    rcases List.mem_or_eq_of_mem_set hq with hq|rfl
    ·exact i2 q hq
    ·exact⟨⟨x3,x4⟩,y3,y4⟩
   ·obtain⟨i1,i2⟩:=hI
    unfold whd wdj
    obtain⟨p',e8,p1,p2⟩:=wl8 (n:=p.1.length) (by omega) (by omega) i2
    rw[cdf (by omega),e8,obS]
    exact⟨_,_,rfl,⟨by show p'.1.length≤12;omega,fun r hr=>by have:=p2 r hr;omega⟩,hc3.mono (by omega)⟩
theorem wxr {code:List Int}(hc:Codes code):∃p c,V22 big (code,((0:Int),((0:Int),())))=some (p,(c,()))∧DrP 12 p∧COk 9500 c:=wrx (k:=9500) (hc.start.mono (by omega))
theorem wyi {n:Nat}{le:Nat→Nat→Bool}(h:BoolP n le) (h2:V48 (pos n le)=some ((some (lat n le),true,()),())):V87 (pos n le)=some ((boolA n le,true,()),()):=by
 unfold V87 w5h
 rw[h2]
 simp only[obS,Bool.not_true,cond_false,w5w h.lp,wbv h]
 rfl
theorem wyg {n:Nat}{le:Nat→Nat→Bool}(h:LatP n le) (h2:V35 (pos n le)=some ((some (lat n le),true,()),())):V91 (pos n le)=some ((cs (atm n le),true,()),()):=by
 unfold V91 xhp V90 xho
 rw[h2,obS]
 dsimp only
 rw[Bool.not_true,cond_false,wxj h]
 rfl
def Wd.du:Wd→Wd
 | .v n => .v n
 | .op g a b => .op (-3-g) a.du b.du
def jn:List Wd→Wd
 | [] => .v 0
 | [x]=>x
 | x::y::l => .op (-2) x (jn (y::l))
def mb (g:Int):Wd→List Wd
 | .v n=>[.v n]
 | .op h a b=>if h=g then mb g a++mb g b else [.op h a b]
def Anti (m:List Wd):Prop:=m.Pairwise fun x y=>wle x y=false∧wle y x=false
structure JC (m:List Wd):Prop where
 two:2≤m.length
 ok:∀x∈m,x.ok
 nj:∀x∈m,x.hd ≠ -2
 anti:Anti m
 low:∀x∈m,x.hd = -1→∀t∈mb (-1) x,wle t (jn m)=false
 srt:SortedL cmpT (m.map Wd.fl)
theorem JC.ne {m:List Wd}(h:JC m):m≠[]:=fun e=>by have:=h.two;rw[e]at this;simp at this
def rows (m:List Wd):List (List Int):=m.map Wd.fl
theorem wgp {m:Nat}{le':Nat→Nat→Bool}(h:LatP m le'){a:Nat}(ha:a<m) (hc:cov m le' (bt m le') a=true):le' a (bt m le')=false:=by
 cases e:le' a (bt m le') with
 | false=>rfl
 | true =>
  have:=h.as ha (w9 h) e (wbz h ha)
  have hls:=wxp hc
  unfold ls at hls
  simp[this]at hls
theorem ze {m:Nat}{le':Nat→Nat→Bool}(h:BoolP m le'){a y z:Nat}(ha:a<m) (hy:y<m) (hz:z<m) (hc:cov m le' (bt m le') a=true):le' a (mt m (du le') y z)=true↔le' a y=true∨le' a z=true :=
 ⟨w5y h ha hy hz hc,fun q=>q.elim (fun e=>h.lp.tr ha hy (jlt h.lp hy hz) e (j1 h.lp hy hz)) (fun e=>h.lp.tr ha hz (jlt h.lp hy hz) e (j2 h.lp hy hz))⟩
theorem wbw {m:Nat}{le':Nat→Nat→Bool}(h:LatP m le'){a y z:Nat}(ha:a<m) (hy:y<m) (hz:z<m):le' a (mt m le' y z)=true↔le' a y=true∧le' a z=true :=
 ⟨fun q=>⟨h.tr ha (h.mlt hy hz) hy q (h.m1 hy hz),h.tr ha (h.mlt hy hz) hz q (h.m2 hy hz)⟩,fun q=>h.mg hy hz ha q.1 q.2⟩
theorem ye {m:Nat}{le':Nat→Nat→Bool}(h:BoolP m le'){a x:Nat}(ha:a<m) (hx:x<m) (hc:cov m le' (bt m le') a=true):le' a (cpl m le' x) = !le' a x:=by
 obtain⟨q1,q2,q3⟩:=we h.cmp hx
 have n0:=wgp h.lp ha hc
 have t0:=wb0 h.lp ha
 rw[←q3,ze h ha q1 hx hc]at t0
 cases e1:le' a x with
 | true =>
  cases e2:le' a (cpl m le' x) with
  | false=>rfl
  | true =>
   have:=h.lp.mg q1 hx ha e2 e1
   rw[q2,n0]at this
   cases this
 | false =>
  rw[e1]at t0
  simpa using t0
theorem wxy {m:Nat}{le':Nat→Nat→Bool}(h:BoolP m le'){a:Nat}(ha:a<m) (hc:cov m le' (bt m le') a=true):∀(S:List Nat) (j:Nat),j<m→(∀s∈S,s<m)→(le' a (S.foldl (fun j x=>mt m (du le') j x) j)=true↔le' a j=true∨∃s∈S,le' a s=true)
 | [],j,hj,_=>by simp
 | s::S,j,hj,hS=>by
  have hs:=hS s List.mem_cons_self
  rw[List.foldl_cons,wxy h ha hc S _ (jlt h.lp hj hs) fun t ht=>hS t (List.mem_cons_of_mem _ ht),ze h ha hj hs hc]
  constructor
  ·rintro ((e|e)|⟨t,ht,e⟩)
   ·exact .inl e
   ·exact .inr ⟨s,List.mem_cons_self,e⟩
   ·exact .inr ⟨t,List.mem_cons_of_mem _ ht,e⟩
  ·rintro (e|⟨t,ht,e⟩)
   ·exact .inl (.inl e)
   ·rcases List.mem_cons.1 ht with rfl|ht
    ·exact .inl (.inr e)
    ·exact .inr ⟨t,ht,e⟩
theorem wxz {m:Nat}{le':Nat→Nat→Bool}(h:BoolP m le'){a:Nat}(ha:a<m) (hc:cov m le' (bt m le') a=true){S:List Nat}(hS:∀s∈S,s<m):le' a (jnf m le' S)=true↔∃s∈S,le' a s=true:=by
 unfold jnf
 rw[wxy h ha hc S _ (w9 h.lp) hS,wgp h.lp ha hc]
 simp
theorem xk5 {m:Nat}{le':Nat→Nat→Bool}{a b:Nat}(ha:a<m) (hca:cov m le' (bt m le') a=true) (hcb:cov m le' (bt m le') b=true) (hl:le' a b=true):a=b:=by
 by_cases e:a=b
 ·exact e
 ·have c1:=wxp hca
  have c2:ls le' a b=true:=by unfold ls;simp[e,hl]
  rw[wss ha c1 c2]at hcb
  cases hcb
theorem wg {m:Nat}{le':Nat→Nat→Bool}{j:Nat}(hj:j<(atm m le').length):(atm m le').getD j 0<m∧cov m le' (bt m le') ((atm m le').getD j 0)=true:=fl_mem.1 (yg hj)
theorem xk4 {m:Nat}{le':Nat→Nat→Bool}{i j:Nat}(hi:i<(atm m le').length) (hj:j<(atm m le').length) (e:(atm m le').getD i 0=(atm m le').getD j 0):i=j:=by
 rw[wo hi,wo hj]at e
 exact(List.getElem_inj (xgb m _)).1 e
theorem wpz {m:Nat}{le':Nat→Nat→Bool}(h:LatP m le'){i j:Nat}(hi:i<(atm m le').length) (hj:j<(atm m le').length):le' ((atm m le').getD i 0) ((atm m le').getD j 0)=decide (i=j):=by
 obtain⟨a1,a2⟩:=wg hi
 obtain⟨b1,b2⟩:=wg hj
 by_cases e:i=j
 ·subst e
  rw[decide_eq_true rfl,h.ord.refl _ a1]
 ·rw[decide_eq_false e]
  cases q:le' ((atm m le').getD i 0) ((atm m le').getD j 0) with
  | false=>rfl
  | true=>exact absurd (xk4 hi hj (xk5 a1 a2 b2 q)) e
theorem sel_mem {le:Nat→Nat→Bool}{A G B:List Nat}{x b:Nat}:∀{k},b∈sel le A G B x k↔∃i,i<k∧b=B.getD i 0∧le (A.getD (G.getD i 0) 0) x=true
 | 0=>by simp[sel]
 | k+1=>by
  have ih:b∈sel le A G B x k↔_:=sel_mem
  unfold sel
  constructor
  ·intro q
   split at q
   ·rename_i c
    rcases List.mem_append.1 q with q|q
    ·obtain⟨i,hi,r⟩:=ih.1 q
     exact⟨i,by omega,r⟩
    ·rw[List.mem_singleton]at q
     exact⟨k,by omega,q,c⟩
   ·obtain⟨i,hi,r⟩:=ih.1 q
    exact⟨i,by omega,r⟩
  ·rintro⟨i,hi,e,c⟩
   by_cases q:i=k
   ·subst q
    rw[if_pos c,e]
    exact List.mem_append.2 (.inr List.mem_cons_self)
   ·have:=ih.2 ⟨i,by omega,e,c⟩
    split
    ·exact List.mem_append.2 (.inl this)
    ·exact this
theorem xd9 {n m:Nat}{le le':Nat→Nat→Bool}(h':BoolP m le'){A G:List Nat}{x:Nat}:bmv m le le' A G (atm m le') x<m:=wxv h'.lp (wp6 wxi _ (Nat.le_refl _))
theorem xp {m:Nat}{le le':Nat→Nat→Bool}(h':BoolP m le'){A G:List Nat}{j x:Nat}(hj:j<(atm m le').length):le' ((atm m le').getD j 0) (bmv m le le' A G (atm m le') x)=le (A.getD (G.getD j 0) 0) x:=by
 obtain⟨b1,b2⟩:=wg hj
 rw[Bool.eq_iff_iff]
 unfold bmv
 rw[wxz h' b1 b2 (wp6 wxi _ (Nat.le_refl _))]
 constructor
 ·rintro⟨s,hs,e⟩
  obtain⟨i,hi,rfl,c⟩:=sel_mem.1 hs
  rw[wpz h'.lp hj hi,decide_eq_true_eq]at e
  rw[e];exact c
 ·intro c
  exact⟨_,sel_mem.2 ⟨j,hj,rfl,c⟩,by rw[wpz h'.lp hj hj,decide_eq_true rfl]⟩
theorem w5x {n:Nat}{le:Nat→Nat→Bool}(h:LatP n le):∀d x,x<n→(fl n fun z=>ls le z x).length<d→x≠bt n le→∃k,k<(atm n le).length∧le ((atm n le).getD k 0) x=true:=by
 intro d
 induction d with
 | zero=>intro x _ hd;omega
 | succ d ih =>
  intro x hx hd h0
  by_cases ec:cov n le (bt n le) x=true
  ·obtain⟨k,hk,e⟩:=List.getElem_of_mem (show x∈atm n le from fl_mem.2 ⟨hx,ec⟩)
   exact⟨k,hk,by rw[wo hk,e];exact h.ord.refl x hx⟩
  ·have h1:ls le (bt n le) x=true:=by unfold ls;simp[Ne.symm h0,wbz h hx]
   by_cases q:∃z,z<n∧ls le (bt n le) z=true∧ls le z x=true
   ·obtain⟨y,hy,y1,y2⟩:=q
    have hlt:=xh1 (fun z hz hzy=>xn3 h hz hy hx hzy y2) hy y2 (xnt (le:=le))
    obtain⟨k,hk,e⟩:=ih y hy (by omega) (by intro e;unfold ls at y1;simp[e]at y1)
    exact⟨k,hk,h.tr (wxi _ (yg hk)) hy hx e (by unfold ls at y2;simp at y2;exact y2.2)⟩
   ·exact absurd (w51 h1 fun z hz hzz=>q ⟨z,hz,hzz⟩) ec
theorem wxm {n:Nat}{le:Nat→Nat→Bool}(h:BoolP n le){x y:Nat}(hx:x<n) (hy:y<n) (hh:∀j,j<(atm n le).length→le ((atm n le).getD j 0) x=true→le ((atm n le).getD j 0) y=true):le x y=true:=by
 obtain⟨q1,q2,q3⟩:=we h.cmp hy
 have hb:mt n le x (cpl n le y)=bt n le:=by
  by_cases e:mt n le x (cpl n le y)=bt n le
  ·exact e
  ·obtain⟨k,hk,e2⟩:=w5x h.lp _ _ (h.lp.mlt hx q1) (Nat.lt_succ_self _) e
   obtain⟨a1,a2⟩:=wg hk
   obtain⟨e3,e4⟩:=(wbw h.lp a1 hx q1).1 e2
   rw[ye h a1 hy a2,hh k hk e3]at e4
   cases e4
 refine w5z h hx hy hy (fun t _ _ h2=>h2) fun t ht h1 h2 => ?_
 have:=h.lp.mg hx q1 ht h1 h2
 rw[hb]at this
 exact h.lp.tr ht (w9 h.lp) hy this (wbz h.lp hy)
theorem w5 {n:Nat}{le:Nat→Nat→Bool}(h:BoolP n le){x y:Nat}(hx:x<n) (hy:y<n) (hh:∀j,j<(atm n le).length→le ((atm n le).getD j 0) x=le ((atm n le).getD j 0) y):x=y :=
 h.lp.as hx hy (wxm h hx hy fun j hj e=>by rw[←hh j hj];exact e) (wxm h hy hx fun j hj e=>by rw[hh j hj];exact e)
theorem xgc {n:Nat}{f:Nat→Nat}{x:Nat}(hx:x<n):(mkR n f).getD x 0=f x:=by rw[List.getD_eq_getElem?_getD,jp hx];rfl
theorem xnq {n m:Nat}{le le':Nat→Nat→Bool}(h:BoolP n le) (h':BoolP m le'){G:List Nat}(hG:∀g∈G,g<(atm n le).length) (hgl:G.length=(atm m le').length):LMp n m le le' (mkR n fun x=>bmv m le le' (atm n le) G (atm m le') x):=by
 have hat:∀j,j<(atm m le').length→(atm n le).getD (G.getD j 0) 0<n∧cov n le (bt n le) ((atm n le).getD (G.getD j 0) 0)=true:=fun j hj=>wg (hG _ (yg (by omega)))
 have hF:∀x,x<n→(mkR n fun x=>bmv m le le' (atm n le) G (atm m le') x).getD x 0=bmv m le le' (atm n le) G (atm m le') x:=fun x hx=>xgc hx
 have hlt:∀x,bmv m le le' (atm n le) G (atm m le') x<m:=fun x=>xd9 (n:=n) h'
 refine⟨?_, ?_,fun x y hx hy=>⟨?_, ?_⟩⟩
 ·rw[hF _ (w9 h.lp)]
  refine w5 h' (hlt _) (w9 h'.lp) fun j hj => ?_
  rw[xp h' hj,wgp h.lp (hat j hj).1 (hat j hj).2,wgp h'.lp (wg hj).1 (wg hj).2]
 ·rw[hF _ (xu h.lp)]
  refine w5 h' (hlt _) (xu h'.lp) fun j hj => ?_
  rw[xp h' hj,wb0 h.lp (hat j hj).1,wb0 h'.lp (wg hj).1]
 ·have l1:=h.lp.mlt hx hy
  rw[hF _ l1,hF _ hx,hF _ hy]
  refine w5 h' (hlt _) (h'.lp.mlt (hlt _) (hlt _)) fun j hj => ?_
  rw[xp h' hj,Bool.eq_iff_iff,wbw h.lp (hat j hj).1 hx hy,wbw h'.lp (wg hj).1 (hlt _) (hlt _),xp h' hj,xp h' hj]
 ·have l1:=jlt h.lp hx hy
  rw[hF _ l1,hF _ hx,hF _ hy]
  refine w5 h' (hlt _) (jlt h'.lp (hlt _) (hlt _)) fun j hj => ?_
  rw[xp h' hj,Bool.eq_iff_iff,ze h (hat j hj).1 hx hy (hat j hj).2,ze h' (wg hj).1 (hlt _) (hlt _) (wg hj).2,xp h' hj,xp h' hj]
def codP (Q:Nat→Bool):Nat→Nat
 | 0=>0
 | k+1=>codP Q k+(if Q k=true then 2 ^ k else 0)
theorem wgb (Q:Nat→Bool):∀k,codP Q k<2 ^ k
 | 0=>by simp[codP]
 | k+1=>by
  have:=wgb Q k
  rw[codP,Nat.pow_succ]
  split<;>omega
theorem xf3 {c i k:Nat}{b:Bool}(hi:i<k):bitp (c+(if b=true then 2 ^ k else 0)) i=bitp c i:=by
 cases b with
 | false=>rw[if_neg (by simp),Nat.add_zero]
 | true =>
  have e:2 ^ k=2 ^ i*(2*2 ^ (k-i-1)):=by
   rw[←Nat.pow_succ',←Nat.pow_add]
   congr 1
   omega
  unfold bitp
  rw[if_pos rfl,e,Nat.add_mul_div_left _ _ (Nat.pow_pos (by omega)),Nat.add_mul_mod_self_left]
theorem wgq (Q:Nat→Bool):∀{k i},i<k→bitp (codP Q k) i=Q i
 | k+1,i,hi=>by
  rw[codP]
  by_cases e:i=k
  ·subst e
   have:=wgb Q i
   unfold bitp
   cases Q i with
   | false=>simp[Nat.div_eq_of_lt this]
   | true=>rw[if_pos rfl,Nat.add_div_right _ (Nat.pow_pos (by omega)),Nat.div_eq_of_lt this];rfl
  ·rw[xf3 (by omega)]
   exact wgq Q (by omega)
theorem wl7 (c:Nat):∀k,codP (bitp c) k=c % 2 ^ k
 | 0=>by simp[codP,Nat.mod_one]
 | k+1=>by
  rw[codP,wl7 c k,Nat.mod_pow_succ]
  unfold bitp
  have:c / 2 ^ k % 2=0∨c / 2 ^ k % 2=1:=by omega
  rcases this with e|e<;>simp[e]
theorem wp0 {Q R:Nat→Bool}:∀{k},(∀i,i<k→Q i=R i)→codP Q k=codP R k
 | 0,_=>rfl
 | k+1,h=>by rw[codP,codP,wp0 fun i hi=>h i (by omega),h k (by omega)]
theorem wxk {k c c':Nat}(h:c<2 ^ k) (h':c'<2 ^ k) (hh:∀i,i<k→bitp c i=bitp c' i):c=c':=by
 have:=wp0 hh
 rw[wl7,wl7,Nat.mod_eq_of_lt h,Nat.mod_eq_of_lt h']at this
 exact this
theorem zk {n:Nat}{le:Nat→Nat→Bool}(h:BoolP n le):(atm n le).length≤3:=by
 have h8:=wq h
 have hS:∀c,∀s∈(fl (atm n le).length (bitp c)).map fun i=>(atm n le).getD i 0,s<n:=by
  intro c s hs
  obtain⟨i,hi,rfl⟩:=List.mem_map.1 hs
  exact(wg (fl_mem.1 hi).1).1
 have key:∀c i,i<(atm n le).length→le ((atm n le).getD i 0) (jnf n le ((fl (atm n le).length (bitp c)).map fun i=>(atm n le).getD i 0))=bitp c i:=by
  intro c i hi
  obtain⟨b1,b2⟩:=wg hi
  rw[Bool.eq_iff_iff,wxz h b1 b2 (hS c)]
  constructor
  ·rintro⟨s,hs,e⟩
   obtain⟨j,hj,rfl⟩:=List.mem_map.1 hs
   rw[wpz h.lp hi (fl_mem.1 hj).1,decide_eq_true_eq]at e
   rw[e];exact(fl_mem.1 hj).2
  ·intro e
   exact⟨_,List.mem_map.2 ⟨i,fl_mem.2 ⟨hi,e⟩,rfl⟩,h.lp.ord.refl _ b1⟩
 have:=wl9 n ((List.range (2 ^ (atm n le).length)).map fun c=>jnf n le ((fl (atm n le).length (bitp c)).map fun i=>(atm n le).getD i 0))
  (wb2 (fun a ha b hb e=>wxk (List.mem_range.1 ha) (List.mem_range.1 hb) fun i hi=>by rw[←key a i hi,←key b i hi,e]) List.nodup_range)
  (fun x hx=>by
   obtain⟨c,_,rfl⟩:=List.mem_map.1 hx
   exact wxv h.lp (hS c))
 rw[List.length_map,List.length_range]at this
 rcases Nat.lt_or_ge 3 (atm n le).length with c|c
 ·have:=Nat.pow_le_pow_right (n:=2) (by omega) c
  omega
 ·exact c
def sle (x y:Nat):Bool:=Nat.beq (Nat.land x y) x
def subB (n c:Nat):Bool:=bitp c 0&&((List.range n).all fun s => !bitp c s||bitp c (n-1-s))&&(List.range n).all fun x => !bitp c x||(List.range n).all fun y => !bitp c y||(bitp c (Nat.land x y)&&bitp c (Nat.lor x y))
def stdOk (k:Nat):Bool :=
 ((List.range (2 ^ k)).all fun x=>sle x x&&Nat.beq (cpl (2 ^ k) sle x) (2 ^ k-1-x)&&Nat.ble 1 (comp (2 ^ k) sle x).length) &&
 ((List.range (2 ^ k)).all fun x=>(List.range (2 ^ k)).all fun y=>(Nat.beq x y || !sle x y || !sle y x)&&Nat.ble (Nat.land x y+1) (2 ^ k)&&Nat.ble (Nat.lor x y+1) (2 ^ k)&&decide (bnd (2 ^ k) sle [x,y]=Int.ofNat (Nat.land x y))&&decide (bnd (2 ^ k) (du sle) [x,y]=Int.ofNat (Nat.lor x y))) &&
 ((List.range (2 ^ k)).all fun x=>(List.range (2 ^ k)).all fun y=>(List.range (2 ^ k)).all fun z=>(!sle x y || !sle y z||sle x z)&&Nat.beq (Nat.land x (Nat.lor y z)) (Nat.lor (Nat.land x y) (Nat.land x z))) &&
 Nat.beq (gb (2 ^ k) (du sle) []) 0&&Nat.beq (atm (2 ^ k) sle).length k&&Nat.beq ((List.range (2 ^ (2 ^ k))).filter (subB (2 ^ k))).length ([1,1,2,5].getD k 0)
theorem xnw:(List.range 4).all stdOk=true:=by kernel_rfl
theorem wmd {k:Nat}(hk:k≤3):BoolP (2 ^ k) sle∧(atm (2 ^ k) sle).length=k∧(suL (2 ^ k) sle (2 ^ (2 ^ k))).length=[1,1,2,5].getD k 0:=by
 have hh:=List.all_eq_true.1 xnw k (List.mem_range.2 (by omega))
 have h8:2 ^ k≤8:=Nat.pow_le_pow_right (n:=2) (by omega) hk
 have hp:0<2 ^ k:=Nat.pow_pos (by omega)
 unfold stdOk at hh
 simp only[Bool.and_eq_true,List.all_eq_true,List.mem_range,decide_eq_true_eq,Nat.beq_eq,Nat.ble_eq,Bool.or_eq_true,Bool.not_eq_true']at hh
 obtain⟨⟨⟨⟨⟨h1,h2⟩,h3⟩,h4⟩,h5⟩,h6⟩:=hh
 have m1:∀x y,x<2 ^ k→y<2 ^ k→mt (2 ^ k) sle x y=Nat.land x y:=fun x y hx hy=>by
  unfold mt;rw[(h2 x hx y hy).1.2];rfl
 have m2:∀x y,x<2 ^ k→y<2 ^ k→mt (2 ^ k) (du sle) x y=Nat.lor x y:=fun x y hx hy=>by
  unfold mt;rw[(h2 x hx y hy).2];rfl
 have l1:∀x y,x<2 ^ k→y<2 ^ k→Nat.land x y<2 ^ k:=fun x y hx hy=>(h2 x hx y hy).1.1.1.2
 have l2:∀x y,x<2 ^ k→y<2 ^ k→Nat.lor x y<2 ^ k:=fun x y hx hy=>(h2 x hx y hy).1.1.2
 have B:BoolP (2 ^ k) sle:=by
  refine⟨⟨by omega,⟨fun x hx=>(h1 x hx).1.1,fun x y hx hy hne hl => ?_,fun x y z hx hy hz a b => ?_⟩,⟨hp,fun x y hx hy => ?_,fun x y hx hy => ?_⟩⟩,fun x y z hx hy hz => ?_,fun x hx e => ?_⟩
  ·rcases (h2 x hx y hy).1.1.1.1 with(e|e)|e
   ·exact absurd e hne
   ·rw[e]at hl;cases hl
   ·exact e
  ·rcases (h3 x hx y hy z hz).1 with(e|e)|e
   ·rw[e]at a;cases a
   ·rw[e]at b;cases b
   ·exact e
  ·rw[(h2 x hx y hy).1.2];exact Int.natCast_nonneg _
  ·rw[(h2 x hx y hy).2];exact Int.natCast_nonneg _
  ·rw[m2 y z hy hz,m1 x _ hx (l2 y z hy hz),m1 x y hx hy,m1 x z hx hz,m2 _ _ (l1 x y hx hy) (l1 x z hx hz)]
   exact(h3 x hx y hy z hz).2
  ·have:=(h1 x hx).2
   rw[e]at this
   simp at this
 refine⟨B,h5, ?_⟩
 rw[←h6]
 unfold suL
 rw[List.length_map]
 congr 1
 refine List.filter_congr fun c _ => ?_
 have mem:∀{x},x<2 ^ k→(x∈fl (2 ^ k) (bitp c)↔bitp c x=true):=fun {x} hx=>⟨fun q=>(fl_mem.1 q).2,fun q=>fl_mem.2 ⟨hx,q⟩⟩
 rw[Bool.eq_iff_iff,tv_iff]
 unfold SubA subB
 rw[show bt (2 ^ k) sle=0 from h4,mem hp]
 simp only[Bool.and_eq_true,List.all_eq_true,List.mem_range,Bool.or_eq_true,Bool.not_eq_true']
 constructor
 ·rintro⟨a,b,d⟩
  refine⟨⟨a,fun s hs => ?_⟩,fun x hx => ?_⟩
  ·cases q:bitp c s with
   | false=>exact .inl rfl
   | true =>
    have:=b s ((mem hs).2 q)
    rw[(h1 s hs).1.2,mem (by omega)]at this
    exact .inr this
  ·cases q:bitp c x with
   | false=>exact .inl rfl
   | true =>
    refine .inr fun y hy => ?_
    cases r:bitp c y with
    | false=>exact .inl rfl
    | true =>
     have:=d x ((mem hx).2 q) y ((mem hy).2 r)
     rw[m1 x y hx hy,m2 x y hx hy,mem (l1 x y hx hy),mem (l2 x y hx hy)]at this
     exact .inr this
 ·rintro⟨⟨a,b⟩,d⟩
  refine⟨a,fun s hs => ?_,fun x hx y hy => ?_⟩
  ·obtain⟨s1,s2⟩:=fl_mem.1 hs
   rw[(h1 s s1).1.2,mem (by omega)]
   exact(b s s1).resolve_left (by rw[s2];simp)
  ·obtain⟨x1,x2⟩:=fl_mem.1 hx
   obtain⟨y1,y2⟩:=fl_mem.1 hy
   rw[m1 x y x1 y1,m2 x y x1 y1,mem (l1 x y x1 y1),mem (l2 x y x1 y1)]
   exact(((d x x1).resolve_left (by rw[x2];simp)) y y1).resolve_left (by rw[y2];simp)
theorem xnu (n:Nat) (f:Nat→Nat):(mkR n fun x=>((f x:Nat):Int))=cs (mkR n f):=by
 unfold cs mkR;rw[List.map_map];rfl
theorem xnr {m:Nat}{F:List Nat}(hF:∀x∈F,x<m):(cs F).all (inB m)=true:=List.all_eq_true.2 fun x hx=>by
 obtain⟨i,hi,rfl⟩:=List.mem_map.1 hx
 have:=hF i hi
 unfold inB
 exact decide_eq_true (by omega)
theorem xgl {n:Nat}{le:Nat→Nat→Bool}(h:BoolP n le):2 ^ (atm n le).length≤n:=by
 have hS:∀c,∀s∈(fl (atm n le).length (bitp c)).map fun i=>(atm n le).getD i 0,s<n:=by
  intro c s hs
  obtain⟨i,hi,rfl⟩:=List.mem_map.1 hs
  exact(wg (fl_mem.1 hi).1).1
 have key:∀c i,i<(atm n le).length→le ((atm n le).getD i 0) (jnf n le ((fl (atm n le).length (bitp c)).map fun i=>(atm n le).getD i 0))=bitp c i:=by
  intro c i hi
  obtain⟨b1,b2⟩:=wg hi
  rw[Bool.eq_iff_iff,wxz h b1 b2 (hS c)]
  constructor
  ·rintro⟨s,hs,e⟩
   obtain⟨j,hj,rfl⟩:=List.mem_map.1 hs
   rw[wpz h.lp hi (fl_mem.1 hj).1,decide_eq_true_eq]at e
   rw[e];exact(fl_mem.1 hj).2
  ·intro e
   exact⟨_,List.mem_map.2 ⟨i,fl_mem.2 ⟨hi,e⟩,rfl⟩,h.lp.ord.refl _ b1⟩
 have:=wl9 n ((List.range (2 ^ (atm n le).length)).map fun c=>jnf n le ((fl (atm n le).length (bitp c)).map fun i=>(atm n le).getD i 0))
  (wb2 (fun a ha b hb e=>wxk (List.mem_range.1 ha) (List.mem_range.1 hb) fun i hi=>by rw[←key a i hi,←key b i hi,e]) List.nodup_range)
  (fun x hx=>by
   obtain⟨c,_,rfl⟩:=List.mem_map.1 hx
   exact wxv h.lp (hS c))
 rwa [List.length_map,List.length_range]at this
theorem wn (le:Nat→Nat→Bool) (A:List Nat) (x:Nat):∀k,codeOf le A x k=codP (fun j=>le (A.getD j 0) x) k
 | 0=>rfl
 | k+1=>by rw[wi,wn le A x k,codP];rfl
theorem xf7 {n:Nat}{le:Nat→Nat→Bool}(h:BoolP n le){x y:Nat}(hx:x<n) (hy:y<n) (e:codeOf le (atm n le) x (atm n le).length=codeOf le (atm n le) y (atm n le).length):x=y:=by
 rw[wn,wn]at e
 refine w5 h hx hy fun j hj => ?_
 rw[←wgq (fun j=>le ((atm n le).getD j 0) x) hj,e,wgq (fun j=>le ((atm n le).getD j 0) y) hj]
theorem xn4 {n:Nat}{le:Nat→Nat→Bool}(h:BoolP n le):n=2 ^ (atm n le).length:=by
 have a:=xgl h
 have b:=wl9 (2 ^ (atm n le).length) ((List.range n).map fun x=>codeOf le (atm n le) x (atm n le).length)
  (wb2 (fun x hx y hy e=>xf7 h (List.mem_range.1 hx) (List.mem_range.1 hy) e) List.nodup_range)
  (fun c hc=>by
   obtain⟨x,_,rfl⟩:=List.mem_map.1 hc
   rw[wn]
   exact wgb _ _)
 rw[List.length_map,List.length_range]at b
 omega
theorem wxn {n:Nat}{le:Nat→Nat→Bool}(h:BoolP n le){x:Nat}(hx:x<n):∀k,k≤(atm n le).length→codeOf le (atm n le) x k+codeOf le (atm n le) (cpl n le x) k+1=2 ^ k
 | 0,_=>rfl
 | k+1,hk=>by
  have ih:=wxn h hx k (by omega)
  obtain⟨a1,a2⟩:=wg (show k<(atm n le).length by omega)
  rw[wi,wi,ye h a1 hx a2,Nat.pow_succ]
  unfold pw
  cases le ((atm n le).getD k 0) x<;>simp<;>omega
theorem w14 {n:Nat}{le:Nat→Nat→Bool}(h:BoolP n le){x:Nat}(hx:x<n):cpl n le (cpl n le x)=x:=by
 have h1:=(we h.cmp hx).1
 have h2:=(we h.cmp h1).1
 refine w5 h h2 hx fun j hj => ?_
 obtain⟨a1,a2⟩:=wg hj
 rw[ye h a1 h1 a2,ye h a1 hx a2,Bool.not_not]
def stdBit (k:Nat):Bool:=(List.range k).all fun j=>(List.range (2 ^ k)).all fun y=>sle ((atm (2 ^ k) sle).getD j 0) y==bitp y j
theorem xgn:(List.range 4).all stdBit=true:=by kernel_rfl
theorem xlk {k j y:Nat}(hk:k≤3) (hj:j<k) (hy:y<2 ^ k):sle ((atm (2 ^ k) sle).getD j 0) y=bitp y j:=by
 have hh:=List.all_eq_true.1 xgn k (List.mem_range.2 (by omega))
 unfold stdBit at hh
 have:=List.all_eq_true.1 (List.all_eq_true.1 hh j (List.mem_range.2 hj)) y (List.mem_range.2 hy)
 exact eq_of_beq this
theorem xf6 {n:Nat}{le:Nat→Nat→Bool}(h:BoolP n le) (x:Nat):codeOf le (atm n le) x (atm n le).length=bmv (2 ^ (atm n le).length) le sle (atm n le) (List.range (atm n le).length) (atm (2 ^ (atm n le).length) sle) x:=by
 have h3:=zk h
 obtain⟨B,hB,_⟩:=wmd h3
 generalize hA:atm n le=A at *
 have hl:codeOf le A x A.length<2 ^ A.length:=by rw[wn];exact wgb _ _
 refine w5 B hl (xd9 (n:=n) B) fun j hj => ?_
 rw[hB]at hj
 have rg:(List.range A.length).getD j 0=j:=by rw[wo (by rw[List.length_range];exact hj),List.getElem_range]
 rw[xp B (by omega),xlk h3 hj hl,wn,wgq _ hj,rg]
theorem xf8 {n:Nat}{le:Nat→Nat→Bool}(h:BoolP n le):LMp n (2 ^ (atm n le).length) le sle (mkR n fun x=>codeOf le (atm n le) x (atm n le).length):=by
 obtain⟨B,hB,_⟩:=wmd (zk h)
 have e:(fun x=>codeOf le (atm n le) x (atm n le).length)=fun x=>bmv (2 ^ (atm n le).length) le sle (atm n le) (List.range (atm n le).length) (atm (2 ^ (atm n le).length) sle) x:=funext fun x=>xf6 h x
 rw[e]
 exact xnq h B (fun g hg=>List.mem_range.1 hg) (by rw[List.length_range,hB])
def stdPow (k:Nat):Bool:=match V93 big (k:Int) with
 | some ((p,b,()),())=>b&&decide (p=pos (2 ^ k) sle)
 | none=>false
theorem xgo:(List.range 4).all stdPow=true:=by kernel_rfl
theorem xli {k:Nat}(hk:k≤3):V93 big (k:Int)=some ((pos (2 ^ k) sle,true,()),()):=by
 have hh:=List.all_eq_true.1 xgo k (List.mem_range.2 (by omega))
 unfold stdPow at hh
 split at hh
 case h_2=>cases hh
 rename_i p b e
 simp only[Bool.and_eq_true,decide_eq_true_eq]at hh
 rw[e,hh.1,hh.2]
theorem wxo {n:Nat}{le:Nat→Nat→Bool}(h:BoolP n le):V97 (pos n le) (pos (2 ^ (atm n le).length) sle) (mkR n fun x=>((codeOf le (atm n le) x (atm n le).length:Nat):Int))=some ((true,true,()),()):=by
 obtain⟨B,hB,_⟩:=wmd (zk h)
 have hF:∀y∈mkR n fun x=>codeOf le (atm n le) x (atm n le).length,y<2 ^ (atm n le).length:=fun y hy=>by
  obtain⟨x,_,rfl⟩:=List.mem_map.1 hy
  rw[wn]
  exact wgb _ _
 rw[xnu]
 unfold V97 xht V94 xhr
 rw[xb h.lp,xb B.lp]
 simp only[obS,cond_true,Bool.not_true,cond_false]
 rw[xen h.lp B.lp (mkR_len _ _) hF (xnr hF),tv_t (xf8 h)]
 rfl
theorem yi {n:Nat}{le:Nat→Nat→Bool}(h10:n≤10):SmallA (ringAlg n le):=by
 have hnn:=wb1 (i:=n) (n:=n) h10 h10
 refine⟨by simp[ringAlg],fun o ho => ?_⟩
 have hl:=wc n (meetF n le) n
 have hl2:=wc n (sumF n le) n
 simp only[ringAlg,List.mem_cons,List.not_mem_nil,or_false]at ho
 rcases ho with rfl|rfl
 ·simp only[hl2];omega
 ·simp only[hl];omega
theorem ringOpF {n:Nat}{g:Nat→Nat→Nat}(h0:0<n) (hg:∀x y,x<n→y<n→g x y<n):opB n ((2:Int),flt n (fun x y=>((g x y:Nat):Int)) n,())=true:=by
 unfold opB
 rw[Bool.and_eq_true]
 refine⟨decide_eq_true ⟨by omega,by omega, ?_⟩,List.all_eq_true.2 fun x hx => ?_⟩
 ·rw[wc]
  show n*n=n ^ 2
  rw[Nat.pow_two]
 ·obtain⟨i,hi,rfl⟩:=w17 h0 hx
  obtain⟨i1,i2⟩:=w57 hi
  have:=hg _ _ i1 i2
  unfold inB
  exact decide_eq_true (by omega)
theorem xd8 {n:Nat}{le:Nat→Nat→Bool}(h:BoolP n le):algB (ringAlg n le)=true:=by
 have h0:=h.lp.lat.ne
 have h8:=wq h
 unfold algB ringAlg
 rw[Bool.and_eq_true]
 refine⟨decide_eq_true ⟨by show(1:Int)≤(n:Int);omega,by show(n:Int)≤8;omega,by show 2≤4;omega⟩, ?_⟩
 rw[List.all_cons,List.all_cons,List.all_nil,Bool.and_true,Bool.and_eq_true]
 exact⟨ringOpF h0 fun x y hx hy=>wlr h hx hy,ringOpF h0 fun x y hx hy=>h.lp.mlt hx hy⟩
theorem wp3 {n:Nat}{le:Nat→Nat→Bool}(h:BoolP n le):V100 big (ringAlg n le)=some (true,()):=by
 rw[wj3 _ (yi h.lp.le10),xd8 h]
theorem xgj {n:Nat}{le:Nat→Nat→Bool}(h:BoolP n le) (h2:V48 (pos n le)=some ((some (lat n le),true,()),())):V105 (ringAlg n le)=some ((pos n le,true,()),()):=by
 have h8:=wq h
 have hs:=yi (le:=le) h.lp.le10
 have e1:(mkT n fun x y=>decide (mt n le x y=x))=mkT n le:=jw fun x y hx hy=>by
  rw[Bool.eq_iff_iff,decide_eq_true_eq]
  constructor
  ·intro e;rw[←e];exact h.lp.m2 hx hy
  ·intro e;exact h.lp.as (h.lp.mlt hx hy) hx (h.lp.m1 hx hy) (h.lp.mg hx hy hx (h.lp.ord.refl x hx) e)
 unfold V105 ws4
 rw[wp3 h,obS]
 dsimp only
 rw[Bool.not_true,cond_false,wp9 _ hs.1,obS,wb4 _ _ (by rw[List.length_map];have:=hs.1;omega),obS]
 dsimp only
 rw[show decide ((ringAlg n le).2.1.map (·.1)=[2,2])=true from decide_eq_true rfl,Bool.not_true,cond_false,show atI (ringAlg n le).2.1 (1:Int)=some ((2:Int),flt n (meetF n le) n,()) from rfl,obS,show(ringAlg n le).1=(n:Int) from rfl]
 dsimp only
 rw[wgg (g:=mt n le) h8,obS]
 dsimp only
 rw[e1,wx4 (by omega),obS]
 dsimp only
 rw[h2,obS]
 dsimp only
 rw[Bool.not_true,cond_false,wlt h,obS]
 dsimp only
 rw[wly _ _ hs,obS,decide_eq_true rfl]
 rfl
theorem xld (a:AlT) (hs:SmallA a):∃v:PT×Bool×Unit,V127 big a=some (v,())∧V105 a=some (v,())∧v.1.1.length≤10∧(∀x∈v.1.1,x.length≤10)∧(v.2.1=true→∃m le,BoolP m le∧V48 (pos m le)=some ((some (lat m le),true,()),())∧v.1=pos m le∧a=ringAlg m le):=by
 unfold V127 wt9 V105 ws4
 rw[w59 a hs,wj3 a hs,obS,obS]
 cases hb:algB a with
 | false =>
  rw[Bool.not_false,cond_true,cond_true]
  exact⟨_,rfl,rfl,by simp,by simp,fun e=>by cases e⟩
 | true =>
  have h1:=hs.1
  rw[Bool.not_true,cond_false,cond_false,w6a a h1,wp9 a h1,obS,obS,wj4 _ _ (by rw[List.length_map];omega),wb4 _ _ (by rw[List.length_map];omega),obS,obS]
  by_cases ht:a.2.1.map (·.1)=[2,2]
  ·rw[decide_eq_true ht,Bool.not_true,cond_false,cond_false]
   obtain⟨n,f,g,n1,n8,ho,rfl⟩:=xk3 hb ht
   have hnn:=wb1 (i:=n) (n:=n) (by omega) (by omega)
   have o0:atI (algL n [f,g]).2.1 (0:Int)=some ((2:Int),flt n (fun x y=>((f x y:Nat):Int)) n,()):=wj5 (fs:=[f,g]) (t:=0) (by simp)
   have o1:atI (algL n [f,g]).2.1 (1:Int)=some ((2:Int),flt n (fun x y=>((g x y:Nat):Int)) n,()):=wj5 (fs:=[f,g]) (t:=1) (by simp)
   have hrows:∀r∈(pos n fun x y=>decide (g x y=x)).1,r.length≤10:=by
    intro r hr
    obtain⟨y,hy,rfl⟩:=mkR_mem.1 hr
    rw[cs_len]
    exact Nat.le_trans (jh _ _) (by omega)
   have hpl:(pos n fun x y=>decide (g x y=x)).1.length≤10:=by rw[wb];omega
   rw[o1,obS,show(algL n [f,g]).1=(n:Int) from rfl,wgg n8,obS,wx4 (by omega),obS]
   have hsp:=fun res h=>specRingLoop (f:=f) (g:=g) n8 (res:=res) h
   have hx:∀r∈(pos n fun x y=>decide (g x y=x)).1,r.length≤4294967296:=fun r hr=>by have:=hrows r hr;omega
   generalize hP:(pos n fun x y=>decide (g x y=x))=P at *
   rcases wgs hx with⟨m,le,e,h,g1,g2⟩|⟨g1,l,g2⟩
   ·rw[g2,obS]
    simp only[Bool.not_true,cond_false]
    subst e
    have hm:m=n:=by
     have:=congrArg (fun p:PT=>p.1.length) hP
     simp only[wb]at this
     exact this.symm
    subst hm
    have hA:SmallA (ringAlg m le):=by
     refine⟨by simp[ringAlg],fun o ho => ?_⟩
     have hl:=wc m (meetF m le) m
     have hl2:=wc m (sumF m le) m
     simp only[ringAlg,List.mem_cons,List.not_mem_nil,or_false]at ho
     rcases ho with rfl|rfl
     ·simp only[hl2];omega
     ·simp only[hl];omega
    rw[wlt h,obS,wly _ _ hA,obS]
    have ha5:=ringEnd (f:=f) (g:=g) h n8 g1
    rw[hsp _ ha5]
    cases hd:decide (ringAlg m le=algL m [f,g]) with
    | true=>exact⟨(pos m le,true,()),rfl,rfl,hpl,hrows,fun _=>⟨m,le,h,g2,rfl,(of_decide_eq_true hd).symm⟩⟩
    | false=>exact⟨_,rfl,rfl,by simp,by simp,fun e=>by cases e⟩
   ·rw[g2,obS]
    have ha5:wl (algL n [f,g]) ([],()) P=some (((([]:List (List Int)),()),false,()),()):=by
     unfold wl
     rw[g1]
     rfl
    rw[hsp _ ha5]
    exact⟨_,rfl,rfl,by simp,by simp,fun e=>by cases e⟩
  ·rw[decide_eq_false ht,Bool.not_false,cond_true,cond_true]
   exact⟨_,rfl,rfl,by simp,by simp,fun e=>by cases e⟩
theorem wj0 {t vals:List Int}{A:AlT}{S:List Int}{i:Int}{x v:Int}{rc:List Int→List Int→AlT→List Int→Int→Option (Int×Unit)} {L k}(hi:0≤i) (hi2:i≤100) (ht:atI t i=some x) (hx:0≤x) (hv:atI vals x=some v) (hS:S.length≤100):w7 rc L k t vals A S i=rc t vals A (S++[v]) (i-1):=by
 unfold w7
 rw[cdt hi,ht,obS,cdt hx,hv,obS,app1 (by omega),obS,wr (by omega) (by omega)]
theorem wst {t vals:List Int}{A:AlT}{S:List Int}{i:Int}{x:Int}{o:OpT}{rc:List Int→List Int→AlT→List Int→Int→Option (Int×Unit)} {L k}(hi:0≤i) (ht:atI t i=some x) (hx:x<0) (hx2 : -100≤x) (ho:atI A.2.1 (-1-x)=some o):w7 rc L k t vals A S i=L t vals A S i o 0 0:=by
 unfold w7
 rw[cdt hi,ht,obS,cdf (by omega),wr (by omega) (by omega),ho,obS]
theorem xeg {t vals:List Int}{A:AlT}{S:List Int}{i u w:Int}{tab:List Int}{rc:List Int→List Int→AlT→List Int→Int→Option (Int×Unit)} {k}(hi:0≤i) (hi2:i≤100) (hS:S.length≤100) (hu:0≤u) (hu2:u≤1000) (hA:0≤A.1) (hw:atI tab u=some w) :
  x6 big rc k t vals A (S++[u]) i ((1:Int),tab,()) 0 0=rc t vals A (S++[w]) (i-1):=by
 have hl:(S++[u]).length=S.length+1:=by rw[List.length_append,List.length_singleton]
 refine wtf 1 (fun j a=>(j=0∧a=0)∨(j=1∧a=u)) (by omega) (fun rc2 j a hj hI ih => ?_) (fun rc2 a hI => ?_) 0 (by omega) _ (.inl ⟨rfl,rfl⟩)
 ·obtain⟨rfl,rfl⟩:j=0∧a=0:=by rcases hI with q|q<;>omega
  have ea:atI (S++[u]) (S.length:Int)=some u:=by rw[jy];simp
  have eg:(S++[u])[S.length]? = some u:=by simp
  unfold ww
  rw[cdt (by show((0:Nat):Int)<1;omega),hl,wr (n:=((S.length+1:Nat):Int)-1) (by omega) (by omega),wr (n:=((S.length+1:Nat):Int)-1-((0:Nat):Int)) (by omega) (by omega),show((S.length+1:Nat):Int)-1-((0:Nat):Int)=(S.length:Int) by omega,ea,obS,Int.toNat_natCast,eg,obS,Int.zero_mul,wr (n:=(0:Int)) (by omega) (by omega),Int.zero_add,wr (n:=u) (by omega) (by omega),wr1 (by omega)]
  exact ih _ (.inr ⟨rfl,rfl⟩)
 ·obtain rfl:a=u:=by rcases hI with q|q<;>omega
  unfold ww xc
  have e1:IntKind.i64.wrap (((S++[a]).length:Int)-1)=(S.length:Int):=by rw[hl,wr (by omega) (by omega)];omega
  rw[cdf (by show ¬((1:Nat):Int)<1;omega)]
  dsimp only
  rw[e1,hl,cdt (by omega),hw,obS,Int.toNat_natCast,List.take_append_of_le_length (Nat.le_refl _),List.take_of_length_le (Nat.le_refl _),app1 (by omega),obS,wr (by omega) (by omega)]
theorem xeh {t vals:List Int}{A:AlT}{S:List Int}{i u v w:Int}{tab:List Int}{rc:List Int→List Int→AlT→List Int→Int→Option (Int×Unit)} {k}(hi:0≤i) (hi2:i≤100) (hS:S.length≤100) (hu:0≤u) (hu2:u≤1000) (hv:0≤v) (hv2:v≤1000) (hm:0≤u*A.1) (hm2:u*A.1≤1000000) (hw:atI tab (u*A.1+v)=some w) :
  x6 big rc k t vals A (S++[v,u]) i ((2:Int),tab,()) 0 0=rc t vals A (S++[w]) (i-1):=by
 have hl:(S++[v,u]).length=S.length+2:=by rw[List.length_append];rfl
 refine wtf 2 (fun j a=>(j=0∧a=0)∨(j=1∧a=u)∨(j=2∧a=u*A.1+v)) (by omega) (fun rc2 j a hj hI ih => ?_) (fun rc2 a hI => ?_) 0 (by omega) _ (.inl ⟨rfl,rfl⟩)
 ·rcases hI with⟨rfl,rfl⟩|⟨rfl,rfl⟩|⟨rfl,_⟩
  ·have ea:atI (S++[v,u]) ((S.length+1:Nat):Int)=some u:=by rw[jy];simp
   have eg:(S++[v,u])[S.length+1]? = some u:=by simp
   unfold ww
   rw[cdt (by show((0:Nat):Int)<2;omega),hl,wr (n:=((S.length+2:Nat):Int)-1) (by omega) (by omega),wr (n:=((S.length+2:Nat):Int)-1-((0:Nat):Int)) (by omega) (by omega),show((S.length+2:Nat):Int)-1-((0:Nat):Int)=((S.length+1:Nat):Int) by omega,ea,obS,Int.toNat_natCast,eg,obS,Int.zero_mul,wr (n:=(0:Int)) (by omega) (by omega),Int.zero_add,wr (n:=u) (by omega) (by omega),wr1 (by omega)]
   exact ih _ (.inr (.inl ⟨rfl,rfl⟩))
  ·have ea:atI (S++[v,a]) ((S.length:Nat):Int)=some v:=by rw[jy];simp
   have eg:(S++[v,a])[S.length]? = some v:=by simp
   unfold ww
   rw[cdt (by show((1:Nat):Int)<2;omega),hl,wr (n:=((S.length+2:Nat):Int)-1) (by omega) (by omega),wr (n:=((S.length+2:Nat):Int)-1-((1:Nat):Int)) (by omega) (by omega),show((S.length+2:Nat):Int)-1-((1:Nat):Int)=((S.length:Nat):Int) by omega,ea,obS,Int.toNat_natCast,eg,obS,wr (n:=a*A.1) (by omega) (by omega),wr (n:=a*A.1+v) (by omega) (by omega),wr1 (by omega)]
   exact ih _ (.inr (.inr ⟨rfl,rfl⟩))
  ·omega
 ·obtain rfl:a=u*A.1+v:=by rcases hI with q|q|q<;>omega
  unfold ww xc
  have e1:IntKind.i64.wrap (((S++[v,u]).length:Int)-2)=(S.length:Int):=by rw[hl,wr (by omega) (by omega)];omega
  rw[cdf (by show ¬((2:Nat):Int)<2;omega)]
  dsimp only
  rw[e1,hl,cdt (by omega),hw,obS,Int.toNat_natCast,List.take_append_of_le_length (Nat.le_refl _),List.take_of_length_le (Nat.le_refl _),app1 (by omega),obS,wr (by omega) (by omega)]
theorem wxt {t vals:List Int}{A:AlT}{S:List Int}{v:Int} {rc L}:w7 rc L x7 t vals A (v::S) (-1)=some (v,()):=by
 unfold w7 x7
 rw[cdf (by omega)]
 rfl
theorem xej {n:Nat}{f:Nat→Nat→Int}{u v:Nat}(hu:u<n) (hv:v<n):atI (flt n f n) ((u:Int)*(n:Int)+(v:Int))=some (f u v):=by
 have h1:u*n+v<n*n:=by
  have:(u+1)*n≤n*n:=Nat.mul_le_mul_right _ hu
  rw[Nat.succ_mul]at this
  omega
 have e:(u:Int)*(n:Int)+(v:Int)=((u*n+v:Nat):Int):=by rw[Int.natCast_add,Int.natCast_mul]
 rw[e,jy,wge (by omega) h1,Nat.mul_comm u n,Nat.mul_add_div (by omega),Nat.div_eq_of_lt hv,Nat.mul_add_mod,Nat.mod_eq_of_lt hv,Nat.add_zero]
theorem xk9 {n:Nat}{le:Nat→Nat→Bool}(h:BoolP n le){v:Nat}(hv:v<n):V114 big (boolA n le) [(-3:Int),(-3:Int),(0:Int)] [(v:Int)]=some ((v:Int),()):=by
 have h8:=wq h
 have c1:=(we h.cmp hv).1
 have tb:∀x,x<n→atI (mkR n fun x=>((cpl n le x:Nat):Int)) (x:Int)=some ((cpl n le x:Nat):Int):=fun x hx=>jd hx
 unfold V114 wgz
 rw[show mkI (0:Int) (([(-3:Int),(-3:Int),(0:Int)].length:Nat):Int)=some [0,0,0] by kernel_rfl,obS,show mkI (0:Int) (0:Int)=some [] by kernel_rfl,obS,cdt (by decide),show IntKind.i64.wrap ((([(-3:Int),(-3:Int),(0:Int)].length:Nat):Int)-1)=2 by kernel_rfl]
 refine wqs (fun _ i=>(i+1).toNat) (fun S i=>(i=2∧S=[])∨(i=1∧S=[(v:Int)])∨(i=0∧S=[((cpl n le v:Nat):Int)])∨(i = -1∧S=[(v:Int)])) (fun rc S i hI ih => ?_) _ _ (by omega) (.inl ⟨rfl,rfl⟩)
 rcases hI with⟨rfl,rfl⟩|⟨rfl,rfl⟩|⟨rfl,rfl⟩|⟨rfl,rfl⟩
 ·refine(wj0 (x:=0) (v:=(v:Int)) (by omega) (by omega) rfl (by omega) rfl (by simp)).trans ?_
  exact ih _ _ (.inr (.inl ⟨rfl,rfl⟩)) (by omega)
 ·refine(wst (x := -3) (o:=((1:Int),(mkR n fun x=>((cpl n le x:Nat):Int)),())) (by omega) rfl (by omega) (by omega) rfl).trans ?_
  refine(xeg (S:=[]) (u:=(v:Int)) (w:=((cpl n le v:Nat):Int)) (by omega) (by omega) (by simp) (by omega) (by omega) (by show(0:Int)≤(n:Int);omega) (tb v hv)).trans ?_
  exact ih _ _ (.inr (.inr (.inl ⟨rfl,rfl⟩))) (by omega)
 ·refine(wst (x := -3) (o:=((1:Int),(mkR n fun x=>((cpl n le x:Nat):Int)),())) (by omega) rfl (by omega) (by omega) rfl).trans ?_
  refine(xeg (S:=[]) (u:=((cpl n le v:Nat):Int)) (w:=(v:Int)) (by omega) (by omega) (by simp) (by omega) (by omega) (by show(0:Int)≤(n:Int);omega) (by rw[tb _ c1,w14 h hv])).trans ?_
  exact ih _ _ (.inr (.inr (.inr ⟨rfl,rfl⟩))) (by omega)
 ·exact wxt
theorem xei {A:AlT}{vals:List Int}{x v:Int}(hx:0≤x) (hv:atI vals x=some v):V114 big A [x] vals=some (v,()):=by
 unfold V114 wgz
 rw[show mkI (0:Int) (([x].length:Nat):Int)=some [0] from(show mkI (0:Int) (1:Int)=some [0] by kernel_rfl),obS,show mkI (0:Int) (0:Int)=some [] by kernel_rfl,obS,cdt (by show(0:Int)≤(1:Int);omega),show IntKind.i64.wrap ((([x].length:Nat):Int)-1)=0 from(show IntKind.i64.wrap ((1:Int)-1)=0 by kernel_rfl)]
 refine wqs (fun _ i=>(i+1).toNat) (fun S i=>(i=0∧S=[])∨(i = -1∧S=[v])) (fun rc S i hI ih => ?_) _ _ (by omega) (.inl ⟨rfl,rfl⟩)
 rcases hI with⟨rfl,rfl⟩|⟨rfl,rfl⟩
 ·refine(wj0 (x:=x) (v:=v) (by omega) (by omega) rfl hx hv (by simp)).trans ?_
  exact ih _ _ (.inr ⟨rfl,rfl⟩) (by omega)
 ·exact wxt
theorem w11 {n:Nat}{le:Nat→Nat→Bool}(h:BoolP n le){a x y:Nat}(ha:a<n) (hc:cov n le (bt n le) a=true) (hx:x<n) (hy:y<n):le a (bsum n le x y)=(le a x != le a y):=by
 have cx:=(we h.cmp hx).1
 have cy:=(we h.cmp hy).1
 unfold bsum
 rw[Bool.eq_iff_iff,ze h ha (h.lp.mlt hx cy) (h.lp.mlt cx hy) hc,wbw h.lp ha hx cy,wbw h.lp ha cx hy,ye h ha hx hc,ye h ha hy hc]
 cases le a x<;>cases le a y<;>simp
theorem w50 {n:Nat}{le:Nat→Nat→Bool}(h:BoolP n le){x y:Nat}(hx:x<n) (hy:y<n):bsum n le x (bsum n le x y)=y:=by
 have l1:=wlr h hx hy
 refine w5 h (wlr h hx l1) hy fun j hj => ?_
 obtain⟨a1,a2⟩:=wg hj
 rw[w11 h a1 a2 hx l1,w11 h a1 a2 hx hy]
 cases le ((atm n le).getD j 0) x<;>cases le ((atm n le).getD j 0) y<;>rfl
theorem xla {n:Nat}{le:Nat→Nat→Bool}(h:BoolP n le){x y:Nat}(hx:x<n) (hy:y<n):V114 big (ringAlg n le) [(-1:Int),(0:Int),(-1:Int),(0:Int),(1:Int)] [(x:Int),(y:Int)]=some ((y:Int),()):=by
 have h8:=wq h
 have l1:=wlr h hx hy
 have hm:(0:Int)≤(x:Int)*(n:Int)∧(x:Int)*(n:Int)≤1000000:=by
  have:x*n≤8*8:=Nat.mul_le_mul (by omega) h8
  rw[←Int.natCast_mul];omega
 unfold V114 wgz
 rw[show mkI (0:Int) (([(-1:Int),(0:Int),(-1:Int),(0:Int),(1:Int)].length:Nat):Int)=some [0,0,0,0,0] by kernel_rfl,obS,show mkI (0:Int) (0:Int)=some [] by kernel_rfl,obS,cdt (by decide),show IntKind.i64.wrap ((([(-1:Int),(0:Int),(-1:Int),(0:Int),(1:Int)].length:Nat):Int)-1)=4 by kernel_rfl]
 refine wqs (fun _ i=>(i+1).toNat) (fun S i=>(i=4∧S=[])∨(i=3∧S=[(y:Int)])∨(i=2∧S=[(y:Int),(x:Int)])∨(i=1∧S=[((bsum n le x y:Nat):Int)])∨(i=0∧S=[((bsum n le x y:Nat):Int),(x:Int)])∨(i = -1∧S=[(y:Int)])) (fun rc S i hI ih => ?_) _ _ (by omega) (.inl ⟨rfl,rfl⟩)
 rcases hI with⟨rfl,rfl⟩|⟨rfl,rfl⟩|⟨rfl,rfl⟩|⟨rfl,rfl⟩|⟨rfl,rfl⟩|⟨rfl,rfl⟩
 ·refine(wj0 (x:=1) (v:=(y:Int)) (by omega) (by omega) rfl (by omega) rfl (by simp)).trans ?_
  exact ih _ _ (.inr (.inl ⟨rfl,rfl⟩)) (by omega)
 ·refine(wj0 (x:=0) (v:=(x:Int)) (by omega) (by omega) rfl (by omega) rfl (by simp)).trans ?_
  exact ih _ _ (.inr (.inr (.inl ⟨rfl,rfl⟩))) (by omega)
 ·refine(wst (x := -1) (o:=((2:Int),flt n (sumF n le) n,())) (by omega) rfl (by omega) (by omega) rfl).trans ?_
  refine(xeh (S:=[]) (u:=(x:Int)) (v:=(y:Int)) (w:=((bsum n le x y:Nat):Int)) (by omega) (by omega) (by simp) (by omega) (by omega) (by omega) (by omega) hm.1 hm.2 (xej hx hy)).trans ?_
  exact ih _ _ (.inr (.inr (.inr (.inl ⟨rfl,rfl⟩)))) (by omega)
 ·refine(wj0 (x:=0) (v:=(x:Int)) (by omega) (by omega) rfl (by omega) rfl (by simp)).trans ?_
  exact ih _ _ (.inr (.inr (.inr (.inr (.inl ⟨rfl,rfl⟩))))) (by omega)
 ·refine(wst (x := -1) (o:=((2:Int),flt n (sumF n le) n,())) (by omega) rfl (by omega) (by omega) rfl).trans ?_
  refine(xeh (S:=[]) (u:=(x:Int)) (v:=((bsum n le x y:Nat):Int)) (w:=(y:Int)) (by omega) (by omega) (by simp) (by omega) (by omega) (by omega) (by omega) hm.1 hm.2 (by rw[show(ringAlg n le).1=(n:Int) from rfl,xej hx l1];show some ((bsum n le x (bsum n le x y):Nat):Int)=_;rw[w50 h hx hy])).trans ?_
  exact ih _ _ (.inr (.inr (.inr (.inr (.inr ⟨rfl,rfl⟩))))) (by omega)
 ·exact wxt
def okArgs:Bool:=(List.range 9).all fun n=>((List.range n).all fun i=>match V113 big (i:Int) (1:Int) (n:Int) with
  | some (l,())=>decide (l=[(i:Int)])
  | none=>false)&&(List.range (n*n)).all fun i=>match V113 big (i:Int) (2:Int) (n:Int) with
  | some (l,())=>decide (l=[((i / n:Nat):Int),((i % n:Nat):Int)])
  | none=>false
theorem wx0:okArgs=true:=by kernel_rfl
theorem args1 {n i:Nat}(hn:n≤8) (hi:i<n):V113 big (i:Int) (1:Int) (n:Int)=some ([(i:Int)],()):=by
 have hh:=List.all_eq_true.1 wx0 n (List.mem_range.2 (by omega))
 rw[Bool.and_eq_true]at hh
 have h1:=List.all_eq_true.1 hh.1 i (List.mem_range.2 hi)
 split at h1
 case h_2=>cases h1
 rename_i l e
 rw[e,of_decide_eq_true h1]
theorem args2 {n i:Nat}(hn:n≤8) (hi:i<n*n):V113 big (i:Int) (2:Int) (n:Int)=some ([((i / n:Nat):Int),((i % n:Nat):Int)],()):=by
 have hh:=List.all_eq_true.1 wx0 n (List.mem_range.2 (by omega))
 rw[Bool.and_eq_true]at hh
 have h1:=List.all_eq_true.1 hh.2 i (List.mem_range.2 hi)
 split at h1
 case h_2=>cases h1
 rename_i l e
 rw[e,of_decide_eq_true h1]
abbrev EqT:=List Int×List Int×Unit
theorem counter1 {n:Nat}{A:AlT}{e:EqT}(hn:n≤8) (hA:A.1=(n:Int)) (hv:V112 big [e.1,e.2.1]=some ([(0:Int)],())) (he:∀v,v<n→∃w,V114 big A e.1 [(v:Int)]=some (w,())∧V114 big A e.2.1 [(v:Int)]=some (w,())):V115 big A e=some ((none,true,()),()):=by
 unfold V115 wmj
 rw[hv,obS]
 dsimp only
 rw[hA,show(([(0:Int)].length:Nat):Int)=((1:Nat):Int) from rfl,wrm hn 1 (by omega),obS]
 dsimp only
 rw[Nat.pow_one,cdf (by omega),cdt (by omega),show atI [(0:Int)] (IntKind.i64.wrap (((1:Nat):Int)-1))=some 0 by kernel_rfl,obS,show([(0:Int)][(IntKind.i64.wrap (((1:Nat):Int)-1)).toNat]?)=some 0 by kernel_rfl,obS,show mkI (0:Int) (IntKind.i64.wrap ((0:Int)+1))=some [0] by kernel_rfl,obS,obS,show decide (IntKind.i64.wrap ((0:Int)+1)≤IntKind.i64.wrap ((0:Int)+1))=true by kernel_rfl,cond_true]
 refine wz0 n (fun _ l=>l.length=1) (by omega) (fun rc i l hi hI ih => ?_) (fun rc l hI => ?_) 0 (by omega) _ rfl
 ·unfold xg
  rw[cdt (by omega),hA,show(([(0:Int)].length:Nat):Int)=(1:Int) from rfl,args1 hn hi,obS]
  dsimp only
  refine wtj 1 (fun j l=>l.length=1∧(j=1→l=[(i:Int)])) (by omega) (fun rc2 j l hj hI ih2 => ?_) (fun rc2 l hI => ?_) 0 (by omega) _ ⟨hI,by omega⟩
  ·obtain⟨i1,_⟩:=hI
   obtain rfl:j=0:=by omega
   match l,i1 with
   | [y],_ =>
    unfold wy
    exact ih2 _ ⟨rfl,fun _=>rfl⟩
  ·obtain⟨_,i2⟩:=hI
   obtain rfl:=i2 rfl
   obtain⟨w,w1,w2⟩:=he i hi
   unfold wy xd
   rw[cdf (by show ¬((1:Nat):Int)<((1:Nat):Int);omega),w1,obS,w2,obS,cdf (fun q=>q rfl),wr1 (by omega)]
   exact ih _ rfl
 ·unfold xg w8
  rw[cdf (by omega)]
theorem counter2 {n:Nat}{A:AlT}{e:EqT}(hn:n≤8) (h0:0<n) (hA:A.1=(n:Int)) (hv:V112 big [e.1,e.2.1]=some ([(0:Int),(1:Int)],())) (he:∀x y,x<n→y<n→∃w,V114 big A e.1 [(x:Int),(y:Int)]=some (w,())∧V114 big A e.2.1 [(x:Int),(y:Int)]=some (w,())):V115 big A e=some ((none,true,()),()):=by
 have hnn:n*n≤8*8:=Nat.mul_le_mul hn hn
 unfold V115 wmj
 rw[hv,obS]
 dsimp only
 rw[hA,show(([(0:Int),(1:Int)].length:Nat):Int)=((2:Nat):Int) from rfl,wrm hn 2 (by omega),obS]
 dsimp only
 rw[Nat.pow_two,cdf (by omega),cdt (by omega),show atI [(0:Int),(1:Int)] (IntKind.i64.wrap (((2:Nat):Int)-1))=some 1 by kernel_rfl,obS,show([(0:Int),(1:Int)][(IntKind.i64.wrap (((2:Nat):Int)-1)).toNat]?)=some 1 by kernel_rfl,obS,show mkI (0:Int) (IntKind.i64.wrap ((1:Int)+1))=some [0,0] by kernel_rfl,obS,obS,show decide (IntKind.i64.wrap ((1:Int)+1)≤IntKind.i64.wrap ((1:Int)+1))=true by kernel_rfl,cond_true]
 refine wz0 (n*n) (fun _ l=>l.length=2) (by omega) (fun rc i l hi hI ih => ?_) (fun rc l hI => ?_) 0 (by omega) _ rfl
 ·unfold xg
  rw[cdt (by omega),hA,show(([(0:Int),(1:Int)].length:Nat):Int)=(2:Int) from rfl,args2 hn hi,obS]
  dsimp only
  refine wtj 2 (fun j l=>l.length=2∧(1≤j→l[0]? = some ((i / n:Nat):Int))∧(j=2→l=[((i / n:Nat):Int),((i % n:Nat):Int)])) (by omega) (fun rc2 j l hj hI ih2 => ?_) (fun rc2 l hI => ?_) 0 (by omega) _ ⟨hI,by omega,by omega⟩
  ·obtain⟨i1,i2,_⟩:=hI
   match l,i1 with
   | [y,z],_ =>
    rcases (show j=0∨j=1 by omega) with rfl|rfl
    ·unfold wy
     exact ih2 _ ⟨rfl,fun _=>rfl,by omega⟩
    ·have e1:y=((i / n:Nat):Int):=Option.some.inj (i2 (Nat.le_refl _))
     subst e1
     unfold wy
     exact ih2 _ ⟨rfl,fun _=>rfl,fun _=>rfl⟩
  ·obtain⟨_,_,i2⟩:=hI
   obtain rfl:=i2 rfl
   obtain⟨w,w1,w2⟩:=he (i / n) (i % n) (Nat.div_lt_of_lt_mul hi) (Nat.mod_lt _ h0)
   unfold wy xd
   rw[cdf (by show ¬((2:Nat):Int)<((2:Nat):Int);omega),w1,obS,w2,obS,cdf (fun q=>q rfl),wr1 (by omega)]
   exact ih _ rfl
 ·unfold xg w8
  rw[cdf (by omega)]
theorem vars1:V112 big [[(-3:Int),(-3:Int),(0:Int)],[(0:Int)]]=some ([(0:Int)],()):=by kernel_rfl
theorem vars2:V112 big [[(-1:Int),(0:Int),(-1:Int),(0:Int),(1:Int)],[(1:Int)]]=some ([(0:Int),(1:Int)],()):=by kernel_rfl
theorem wgd {t:List Int}{A:AlT}{i:Nat}{m x:Int} {rc k}(hm:0<m) (hm2:m≤100) (hi:i<t.length) (hi2:i≤100) (ht:atI t (i:Int)=some x) (hx:0≤x) (hx2:x<6) (hA:A.2.1.length≤100):w6 rc k t (i:Int) A m=rc t ((i+1:Nat):Int) A (m-1):=by
 unfold w6
 rw[cdt hm,cdf (by omega),ht,obS,cdf (by omega),wr (n:=0-(A.2.1.length:Int)) (by omega) (by omega),cdf (by omega),cdt hx,wr1 (by omega),wr (by omega) (by omega)]
theorem wp1 {t:List Int}{A:AlT}{i:Nat}{m x:Int}{o:OpT} {rc k}(hm:0<m) (hm2:m≤100) (hi:i<t.length) (hi2:i≤100) (ht:atI t (i:Int)=some x) (hx:x<0) (hA:A.2.1.length≤100) (hx2:0-(A.2.1.length:Int)≤x) (ho:atI A.2.1 (-1-x)=some o) (h1:0≤o.1) (h2:o.1≤3):w6 rc k t (i:Int) A m=rc t ((i+1:Nat):Int) A (m+(o.1-1)):=by
 unfold w6
 rw[cdt hm,cdf (by omega),ht,obS,cdf (by omega),wr (n:=0-(A.2.1.length:Int)) (by omega) (by omega),cdf (by omega),cdf (by omega),wr (n := -1-x) (by omega) (by omega),ho,obS,wr1 (by omega),wr (n:=o.1-1) (by omega) (by omega),wr (n:=m+(o.1-1)) (by omega) (by omega)]
theorem wrl {t:List Int}{A:AlT}{i:Int} {rc}:w6 rc xy t i A 0=some (i,()):=by
 unfold w6 xy
 rw[cdf (by omega)]
theorem xet {A:AlT}{x:Int}(hx:0≤x) (hx2:x<6) (hA:A.2.1.length≤100):V109 A [x]=some (true,()):=by
 have e:V108 big A [x] (0:Int)=some ((1:Int),()):=by
  unfold V108 wgw
  refine wqo 1 (fun i m=>(i=0∧m=1)∨(i=1∧m=0)) (by omega) (fun rc i m hi hI ih => ?_) (fun rc m hI => ?_) 0 (by omega) _ (.inl ⟨rfl,rfl⟩)
  ·obtain⟨rfl,rfl⟩:i=0∧m=1:=by omega
   refine(wgd (x:=x) (by omega) (by omega) (by simp) (by omega) rfl hx hx2 hA).trans ?_
   exact ih _ (.inr ⟨rfl,rfl⟩)
  ·obtain rfl:m=0:=by omega
   exact wrl
 unfold V109 wmf
 rw[cdt (by show(1:Int)≤60;omega),e]
 rfl
theorem xlm {n:Nat}{le:Nat→Nat→Bool}:V109 (boolA n le) [(-3:Int),(-3:Int),(0:Int)]=some (true,()):=by
 have hA:(boolA n le).2.1.length≤100:=by show 3≤100;omega
 have e:V108 big (boolA n le) [(-3:Int),(-3:Int),(0:Int)] (0:Int)=some ((3:Int),()):=by
  unfold V108 wgw
  refine wqo 3 (fun i m=>(i<3∧m=1)∨(i=3∧m=0)) (by omega) (fun rc i m hi hI ih => ?_) (fun rc m hI => ?_) 0 (by omega) _ (.inl ⟨by omega,rfl⟩)
  ·obtain rfl:m=1:=by omega
   rcases (show i=0∨i=1∨i=2 by omega) with rfl|rfl|rfl
   ·refine(wp1 (x := -3) (o:=((1:Int),(mkR n fun x=>((cpl n le x:Nat):Int)),())) (by omega) (by omega) (by simp) (by omega) rfl (by omega) hA (by show 0-(3:Int) ≤ -3;omega) rfl (by show(0:Int)≤1;omega) (by show(1:Int)≤3;omega)).trans ?_
    exact ih _ (.inl ⟨by omega,rfl⟩)
   ·refine(wp1 (x := -3) (o:=((1:Int),(mkR n fun x=>((cpl n le x:Nat):Int)),())) (by omega) (by omega) (by simp) (by omega) rfl (by omega) hA (by show 0-(3:Int) ≤ -3;omega) rfl (by show(0:Int)≤1;omega) (by show(1:Int)≤3;omega)).trans ?_
    exact ih _ (.inl ⟨by omega,rfl⟩)
   ·refine(wgd (x:=0) (by omega) (by omega) (by simp) (by omega) rfl (by omega) (by omega) hA).trans ?_
    exact ih _ (.inr ⟨rfl,rfl⟩)
  ·obtain rfl:m=0:=by omega
   exact wrl
 unfold V109 wmf
 rw[cdt (by show(3:Int)≤60;omega),e]
 rfl
theorem xln {n:Nat}{le:Nat→Nat→Bool}:V109 (ringAlg n le) [(-1:Int),(0:Int),(-1:Int),(0:Int),(1:Int)]=some (true,()):=by
 have hA:(ringAlg n le).2.1.length≤100:=by show 2≤100;omega
 have e:V108 big (ringAlg n le) [(-1:Int),(0:Int),(-1:Int),(0:Int),(1:Int)] (0:Int)=some ((5:Int),()):=by
  unfold V108 wgw
  refine wqo 5 (fun i m=>(i=0∧m=1)∨(i=1∧m=2)∨(i=2∧m=1)∨(i=3∧m=2)∨(i=4∧m=1)∨(i=5∧m=0)) (by omega) (fun rc i m hi hI ih => ?_) (fun rc m hI => ?_) 0 (by omega) _ (.inl ⟨rfl,rfl⟩)
  ·rcases hI with⟨rfl,rfl⟩|⟨rfl,rfl⟩|⟨rfl,rfl⟩|⟨rfl,rfl⟩|⟨rfl,rfl⟩|⟨rfl,_⟩
   ·refine(wp1 (x := -1) (o:=((2:Int),flt n (sumF n le) n,())) (by omega) (by omega) (by simp) (by omega) rfl (by omega) hA (by show 0-(2:Int) ≤ -1;omega) rfl (by show(0:Int)≤2;omega) (by show(2:Int)≤3;omega)).trans ?_
    exact ih _ (.inr (.inl ⟨rfl,rfl⟩))
   ·refine(wgd (x:=0) (by omega) (by omega) (by simp) (by omega) rfl (by omega) (by omega) hA).trans ?_
    exact ih _ (.inr (.inr (.inl ⟨rfl,rfl⟩)))
   ·refine(wp1 (x := -1) (o:=((2:Int),flt n (sumF n le) n,())) (by omega) (by omega) (by simp) (by omega) rfl (by omega) hA (by show 0-(2:Int) ≤ -1;omega) rfl (by show(0:Int)≤2;omega) (by show(2:Int)≤3;omega)).trans ?_
    exact ih _ (.inr (.inr (.inr (.inl ⟨rfl,rfl⟩))))
   ·refine(wgd (x:=0) (by omega) (by omega) (by simp) (by omega) rfl (by omega) (by omega) hA).trans ?_
    exact ih _ (.inr (.inr (.inr (.inr (.inl ⟨rfl,rfl⟩)))))
   ·refine(wgd (x:=1) (by omega) (by omega) (by simp) (by omega) rfl (by omega) (by omega) hA).trans ?_
    exact ih _ (.inr (.inr (.inr (.inr (.inr ⟨rfl,rfl⟩)))))
   ·omega
  ·obtain rfl:m=0:=by omega
   exact wrl
 unfold V109 wmf
 rw[cdt (by show(5:Int)≤60;omega),e]
 rfl
theorem xge {n:Nat}{le:Nat→Nat→Bool}(h:BoolP n le):V116 (boolA n le) ([(-3:Int),(-3:Int),(0:Int)],[(0:Int)],())=some ((true,true,()),()):=by
 unfold V116 wtl V110 wta
 rw[w54 h,obS]
 dsimp only
 rw[Bool.not_true,cond_false,xlm,obS]
 dsimp only
 rw[cond_true,xet (by omega) (by omega) (by show 3≤100;omega),obS]
 dsimp only
 rw[obS]
 dsimp only
 rw[Bool.not_true,cond_false,counter1 (n:=n) (wq h) rfl vars1 fun v hv=>⟨_,xk9 h hv,xei (by omega) rfl⟩,obS]
 rfl
theorem xgf {n:Nat}{le:Nat→Nat→Bool}(h:BoolP n le):V116 (ringAlg n le) ([(-1:Int),(0:Int),(-1:Int),(0:Int),(1:Int)],[(1:Int)],())=some ((true,true,()),()):=by
 unfold V116 wtl V110 wta
 rw[wp3 h,obS]
 dsimp only
 rw[Bool.not_true,cond_false,xln,obS]
 dsimp only
 rw[cond_true,xet (by omega) (by omega) (by show 2≤100;omega),obS]
 dsimp only
 rw[obS]
 dsimp only
 rw[Bool.not_true,cond_false,counter2 (n:=n) (wq h) h.lp.lat.ne rfl vars2 fun x y hx hy=>⟨_,xla h hx hy,xei (by omega) rfl⟩,obS]
 rfl
theorem wb6 {p:PT}(hl:p.1.length≤1000000000) (hr:∀x∈p.1,x.length≤10):V107 p p=some (true,()):=by
 unfold V107 w6h
 rw[wyp p.1 hl hr,obS]
theorem zg {a:AlT}(hs:SmallA a):V85 big a a=some (true,()):=by
 have h1:=hs.1
 unfold V85 w5f
 rw[cdf (by omega),cdf (by omega)]
 refine xm9 a.2.1.length (fun _=>True) (by omega) (fun rc i hi _ ih => ?_) (fun rc _ => ?_) 0 (by omega) trivial
 ·have h2:=hs.2 _ (List.getElem_mem hi)
  unfold wjf
  rw[cdt (by omega),jf a.2.1 i hi,obS,obS,cdf (by omega),obS,obS,xw _ (by omega),obS,wr1 (by omega)]
  exact ih trivial
 ·unfold wjf
  rw[cdf (by omega)]
  rfl
def okPowS:Bool:=[(0:Int),(1:Int),(2:Int),(3:Int),(-1:Int),(4:Int)].all fun k=>match V93 big k,V129 k with
 | some ((p,b,()),()),some ((q,c,()),())=>decide (p=q)&&(b==c)&&decide (p.1.length≤10)&&p.1.all fun r=>decide (r.length≤10)
 | _,_=>false
theorem xgk:okPowS=true:=by kernel_rfl
def okKn (A:AlT):Bool:=decide (A.2.1.length≤1000)&&A.2.1.all fun o=>decide (o.2.1.length≤1000)
def okKnownA:Bool:=(List.range 17).all fun i=>match V119 (i:Int) with
 | some (A,())=>okKn A
 | none=>false
theorem w6b:okKnownA=true:=by kernel_rfl
theorem wxh {i:Int}(h0:0≤i) (h1:i<17):∃A,V119 i=some (A,())∧SmallA A:=by
 have hh:=List.all_eq_true.1 w6b i.toNat (List.mem_range.2 (by omega))
 rw[show((i.toNat:Nat):Int)=i by omega]at hh
 split at hh
 case h_2=>cases hh
 rename_i A e
 unfold okKn at hh
 simp only[Bool.and_eq_true,decide_eq_true_eq,List.all_eq_true]at hh
 exact⟨A,e,by omega,fun o ho=>by have:=hh.2 o ho;omega⟩
def Qa (r:Option (AlT×(Cu×Unit))):Prop:=∃A c',r=some (A,(c',()))∧SmallA A
structure AlOk (A:AlT):Prop where
 len:A.2.1.length≤10
 tab:∀o∈A.2.1,1≤o.2.1.length∧o.2.1.length≤100
theorem AlOk.small {A:AlT}(h:AlOk A):SmallA A:=⟨by have:=h.len;omega,fun o ho=>by have:=h.tab o ho;omega⟩
theorem w6f {c:Cu}{A a2:AlT}{n:Int}(hc:COk 1000 c) (hn:2≤n∧n≤4) (hA:AlOk A) (hne:A.2.1≠[]):Qa (xi (wz big) c a2 n A):=by
 obtain⟨v,c1,e1,v0,v1,hc1⟩:=wd (k:=998) hc 16
 have hl:=hA.len
 unfold xi
 rw[e1,obS]
 dsimp only
 match hA1:A.2.1,hne with
 | o::os,_ =>
 have ho:=hA.tab o (by rw[hA1];simp)
 have hos:∀x∈os,x.2.1.length≤1000:=fun x hx=>by have:=hA.tab x (by rw[hA1];simp[hx]);omega
 have hol:os.length≤1000:=by rw[hA1]at hl;simp at hl;omega
 have sm:∀(s:Int) (o':OpT),o'.2.1.length≤1000→SmallA (s,o'::os,A.2.2):=fun s o' h=>⟨by simp;omega,fun x hx=>by
  rcases List.mem_cons.1 hx with rfl|hx
  ·show x.2.1.length≤_;omega
  ·have:=hos x hx;omega⟩
 by_cases v2:v=0
 ·obtain⟨s,c2,e2,_,_⟩:=wk (k:=996) hc1 (l:=[(0:Int),(9:Int),IntKind.i64.wrap (n+(1:Int))]) (by simp)
  rw[cdt v2,e2,obS]
  exact⟨_,_,rfl,⟨hA.small.1,hA.small.2⟩⟩
 rw[cdf v2]
 by_cases v3:v=1
 ·rw[cdt v3,List.getElem?_cons_zero,obS,app1 (by omega),obS]
  exact⟨_,_,rfl,sm _ _ (by show(o.2.1++[0]).length≤1000;rw[List.length_append,List.length_singleton];omega)⟩
 rw[cdf v3]
 by_cases v4:v=2
 ·obtain⟨i,c2,e2,i0,i1,hc2⟩:=wd (k:=996) hc1 (o.2.1.length:Int)
  have i1:=i1 (by omega)
  obtain⟨s,c3,e3,_,_⟩:=wk (k:=994) hc2 (l:=[(-1:Int),n]) (by simp)
  have hi:i.toNat<o.2.1.length:=by omega
  have ea:=jf o.2.1 i.toNat hi
  rw[show((i.toNat:Nat):Int)=i by omega]at ea
  have e0:atI (o::os) (0:Int)=some o:=rfl
  rw[cdt v4,show((0:Int).toNat)=0 from rfl]
  simp only[e0,List.getElem?_cons_zero,obS,e2,e3,ea,List.getElem?_eq_getElem hi]
  exact⟨_,_,rfl,sm _ _ (by show(o.2.1.set _ _).length≤1000;rw[List.length_set];omega)⟩
 rw[cdf v4]
 by_cases v5:v=3
 ·obtain⟨s,c2,e2,_,_⟩:=wk (k:=996) hc1 (l:=[(-1:Int),(4:Int)]) (by simp)
  have e0:atI (o::os) (0:Int)=some o:=rfl
  rw[cdt v5,e2,show((0:Int).toNat)=0 from rfl]
  simp only[e0,List.getElem?_cons_zero,obS]
  exact⟨_,_,rfl,sm _ _ (by show o.2.1.length≤1000;omega)⟩
 rw[cdf v5]
 by_cases v6:v=4
 ·rw[cdt v6]
  refine xff (Q:=Qa) (fun _ B=>20-B.2.1.length) (fun c B=>B.2.1.length≤10∧(∀x∈B.2.1,x.2.1.length≤1000)∧COk (2*(20-B.2.1.length)) c) (fun rc c B hI ih => ?_) _ _ (by omega) ⟨hl,fun x hx=>by have:=hA.tab x hx;omega,hc1.mono (by omega)⟩
  obtain⟨b1,b2,b3⟩:=hI
  obtain⟨w,c2,e2,w0,w1,hc2⟩:=wd (k:=2*(20-(B.2.1.length+1))) (b3.mono (by omega)) 2
  have w1:=w1 (by omega)
  unfold wl3
  rw[e2,obS]
  dsimp only
  rw[wr (by omega) (by omega)]
  by_cases h:(B.2.1.length:Int)<4+w
  ·obtain⟨m,hm⟩:∃m:Nat,n=(m:Int):=⟨n.toNat,by omega⟩
   obtain⟨z,hz,hz2⟩:∃z,mkI (0:Int) n=some z∧z.length≤1000:=by
    rcases (show n=2∨n=3∨n=4 by omega) with rfl|rfl|rfl
    ·exact⟨[0,0],by kernel_rfl,by simp⟩
    ·exact⟨[0,0,0],by kernel_rfl,by simp⟩
    ·exact⟨[0,0,0,0],by kernel_rfl,by simp⟩
   rw[cdt h,hz,obS,obS,cdt (by omega),app1 (by omega),obS]
   refine ih _ _ ⟨by show(B.2.1++[_]).length≤10;rw[List.length_append,List.length_singleton];omega,fun x hx => ?_,hc2.mono (by show 2*(20-(B.2.1++[_]).length)≤_;rw[List.length_append,List.length_singleton];omega)⟩ (by show 20-(B.2.1++[_]).length<_;rw[List.length_append,List.length_singleton];omega)
   rcases List.mem_append.1 hx with hx|hx
   ·exact b2 x hx
   ·rw[List.mem_singleton]at hx;subst hx;exact hz2
  ·rw[cdf h]
   exact⟨_,_,rfl,by omega,fun x hx=>by have:=b2 x hx;omega⟩
 rw[cdf v6]
 exact⟨_,_,rfl,hA.small⟩
theorem xlf {n j:Nat}(h1:2≤n) (h2:n≤4) (hj:j≤3):1≤n ^ j∧n ^ j≤64:=by
 constructor
 ·exact Nat.pow_pos (by omega)
 ·have a:=Nat.pow_le_pow_left h2 j
  have b:=Nat.pow_le_pow_right (n:=4) (by omega) hj
  omega
theorem wyf {c:Cu}(hc:COk 5000 c):Qa (V120 big c):=by
 unfold V120 wty
 obtain⟨b,c1,e1,hc1⟩:=yf (k:=4998) hc 4
 rw[e1,obS]
 dsimp only
 cases b with
 | false =>
  obtain⟨i,c2,e2,i0,i1,_⟩:=wd (k:=4996) hc1 17
  obtain⟨A,e3,hA⟩:=wxh i0 (i1 (by omega))
  rw[Bool.not_false,cond_true,e2,obS]
  dsimp only
  rw[e3,obS]
  exact⟨_,_,rfl,hA⟩
 | true =>
  obtain⟨n,c2,e2,hn,hc2⟩:=wk (k:=4996) hc1 (l:=[(2:Int),(2:Int),(3:Int),(3:Int),(4:Int)]) (by simp)
  obtain⟨m,c3,e3,hm,hc3⟩:=wk (k:=4994) hc2 (l:=[(1:Int),(1:Int),(2:Int)]) (by simp)
  have hn:2≤n∧n≤4:=by
   simp only[List.mem_cons,List.not_mem_nil,or_false]at hn
   omega
  have hm:1≤m∧m≤2:=by
   simp only[List.mem_cons,List.not_mem_nil,or_false]at hm
   omega
  rw[Bool.not_true,cond_false,e2,obS]
  dsimp only
  rw[e3,obS]
  dsimp only
  obtain⟨N,rfl⟩:=Int.eq_ofNat_of_zero_le (show 0≤n by omega)
  refine xil (Q:=Qa) (fun _ _ m=>m.toNat) (fun c A m=>0≤m∧A.2.1.length+m.toNat≤2∧1≤A.2.1.length+m.toNat∧AlOk A∧COk (1000+200*m.toNat) c) (fun rc c A m hI ih => ?_) _ _ _ (by omega) ⟨by omega,by simp;omega,by omega,⟨by simp,by simp⟩,hc3.mono (by omega)⟩
  obtain⟨m0,m1,m2,hA,hc⟩:=hI
  unfold wkw
  by_cases h0:0<m
  ·obtain⟨a,c4,e4,ha,hc4⟩:=wk (k:=1000+200*(m-1).toNat+198) (hc.mono (by omega)) (l:=[(0:Int),(1:Int),(2:Int),(2:Int),(3:Int)]) (by simp)
   have ha:0≤a∧a≤3:=by
    simp only[List.mem_cons,List.not_mem_nil,or_false]at ha
    omega
   rw[cdt h0,e4,obS]
   dsimp only
   have go:∀j:Nat,j≤3→Qa ((V20 big (N:Int) (j:Int)).bind fun rq8=>wau big rc (xi (wz big)) c4 ((0:Int),(([]:List OpT),())) (N:Int) A m ((j:Int),(([]:List Int),())) rq8.1):=by
    intro j hj
    have hp:=xlf (n:=N) (j:=j) (by omega) (by omega) hj
    rw[w2e (by omega) j hj,obS]
    dsimp only
    refine xfe (Q:=Qa) (fun _ _ q=>q.toNat) (fun c o q=>0≤q∧o.2.1.length+q.toNat=N ^ j∧COk (1000+200*(m-1).toNat+2*q.toNat) c) (fun rc2 c o q hI2 ih2 => ?_) _ _ _ (by omega) ⟨by omega,by show([]:List Int).length+_=_;rw[List.length_nil,Nat.zero_add,Int.toNat_natCast],hc4.mono (by omega)⟩
    obtain⟨q0,q1,hc5⟩:=hI2
    unfold wl2
    by_cases hq:0<q
    ·obtain⟨x,c5,e5,_,_,hc6⟩:=wd (k:=1000+200*(m-1).toNat+2*(q-1).toNat) (hc5.mono (by omega)) (N:Int)
     rw[cdt hq,e5,obS]
     dsimp only
     rw[app1 (by omega),obS,wr (by omega) (by omega)]
     exact ih2 _ _ _ ⟨by omega,by show(o.2.1++[x]).length+_=_;rw[List.length_append,List.length_singleton];omega,hc6⟩ (by omega)
    ·unfold wax
     rw[cdf hq,app1 (by have:=hA.len;omega),obS,wr (by omega) (by omega)]
     refine ih _ _ _ ⟨by omega,by show(A.2.1++[o]).length+_≤2;rw[List.length_append,List.length_singleton];omega,by show 1≤(A.2.1++[o]).length+_;rw[List.length_append,List.length_singleton];omega,⟨by show(A.2.1++[o]).length≤10;rw[List.length_append,List.length_singleton];omega,fun y hy => ?_⟩,hc5.mono (by omega)⟩ (by omega)
     rcases List.mem_append.1 hy with hy|hy
     ·exact hA.tab y hy
     ·rw[List.mem_singleton]at hy;subst hy;omega
   obtain⟨j,rfl⟩:=Int.eq_ofNat_of_zero_le ha.1
   by_cases h4:(N:Int)=4
   ·rw[cdt h4]
    by_cases h3:(j:Int)=3
    ·rw[cdt h3];exact go 2 (by omega)
    ·rw[cdf h3];exact go j (by omega)
   ·rw[cdf h4];exact go j (by omega)
  ·rw[cdf h0]
   exact w6f (hc.mono (by omega)) hn hA (by intro e;rw[e]at m2;simp at m2;omega)
theorem xeb {n:Nat}{le:Nat→Nat→Bool}(h:BoolP n le) (h1:V70 (pos n le)=some (true,())) (h2:V48 (pos n le)=some ((some (lat n le),true,()),())):V72 big (pos n le)=some ((mkR n fun x=>((codeOf le (atm n le) x (atm n le).length:Nat):Int),true,()),())∧V55 big (pos n le)=some ((mkR n fun x=>((codeOf le (atm n le) x (atm n le).length:Nat):Int),true,()),()):=by
 unfold V72 wsf V55 wsa
 have h10:=h.lp.le10
 rw[h1,h2]
 simp only[obS,Bool.not_true,cond_false,lat1,mkR_len,wx7 h.lp]
 have hA:∀a∈atm n le,a<n:=fun a ha=>(fl_mem.1 ha).1
 have hAl:(atm n le).length≤n:=jh _ _
 have hat:V54 (some (lat n le))=some (cs (atm n le),()):=wxj h.lp
 generalize atm n le=A at hA hAl hat
 refine⟨?_, ?_⟩
 ·refine xmz n (fun i l=>l=mkR i fun x=>((codeOf le A x A.length:Nat):Int)) (by omega) ?_ ?_ 0 (by omega) _ rfl
  ·intro rc i l hi hv ih
   unfold wff
   rw[wb,cdt (by omega)]
   refine xkd A.length (fun k c=>c=((codeOf le A i k:Nat):Int)) (by omega) ?_ ?_ 0 (by omega) _ rfl
   ·intro rc2 k c hk hc ih2
    have ha:=hA _ (List.getElem_mem hk)
    have q1:=wjz le A i k
    have q2:=wls (show k≤10 by omega)
    unfold wfe
    simp only[cs_len,cdt (show(k:Int)<(A.length:Int) by omega),jo hk,obS,Int.toNat_natCast,jz hk,zl (le:=le) (show n≤4294967296 by omega) ha hi,xgi k (show k≤10 by omega),wr1 (show k≤4611686018427387904 by omega),hc]
    cases hle:le A[k] i with
    | true =>
     rw[cond_true,wr (by omega) (by omega)]
     refine ih2 _ ?_
     rw[wi,wo hk,hle,if_pos rfl]
     omega
    | false =>
     refine ih2 _ ?_
     rw[wi,wo hk,hle,if_neg (by simp)]
     omega
   ·intro rc2 c hc
    unfold wfe
    rw[cs_len,cdf (by omega),wam,app1 (by rw[hv,mkR_len];omega),obS,wr1 (by omega)]
    exact ih _ (by rw[hv,hc];exact(jv i fun x=>((codeOf le A x A.length:Nat):Int)).symm)
  ·intro rc l hv
   unfold wff
   rw[wb,cdf (by omega),yz,hv]
 ·refine xmj n (fun i l=>l=mkR i fun x=>((codeOf le A x A.length:Nat):Int)) (by omega) ?_ ?_ 0 (by omega) _ rfl
  ·intro rc i l hi hv ih
   unfold wel
   rw[cdt (by omega),hat,obS,cs_len]
   refine xjt A.length (fun k c=>c=((codeOf le A i k:Nat):Int)) (by omega) ?_ ?_ 0 (by omega) _ rfl
   ·intro rc2 k c hk hc ih2
    have ha:=hA _ (List.getElem_mem hk)
    have q1:=wjz le A i k
    have q2:=wls (show k≤10 by omega)
    unfold wek
    simp only[cdt (show(k:Int)<(A.length:Int) by omega),jo hk,obS,Int.toNat_natCast,jz hk,lat1,jd ha,jd hi,shl1 (show k≤10 by omega),wr1 (show k≤4611686018427387904 by omega),hc]
    cases hle:le A[k] i with
    | true =>
     rw[cond_true,wr (by omega) (by omega)]
     refine ih2 _ ?_
     rw[wi,wo hk,hle,if_pos rfl]
     omega
    | false =>
     refine ih2 _ ?_
     rw[wi,wo hk,hle,if_neg (by simp)]
     omega
   ·intro rc2 c hc
    unfold wek
    rw[cdf (by omega),wag,app1 (by rw[hv,mkR_len];omega),obS,wr1 (by omega)]
    exact ih _ (by rw[hv,hc];exact(jv i fun x=>((codeOf le A x A.length:Nat):Int)).symm)
  ·intro rc l hv
   unfold wel
   rw[cdf (by omega),yr,hv]
theorem xec {n:Nat}{le:Nat→Nat→Bool}(h:BoolP n le) (h1:V70 (pos n le)=some (true,())) (h2:V48 (pos n le)=some ((some (lat n le),true,()),())):V77 (pos n le)=some ((mkR n fun x=>((cpl n le x:Nat):Int),true,()),())∧V75 (pos n le)=some ((mkR n fun x=>((cpl n le x:Nat):Int),true,()),()):=by
 unfold V77 w47 V75 w44
 rw[h1,h2]
 simp only[obS,Bool.not_true,cond_false,wbv h,wbx h]
 exact⟨trivial,trivial⟩
theorem wx6 {n:Nat}{le:Nat→Nat→Bool}(h:BoolP n le) (h1:V70 (pos n le)=some (true,())) (h2:V48 (pos n le)=some ((some (lat n le),true,()),())):V84 (pos n le)=some ((ringAlg n le,true,()),())∧V81 (pos n le)=some ((ringAlg n le,true,()),()):=by
 unfold V84 w5e V81 wsj
 rw[h1,h2]
 simp only[obS,Bool.not_true,cond_false,wlz h,wlt h]
 exact⟨trivial,trivial⟩
theorem xer {n:Nat}{le:Nat→Nat→Bool}(h:BoolP n le) (h2:V48 (pos n le)=some ((some (lat n le),true,()),())):V81 (pos n le)=some ((ringAlg n le,true,()),()):=by
 unfold V81 wsj
 rw[h2]
 simp only[obS,Bool.not_true,cond_false,wlt h]
theorem wxl {n:Nat}{le:Nat→Nat→Bool}(h:BoolP n le) (h1:V70 (pos n le)=some (true,())):V89 (pos n le)=some ((boolA n le,true,()),()):=by
 unfold V89 w5j
 rw[h1]
 simp only[obS,Bool.not_true,cond_false,wrp h.lp,wbx h]
 rfl
theorem wyh {n:Nat}{le:Nat→Nat→Bool}(h8:n≤8):SmallA (boolA n le):=by
 have hnn:n*n≤8*8:=Nat.mul_le_mul h8 h8
 refine⟨by show 3≤1048576;omega,fun o ho => ?_⟩
 simp only[boolA,List.mem_cons,List.not_mem_nil,or_false]at ho
 rcases ho with rfl|rfl|rfl
 ·show(flt n _ n).length≤_;rw[wc];omega
 ·show(flt n _ n).length≤_;rw[wc];omega
 ·show(mkR n _).length≤_;rw[mkR_len];omega
theorem wx9 {p:PT}(h1:V70 p=some (false,())) (h2:∃l,V48 p=some ((l,false,()),())) :
  (V72 big p=some (([],false,()),())∧V55 big p=some (([],false,()),()))∧(V77 p=some (([],false,()),())∧V75 p=some (([],false,()),())) ∧
  (∃A,V84 p=some ((A,false,()),())∧V81 p=some ((A,false,()),())∧SmallA A)∧∃A,V89 p=some ((A,false,()),())∧V87 p=some ((A,false,()),())∧SmallA A:=by
 obtain⟨l,h2⟩:=h2
 refine⟨⟨?_, ?_⟩,⟨?_, ?_⟩,⟨((0:Int),[],()), ?_, ?_,⟨by simp,by simp⟩⟩,⟨((0:Int),[],()), ?_, ?_,⟨by simp,by simp⟩⟩⟩
 ·unfold V72 wsf;rw[h1];rfl
 ·unfold V55 wsa;rw[h2];rfl
 ·unfold V77 w47;rw[h1];rfl
 ·unfold V75 w44;rw[h2];rfl
 ·unfold V84 w5e;rw[h1];rfl
 ·unfold V81 wsj;rw[h2];rfl
 ·unfold V89 w5j;rw[h1];rfl
 ·unfold V87 w5h;rw[h2];rfl
theorem xga {code:List Int}(hc:Codes code):∃b,V121 code=some (b,())∧SmallA b:=by
 obtain⟨p,c1,e1,hp,hc1⟩:=wxr hc
 unfold V121 w61
 rw[e1,obS]
 dsimp only
 rcases wgs hp.rows12 with⟨n,le,e,h,h1,h2⟩|⟨h1,h2⟩
 ·subst e
  have h8:=wq h
  have h0:=h.lp.lat.ne
  have hnn:n*n≤8*8:=Nat.mul_le_mul h8 h8
  have hnn0:0<n*n:=Nat.mul_pos h0 h0
  have hs:=yi (le:=le) h.lp.le10
  rw[(wx6 h h1 h2).1,obS]
  dsimp only
  obtain⟨v,c2,e2,_,_,hc2⟩:=wd (k:=9000) (hc1.mono (by omega)) 8
  rw[Bool.not_true,cond_false,e2,obS]
  dsimp only
  by_cases v0:v=0
  ·obtain⟨k,c3,e3,k0,k1,hc3⟩:=wd (k:=8000) (hc2.mono (by omega)) 2
   have k1:=k1 (by omega)
   obtain⟨f,hf,hfl⟩:∃f:Nat→Nat→Int,(ringAlg n le).2.1[k.toNat]? = some ((2:Int),flt n f n,())∧k.toNat<(ringAlg n le).2.1.length:=by
    rcases (show k.toNat=0∨k.toNat=1 by omega) with q|q<;>rw[q]
    ·exact⟨sumF n le,rfl,by show 0<2;omega⟩
    ·exact⟨meetF n le,rfl,by show 1<2;omega⟩
   have hfn:=wc n f n
   obtain⟨i,c4,e4,i0,i1,hc4⟩:=wd (k:=7000) (hc3.mono (by omega)) ((flt n f n).length:Int)
   have i1:=i1 (by omega)
   obtain⟨x,c5,e5,_,_,_⟩:=wd (k:=6000) (hc4.mono (by omega)) ((ringAlg n le).1)
   have hi:i.toNat<(flt n f n).length:=by omega
   have ea:=jf (flt n f n) i.toNat hi
   rw[show((i.toNat:Nat):Int)=i by omega]at ea
   have ek:=jf (ringAlg n le).2.1 k.toNat hfl
   rw[show((k.toNat:Nat):Int)=k by omega]at ek
   rw[cdt v0,e3,obS]
   dsimp only
   rw[ek,obS]
   simp only[hf,obS,e4,e5,ea,List.getElem?_eq_getElem hi]
   refine⟨_,rfl,⟨by show((ringAlg n le).2.1.set _ _).length≤_;rw[List.length_set];exact hs.1,fun o ho => ?_⟩⟩
   rcases List.mem_or_eq_of_mem_set ho with ho|rfl
   ·exact hs.2 o ho
   ·show((flt n f n).set _ _).length≤_
    rw[List.length_set];omega
  ·rw[cdf v0]
   by_cases v1:v=1
   ·rw[cdt v1,cdt (by show(1:Int)≤2;omega)]
    exact⟨_,rfl,⟨by show((ringAlg n le).2.1.take 1).length≤_;rw[List.length_take];have:=hs.1;omega,fun o ho=>hs.2 o (List.mem_of_mem_take ho)⟩⟩
   ·rw[cdf v1]
    exact⟨_,rfl,hs⟩
 ·obtain⟨_,_,⟨A,e2,_,_⟩,_⟩:=wx9 h1 h2
  obtain⟨B,c2,e3,hB⟩:=wyf (hc1.mono (by omega))
  rw[e2,obS]
  dsimp only
  rw[Bool.not_false,cond_true,e3,obS]
  exact⟨_,rfl,hB⟩
theorem stoneP {code:List Int}(hc:Codes code):((V128 code).bind fun rq47 =>
 (V93 big rq47.1).bind fun rq48 =>
 (V129 rq47.1).bind fun rq49 =>
 cond (((((),rq48.1.2).2).1)==((((),rq49.1.2).2).1))
 ((V107 rq48.1.1 rq49.1.1).bind fun rq50 =>
 some (rq50.1,(())))
 (some (false,(()))))=some (true,()):=by
 obtain⟨k,c1,e1,hk,_⟩:=wk (k:=9000) (c:=(code,((0:Int),((0:Int),())))) (hc.start.mono (by omega)) (l:=[(0:Int),(1:Int),(2:Int),(3:Int),(-1:Int),(4:Int)]) (by simp)
 have hh:=List.all_eq_true.1 xgk k hk
 have e2:V128 code=some (k,()):=by
  unfold V128 w62
  rw[e1,obS]
 rw[e2,obS]
 split at hh
 case h_2=>cases hh
 rename_i p b q c f1 f2
 simp only[Bool.and_eq_true,decide_eq_true_eq,List.all_eq_true,beq_iff_eq]at hh
 obtain⟨⟨⟨rfl,rfl⟩,h3⟩,h4⟩:=hh
 rw[f1,f2,obS,obS]
 dsimp only
 rw[beq_self_eq_true,cond_true,wb6 (by omega) h4]
 rfl
theorem stoneL {code:List Int}(hc:Codes code):((V121 code).bind fun rq41 =>
 (V105 rq41.1).bind fun rq42 =>
 (V127 big rq41.1).bind fun rq43 =>
 cond (rq42.1.2.1 != ((((),rq43.1.2).2).1))
 (some (false,(())))
 ((V107 rq42.1.1 rq43.1.1).bind fun rq44 =>
 cond (!rq44.1)
 (some (false,(())))
 (cond rq42.1.2.1
 ((V81 rq42.1.1).bind fun rq45 =>
 cond (!((((),rq45.1.2).2).1))
 (some (false,(())))
 ((V85 big rq45.1.1 rq41.1).bind fun rq46 =>
 cond (!rq46.1)
 (some (false,(())))
 ((V128 code).bind fun rq47 =>
 (V93 big rq47.1).bind fun rq48 =>
 (V129 rq47.1).bind fun rq49 =>
 cond (((((),rq48.1.2).2).1)==((((),rq49.1.2).2).1))
 ((V107 rq48.1.1 rq49.1.1).bind fun rq50 =>
 some (rq50.1,(())))
 (some (false,(()))))))
 ((V128 code).bind fun rq51 =>
 (V93 big rq51.1).bind fun rq52 =>
 (V129 rq51.1).bind fun rq53 =>
 cond (((((),rq52.1.2).2).1)==((((),rq53.1.2).2).1))
 ((V107 rq52.1.1 rq53.1.1).bind fun rq54 =>
 some (rq54.1,(())))
 (some (false,(())))))))=some (true,()):=by
 have hP:=stoneP hc
 obtain⟨b,e1,hb⟩:=xga hc
 obtain⟨v,s,i,hl,hr,ht⟩:=xld b hb
 obtain⟨r,f,u⟩:=v
 rw[hP,e1,obS]
 dsimp only
 rw[i,obS,s,obS]
 dsimp only
 rw[bne_self_eq_false,cond_false,wb6 (by have:r.1.length≤10:=hl;omega) hr,obS]
 dsimp only
 rw[Bool.not_true,cond_false]
 cases f with
 | false=>rfl
 | true =>
  obtain⟨m,le,h,h2,e2,e3⟩:=ht rfl
  have e2:r=pos m le:=e2
  subst e2
  subst e3
  rw[cond_true,xer h h2,obS]
  dsimp only
  rw[Bool.not_true,cond_false,zg hb,obS]
  rfl
theorem stoneLoop {code:List Int}(hc:Codes code){n:Nat}{le:Nat→Nat→Bool}(h:BoolP n le):wlp big code (pos n le) (mkR n fun x=>((codeOf le (atm n le) x (atm n le).length:Nat):Int)) (mkR n fun x=>((cpl n le x:Nat):Int)) (ringAlg n le) (boolA n le) ((0:Nat):Int)=some (true,()):=by
 have h8:=wq h
 refine xk2 n (fun _=>True) (by omega) (fun rc i hi _ ih => ?_) (fun rc _ => ?_) 0 (by omega) trivial
 ·have c1:=(we h.cmp hi).1
  have hs:=wxn h hi _ (Nat.le_refl _)
  rw[←xn4 h]at hs
  unfold wf9
  rw[mkR_len,cdt (by omega)]
  simp only[jd hi,Int.toNat_natCast,jp hi,obS,jd c1,jp c1,w14 h hi,wb]
  rw[cdf (fun q=>q rfl),wr (n:=_+_) (by omega) (by omega),wr (n:=(n:Int)-1) (by omega) (by omega),cdf (by omega),wr1 (by omega)]
  exact ih trivial
 ·unfold wf9 wan
  rw[mkR_len,cdf (by omega),xge h,obS]
  dsimp only
  rw[Bool.not_true,cond_false,cond_false,xgf h,obS]
  dsimp only
  rw[Bool.not_true,cond_false,cond_false]
  exact stoneL hc
theorem true_FnStone (code:List Int) (hw:Wf (.pair (.sl (.int .u8)) .unit) (code,())):laws_FnStone big code=some (true,()):=by
 unfold laws_FnStone w5u V0 V0_s
 rw[obS]
 dsimp only
 by_cases hl:code.length≤65536
 case neg=>rw[cdt (by omega)]
 have hc:=xf9 hw hl
 have hL:=stoneL hc
 obtain⟨p,c1,e1,hp,_⟩:=wxr hc
 have e2:V24 code=some (p,()):=by
  unfold V24 xgw V23 xgv
  rw[e1,obS,obS]
 rw[cdf (by omega),hL,e2,obS]
 dsimp only
 rcases wgs hp.rows12 with⟨n,le,e,h,h1,h2⟩|⟨h1,h2⟩
 ·subst e
  have h8:=wq h
  obtain⟨s1,i1⟩:=xeb h h1 h2
  obtain⟨s2,i2⟩:=xec h h1 h2
  obtain⟨s3,i3⟩:=wx6 h h1 h2
  have s4:=wxl h h1
  have i4:=wyi h h2
  have t1:=xw (mkR n fun x=>((codeOf le (atm n le) x (atm n le).length:Nat):Int)) (by rw[mkR_len];omega)
  have t2:=xw (mkR n fun x=>((cpl n le x:Nat):Int)) (by rw[mkR_len];omega)
  have t3:=zg (yi (le:=le) h.lp.le10)
  have t4:=zg (wyh (le:=le) h8)
  have t5:V107 (pos n le) (pos n le)=some (true,()):=wb6 (by rw[wb];omega) fun x hx=>by
   obtain⟨y,hy,rfl⟩:=mkR_mem.1 hx
   rw[cs_len]
   exact Nat.le_trans (jh _ _) (by omega)
  have a1:=wyg h.lp (xb h.lp)
  have a2:=xli (zk h)
  have a3:=wxo h
  have a4:=xgj h h2
  have hloop:=stoneLoop hc h
  simp only[s1,i1,t1,s2,i2,t2,s3,i3,t3,s4,i4,t4,a1,cs_len,a2,a3,a4,t5,obS,bne_self_eq_false,cond_false,cond_true,Bool.not_true]
  exact hloop
 ·obtain⟨⟨s1,i1⟩,⟨s2,i2⟩,⟨A,s3,i3,hA⟩,B,s4,i4,hB⟩:=wx9 h1 h2
  have t1:=xw [] (by simp)
  have t3:=zg hA
  have t4:=zg hB
  simp only[s1,i1,t1,s2,i2,s3,i3,t3,s4,i4,t4,obS,bne_self_eq_false,cond_false,cond_true,Bool.not_true]
end Go.Proofs.YtgmapdlhkfajoaaGreat
