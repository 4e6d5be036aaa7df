import Derived.Test.YteanfidobhpchaaGreatPTab
import Derived.Test.YteanfidobhpchaaGreatHLB
import Derived.KernelRfl
set_option linter.unusedVariables false
set_option linter.unusedSimpArgs false
namespace Go.Proofs.YteanfidobhpchaaGreat
open Go Go.Gx Go.Proofs
theorem wwt (x a b:Int):V6 x a b=some (decide (a≤x∧x≤b),()):=by
 unfold V6 V6_s
 by_cases h:a≤x<;>simp[h]
def subst (l:Int) (s:List Int):List Int→List Int
 | []=>[]
 | x::xs=>if x=l then s++subst l s xs else x::subst l s xs
theorem wuh (w:List Int) (h:w.length≤4294967296):V36 w=some (w,()):=by
 unfold V36 wpx
 rw[jk (by simp;omega),obS]
 rfl
def risingB:List Int→Bool
 | x::y::r=>decide (x<y)&&risingB (y::r)
 | _=>true
def inB (n:Nat) (x:Int):Bool:=decide (0≤x∧x<n)
def isSetB (n:Nat) (s:List Int):Bool:=s.all (inB n)&&risingB s
theorem wj9 (l:List Int) (i:Nat) (h:i<l.length) (h1:1≤i):risingB (l.drop (i-1))=(decide (l[i-1]<l[i])&&risingB (l.drop i)):=by
 rw[List.drop_eq_getElem_cons (show i-1<l.length by omega),show i-1+1=i by omega,List.drop_eq_getElem_cons h]
 rfl
theorem woe (l:List Int) (i:Nat) (h:l.length≤i) (h1:1≤i):risingB (l.drop (i-1))=true:=by
 by_cases h2:l.length=i
 ·rw[List.drop_eq_getElem_cons (show i-1<l.length by omega),List.drop_eq_nil_of_le (by omega)]
  rfl
 ·rw[List.drop_eq_nil_of_le (by omega)]
  rfl
theorem wi2 (N:Nat){m:Nat}:∀(n:Nat) (l:List Int) (i:Nat),l.length-i<n→i≤l.length→l.length≤1099511627776 →
  wbu N wfr n l 0 ((m:Int)-1) i=some ((l.drop i).all (inB m)&&risingB (l.drop (i-1)),())
 | 0,_,_,h,_,_=>by omega
 | n+1,l,i,h,hi,hb=>by
  simp only[wbu,wqv]
  by_cases hlt:i<l.length
  ·have e:decide (0≤l[i]∧l[i]≤(m:Int)-1)=inB m l[i]:=by
    unfold inB;congr 1;exact propext ⟨fun h=>⟨h.1,by omega⟩,fun h=>⟨h.1,by omega⟩⟩
   rw[cdt (by omega),jf l i hlt,obS,wwt,obS,e,wr (n:=(i:Int)+1) (by omega) (by omega),wr (n:=(i:Int)-1) (by omega) (by omega)]
   rw[show((i:Int)+1)=((i+1:Nat):Int) by omega,wi2 N n l (i+1) (by omega) (by omega) hb]
   rw[show i+1-1=i by omega]
   cases hin:inB m l[i] with
   | false =>
    rw[List.drop_eq_getElem_cons hlt,List.all_cons,hin]
    rfl
   | true =>
    simp only[Bool.not_true,cond_false]
    by_cases h0:0<i
    ·rw[cdt (by omega),show((i:Int)-1)=((i-1:Nat):Int) by omega,jf l (i-1) (by omega),obS,obS,wj9 l i hlt h0]
     by_cases hle:l[i]≤l[i-1]
     ·rw[cdt hle,decide_eq_false (by omega)]
      simp
     ·rw[cdf hle,decide_eq_true (show l[i-1]<l[i] by omega),List.drop_eq_getElem_cons hlt,List.all_cons,hin]
      simp
    ·rw[cdf (by omega)]
     have:i=0:=by omega
     subst this
     rw[show(0:Nat)-1=0 from rfl,List.drop_eq_getElem_cons hlt,List.all_cons,hin]
     simp
  ·rw[cdf (by omega),List.drop_eq_nil_of_le (by omega)]
   by_cases h1:1≤i
   ·rw[woe l i (by omega) h1];rfl
   ·have:l=[]:=List.eq_nil_of_length_eq_zero (by omega)
    subst this
    simp[risingB,wfr]
theorem wud (N:Nat){m:Nat}:∀(n:Nat) (l:List Int) (i:Nat),l.length-i<n→i≤l.length→l.length≤1099511627776 →
  wha N wsi n (m:Int) l (l.length:Int) i=some ((l.drop i).all (inB m),())
 | 0,_,_,h,_,_=>by omega
 | n+1,l,i,h,hi,hb=>by
  simp only[wha,wsj]
  by_cases hlt:i<l.length
  ·rw[cdt (by omega),jf l i hlt,obS,wr (n:=(i:Int)+1) (by omega) (by omega)]
   rw[show((i:Int)+1)=((i+1:Nat):Int) by omega,wud N n l (i+1) (by omega) (by omega) hb]
   rw[List.drop_eq_getElem_cons hlt,List.all_cons]
   unfold inB
   by_cases h0:l[i]<0
   ·rw[cdt h0,decide_eq_false (by omega)];rfl
   ·rw[cdf h0]
    by_cases h1:(m:Int)≤l[i]
    ·rw[cdt h1,decide_eq_false (by omega)];rfl
    ·rw[cdf h1,decide_eq_true (by omega)];rfl
  ·rw[cdf (by omega),List.drop_eq_nil_of_le (by omega)]
   rfl
theorem wwy (N:Nat):∀(n:Nat) (l:List Int) (i:Nat),l.length-i<n→1≤i→l.length≤1099511627776→i≤1099511627777 →
  wg9 N wse n l i=some (risingB (l.drop (i-1)),())
 | 0,_,_,h,_,_,_=>by omega
 | n+1,l,i,h,hi,hb,hi2=>by
  simp only[wg9,wsf]
  by_cases hlt:i<l.length
  ·rw[cdt (by omega),wr (n:=(i:Int)-1) (by omega) (by omega),show((i:Int)-1)=((i-1:Nat):Int) by omega,jf l (i-1) (by omega),obS,jf l i hlt,obS,wr (n:=(i:Int)+1) (by omega) (by omega)]
   rw[show((i:Int)+1)=((i+1:Nat):Int) by omega,wwy N n l (i+1) (by omega) (by omega) hb (by omega),wj9 l i hlt hi,show i+1-1=i by omega]
   by_cases hle:l[i]≤l[i-1]
   ·rw[cdt hle,decide_eq_false (by omega)];rfl
   ·rw[cdf hle,decide_eq_true (by omega)];rfl
  ·rw[cdf (by omega),woe l i (by omega) hi]
   rfl
theorem wr1 {i:Nat}(h:i≤4611686018427387904):IntKind.i64.wrap ((i:Int)+1)=((i+1:Nat):Int):=by rw[wr (by omega) (by omega)];omega
abbrev PT:=List (List Int)×Unit
def pos (n:Nat) (le:Nat→Nat→Bool):PT:=(mkR n fun y=>cs (fl n fun x=>le x y),())
def leP (p:PT) (x y:Nat):Bool:=decide ((x:Int)∈p.1.getD y [])
structure Ord (n:Nat) (le:Nat→Nat→Bool):Prop where
 refl:∀x,x<n→le x x=true
 anti:∀x y,x<n→y<n→x≠y→le x y=true→le y x=false
 trans:∀x y z,x<n→y<n→z<n→le x y=true→le y z=true→le x z=true
structure Good (p:PT):Prop where
 len:p.1.length≤10
 rows:∀r∈p.1,isSetB p.1.length r=true
 ord:Ord p.1.length (leP p)
theorem wkf (l:List Int) (x:Int) (h:l.length≤4294967296):V14 big l x=some (decide (x∈l),()):=by
 unfold V14 ww6
 refine xeg l.length (fun i=>x ∉ l.take i) (by omega) ?_ ?_ 0 (by omega) (by simp)
 ·intro rc i hi hv ih
  unfold wfj
  rw[cdt (by omega),jf l i hi,obS]
  by_cases hx:l[i]=x
  ·rw[cdt hx,decide_eq_true (hx▸List.getElem_mem hi)]
  ·rw[cdf hx,wr1 (by omega)]
   refine ih fun h => ?_
   rw[List.take_succ_eq_append_getElem hi,List.mem_append,List.mem_singleton]at h
   exact h.elim hv fun e=>hx e.symm
 ·intro rc hv
  unfold wfj
  rw[cdf (by omega),wbo,decide_eq_false (by simpa using hv)]
theorem wug (S:List Nat) (x:Nat) (h:S.length≤4294967296):V14 big (cs S) (x:Int)=some (decide (x∈S),()):=by
 rw[wkf _ _ (by simpa using h)]
 simp only[cs_mem]
theorem wuv (a b:List Int) (ha:a.length≤4294967296) (hb:b.length≤4294967296):V21 big a b=some (tv (∀x∈a,x∈b),()):=by
 unfold V21 wxf
 refine xel a.length (fun i=>∀x∈a.take i,x∈b) (by omega) ?_ ?_ 0 (by omega) (by simp)
 ·intro rc i hi hv ih
  unfold wft
  rw[cdt (by omega),jf a i hi,obS,wkf _ _ hb,obS]
  by_cases hx:a[i]∈b
  ·rw[decide_eq_true hx,wr1 (by omega)]
   exact ih ((qn hi).2 ⟨hv,hx⟩)
  ·rw[decide_eq_false hx,tv_f fun h=>hx (h _ (List.getElem_mem hi))]
   rfl
 ·intro rc hv
  unfold wft
  rw[cdf (by omega),wbv,tv_t (by simpa using hv)]
theorem wpp (n:Nat) (s:List Int) (hn:n≤1099511627776) (hs:s.length≤1099511627775):V20 big s 0 ((n:Int)-1)=some (isSetB n s,()):=by
 have hb:=jp
 unfold V20 wxd wqt
 have:=wi2 big (m:=n) big s 0 (by omega) (by omega) (by omega)
 rw[show wbu big wfr big s 0 ((n:Int)-1) 0=_ from this]
 rfl
theorem wpd (n:Nat) (s:List Int) (hs:s.length≤1099511627775):V54 big s (n:Int)=some (s.all (inB n),()):=by
 have hb:=jp
 unfold V54 wyp wsg
 have h1:=wud big (m:=n) big s 0 (by omega) (by omega) (by omega)
 rw[show(0:Int)=((0:Nat):Int) from rfl,h1]
 rfl
theorem w9v (s:List Int) (hs:s.length≤1099511627775):V53 big s=some (risingB s,()):=by
 have hb:=jp
 unfold V53 wyn wsc
 have h2:=wwy big big s 1 (by omega) (by omega) (by omega) (by omega)
 rw[show(1:Int)=((1:Nat):Int) from rfl,h2]
 rfl
theorem wj8:∀{l:List Int},risingB l=true→l.Pairwise (·<·)
 | [],_=>List.Pairwise.nil
 | [x],_=>by simp
 | x::y::r,h=>by
  simp only[risingB,Bool.and_eq_true,decide_eq_true_eq]at h
  have h2:=wj8 h.2
  refine List.pairwise_cons.2 ⟨fun z hz => ?_,h2⟩
  rcases List.mem_cons.1 hz with rfl|hz
  ·exact h.1
  ·have:=(List.pairwise_cons.1 h2).1 z hz
   omega
theorem wj6:∀{l:List Int},l.Pairwise (·<·)→risingB l=true
 | [],_=>rfl
 | [x],_=>rfl
 | x::y::r,h=>by
  have h1:=List.pairwise_cons.1 h
  simp only[risingB,Bool.and_eq_true,decide_eq_true_eq]
  exact⟨h1.1 y (by simp),wj6 h1.2⟩
theorem wuk:∀{l m:List Int},l.Pairwise (·<·)→m.Pairwise (·<·)→(∀x,x∈l↔x∈m)→l=m
 | [],[],_,_,_=>rfl
 | [],y::m,_,_,h=>by have:=(h y).2 (by simp);simp at this
 | x::l,[],_,_,h=>by have:=(h x).1 (by simp);simp at this
 | x::l,y::m,h1,h2,h=>by
  have p1:=List.pairwise_cons.1 h1
  have p2:=List.pairwise_cons.1 h2
  have e:x=y:=by
   rcases List.mem_cons.1 ((h x).1 (by simp)) with e|hx
   ·exact e
   ·rcases List.mem_cons.1 ((h y).2 (by simp)) with e|hy
    ·exact e.symm
    ·have:=p1.1 y hy
     have:=p2.1 x hx
     omega
  subst e
  congr 1
  refine wuk p1.2 p2.2 fun z => ?_
  constructor
  ·intro hz
   rcases List.mem_cons.1 ((h z).1 (List.mem_cons_of_mem _ hz)) with e|hz2
   ·have:=p1.1 z hz;omega
   ·exact hz2
  ·intro hz
   rcases List.mem_cons.1 ((h z).2 (List.mem_cons_of_mem _ hz)) with e|hz2
   ·have:=p2.1 z hz;omega
   ·exact hz2
theorem wwp (n:Nat) (P:Nat→Bool):(cs (fl n P)).Pairwise (·<·):=by
 unfold cs fl
 rw[List.pairwise_map]
 refine List.Pairwise.filter _ ?_
 have:=List.pairwise_lt_range (n:=n)
 exact this.imp fun h=>by omega
theorem wpj {n:Nat}{l:List Int}(h:isSetB n l=true):l=cs (fl n fun x=>decide ((x:Int)∈l)):=by
 unfold isSetB at h
 rw[Bool.and_eq_true]at h
 refine wuk (wj8 h.2) (wwp _ _) fun x => ?_
 constructor
 ·intro hx
  have h1:=List.all_eq_true.1 h.1 x hx
  unfold inB at h1
  rw[decide_eq_true_eq]at h1
  have e:x=((x.toNat:Nat):Int):=by omega
  rw[e,cs_mem,fl_mem]
  refine⟨by omega,decide_eq_true ?_⟩
  rw[←e];exact hx
 ·intro hx
  unfold cs at hx
  obtain⟨y,hy,e⟩:=List.mem_map.1 hx
  have:=(fl_mem.1 hy).2
  rw[decide_eq_true_eq]at this
  exact e▸this
theorem xd3 (n:Nat) (P:Nat→Bool):isSetB n (cs (fl n P))=true:=by
 unfold isSetB
 rw[Bool.and_eq_true]
 refine⟨List.all_eq_true.2 fun x hx => ?_,wj6 (wwp n P)⟩
 unfold cs at hx
 obtain⟨y,hy,e⟩:=List.mem_map.1 hx
 have:=(fl_mem.1 hy).1
 unfold inB
 exact decide_eq_true (by omega)
theorem wum {p:PT}(h:∀r∈p.1,isSetB p.1.length r=true):p=pos p.1.length (leP p):=by
 unfold pos
 refine Prod.ext ?_ rfl
 refine jb6 rfl fun i hi => ?_
 refine(wpj (h _ (List.getElem_mem hi))).trans ?_
 refine congrArg cs (vd fun x hx => ?_)
 unfold leP
 simp[hi]
theorem wb (n:Nat) (le:Nat→Nat→Bool):(pos n le).1.length=n:=mkR_len n _
theorem wun (n:Nat) (le:Nat→Nat→Bool):∀r∈(pos n le).1,isSetB (pos n le).1.length r=true:=by
 intro r hr
 rw[wb]
 obtain⟨i,_,e⟩:=mkR_mem.1 hr
 exact e▸xd3 _ _
theorem wwu {n:Nat}{le:Nat→Nat→Bool}{x y:Nat}(hx:x<n) (hy:y<n):leP (pos n le) x y=le x y:=by
 unfold leP pos
 simp only[List.getD_eq_getElem?_getD,jr hy,Option.getD_some,cs_mem,fl_mem,hx,true_and,Bool.decide_eq_true]
theorem Ord.congr {n:Nat}{le le':Nat→Nat→Bool}(e:∀x y,x<n→y<n→le x y=le' x y) (h:Ord n le):Ord n le' where
 refl x hx:=by rw[←e x x hx hx];exact h.refl x hx
 anti x y hx hy hxy h1:=by rw[←e y x hy hx];rw[←e x y hx hy]at h1;exact h.anti x y hx hy hxy h1
 trans x y z hx hy hz h1 h2:=by
  rw[←e x z hx hz];rw[←e x y hx hy]at h1;rw[←e y z hy hz]at h2
  exact h.trans x y z hx hy hz h1 h2
theorem w9p {n:Nat}{le:Nat→Nat→Bool}:Good (pos n le)↔n≤10∧Ord n le:=by
 have e:∀x y,x<n→y<n→leP (pos n le) x y=le x y:=fun x y hx hy=>wwu hx hy
 constructor
 ·intro h
  have h1:=h.len;have h2:=h.ord
  rw[wb]at h1 h2
  exact⟨h1,h2.congr e⟩
 ·intro h
  refine⟨by rw[wb];exact h.1,wun n le, ?_⟩
  rw[wb]
  exact h.2.congr fun x y hx hy=>(e x y hx hy).symm
theorem Good.form {p:PT}(h:Good p):p=pos p.1.length (leP p):=wum h.rows
theorem wj5 {n:Nat}(h:n≤4294967296):V52 big (n:Int)=some (mkT n fun _ _=>false,()):=by
 unfold V52 wyl
 rw[jak h,obS,obS,cdt (by omega),mkR_len]
 refine xfe n (fun i o=>o=mkR n fun x=>if x<i then mkR n fun _=>false else []) (by omega) ?_ ?_ 0 (by omega) _ (by simp)
 ·intro rc i o hi hv ih
  unfold wg8
  rw[cdt (by omega),jak h,obS,obS,cdt (by omega),hv,jd hi,obS,Int.toNat_natCast,jr hi,obS,wr1 (by omega)]
  refine ih _ ?_
  rw[qw]
  refine jo fun x hx => ?_
  by_cases h1:x=i
  ·rw[if_pos h1,if_pos (by omega)]
  ·rw[if_neg h1]
   by_cases h2:x<i
   ·rw[if_pos h2,if_pos (by omega)]
   ·rw[if_neg h2,if_neg (by omega)]
 ·intro rc o hv
  unfold wg8
  rw[cdf (by omega),hv,wcz]
  congr 2
  exact jo fun x hx=>by rw[if_pos hx]
theorem w0i {n:Nat}{le:Nat→Nat→Bool}(hn:n≤4294967296):V55 big (mkT n le)=some (tv (Ord n le),()):=by
 unfold V55 wys
 rw[mkR_len]
 refine xff n (fun i=>∀x,x<i→le x x=true∧(∀y,y<n→(x≠y→le x y=true→le y x=false)∧∀z,z<n→le x y=true→le y z=true→le x z=true)) (by omega) ?_ ?_ 0 (by omega) (by intro x hx;omega)
 ·intro rc i hi hv ih
  unfold wc4
  rw[cdt (by omega),jd hi,obS,jd hi,obS,mkR_len]
  cases h0:le i i with
  | false =>
   rw[tv_f fun h=>by rw[h.refl i hi]at h0;cases h0]
   rfl
  | true =>
   rw[Bool.not_true,cond_false]
   refine xfg n (fun j=>∀y,y<j→(i≠y→le i y=true→le y i=false)∧∀z,z<n→le i y=true→le y z=true→le i z=true) (by omega) ?_ ?_ 0 (by omega) (by intro x hx;omega)
   ·intro rc2 j hj hv2 ih2
    have inn:(i≠j→le i j=true→le j i=false)→zl big rc2 (xk rc) (mkT n le) (i:Int) (j:Int) (n:Int) (i:Int) (n:Int) (j:Int) (n:Int) ((0:Nat):Int)=some (tv (Ord n le),()):=by
     intro hij
     refine xcp n (fun k=>∀z,z<k→le i j=true→le j z=true→le i z=true) (by omega) ?_ ?_ 0 (by omega) (by intro x hx;omega)
     ·intro rc3 k hk hv3 ih3
      unfold wc3
      simp only[cdt (show(k:Int)<(n:Int) by omega),jd hi,jd hj,jd hk,obS,wr1 (show k≤4611686018427387904 by omega)]
      cases h1:le i j with
      | false=>exact ih3 (all_lt_succ.2 ⟨hv3,by intro h;rw[h1]at h;cases h⟩)
      | true =>
       cases h2:le j k with
       | false=>exact ih3 (all_lt_succ.2 ⟨hv3,by intro _ h;rw[h2]at h;cases h⟩)
       | true =>
        cases h3:le i k with
        | false =>
         rw[tv_f fun h=>by rw[h.trans i j k hi hj hk h1 h2]at h3;cases h3]
         rfl
        | true=>exact ih3 (all_lt_succ.2 ⟨hv3,fun _ _=>h3⟩)
     ·intro rc3 hv3
      unfold wc3
      rw[cdf (by omega),zm,wr1 (by omega)]
      exact ih2 (all_lt_succ.2 ⟨hv2,hij,hv3⟩)
    unfold wc5
    rw[cdt (by omega),jd hi,obS,jd hj,obS,jd hj,obS,jd hi,obS,mkR_len]
    by_cases hij:i=j
    ·rw[cdf (by omega)]
     exact inn fun h=>absurd hij h
    ·rw[cdt (by omega)]
     cases h1:le i j with
     | false=>exact inn fun _ h=>by rw[h1]at h;cases h
     | true =>
      cases h2:le j i with
      | false=>exact inn fun _ _=>h2
      | true =>
       rw[tv_f fun h=>by rw[h.anti i j hi hj hij h1]at h2;cases h2]
       rfl
   ·intro rc2 hv2
    unfold wc5
    rw[cdf (by omega),xk,wr1 (by omega)]
    exact ih (all_lt_succ.2 ⟨hv,h0,hv2⟩)
 ·intro rc hv
  unfold wc4
  rw[cdf (by omega),yj,tv_t]
  exact⟨fun x hx=>(hv x hx).1,fun x y hx hy=>((hv x hx).2 y hy).1,fun x y z hx hy hz=>((hv x hx).2 y hy).2 z hz⟩
theorem www {α:Type}{n:Nat}{f:Nat→Nat→α}{x y:Nat}{v:α}:(mkT n f).set x ((mkR n (f x)).set y v)=mkT n fun a b=>if a=x∧b=y then v else f a b:=by
 rw[qw]
 refine jo fun a ha => ?_
 by_cases h:a=x
 ·subst h
  rw[if_pos rfl,qw]
  exact jo fun b hb=>by simp
 ·rw[if_neg h]
  exact jo fun b hb=>by simp[h]
theorem wob (p:PT) (hl:p.1.length≤10) (hx:∀r∈p.1,r.length≤4294967296) :
  V56 big p=some (@ite _ (∀r∈p.1,isSetB p.1.length r=true) (Classical.propDecidable _) (mkT p.1.length (leP p),tv (Ord p.1.length (leP p)),()) ([],false,()),()):=by
 unfold V56 wpy
 generalize hn:p.1.length=n
 rw[cdf (by omega),wj5 (by omega),obS]
 refine xfh n (fun i o=>(∀j,j<i→∀(h:j<p.1.length),isSetB n p.1[j]=true)∧o=mkT n fun a b=>decide (b<i)&&leP p a b) (by omega) ?_ ?_ 0 (by omega) _ ⟨by intro j hj;omega,ju fun a b _ _=>by simp⟩
 ·intro rc i o hi hv ih
  obtain⟨hv1,hv2⟩:=hv
  unfold wda
  have hip:i<p.1.length:=by omega
  have hrow:=hx _ (List.getElem_mem hip)
  rw[cdt (by omega),jf _ i hip,obS,w9v _ (by omega),obS]
  cases h1:risingB p.1[i] with
  | false =>
   rw[if_neg fun h=>by have:=h _ (List.getElem_mem hip);unfold isSetB at this;rw[h1,Bool.and_false]at this;cases this]
   rfl
  | true =>
   rw[Bool.not_true,cond_false,wpd n _ (by omega),obS]
   cases h2:p.1[i].all (inB n) with
   | false =>
    rw[if_neg fun h=>by have:=h _ (List.getElem_mem hip);unfold isSetB at this;rw[h2,Bool.false_and]at this;cases this]
    rfl
   | true =>
    rw[Bool.not_true,cond_false]
    have hset:isSetB n p.1[i]=true:=by unfold isSetB;rw[h1,h2];rfl
    have hle:∀a,leP p a i=decide ((a:Int)∈p.1[i]):=by intro a;unfold leP;simp[hip]
    have hform:=wpj hset
    have hS:∀a,a∈fl n (fun x=>decide ((x:Int)∈p.1[i]))↔a<n∧leP p a i=true:=by
     intro a;rw[fl_mem,hle]
    generalize fl n (fun x=>decide ((x:Int)∈p.1[i]))=S at hform hS
    rw[hform,cs_len]
    refine xcs S.length (fun k o=>o=mkT n fun a b=>if b<i then leP p a b else decide (b=i∧a∈S.take k)) ?_ ?_ ?_ 0 (by omega) _ ?_
    ·have:=congrArg List.length hform
     rw[cs_len]at this
     have:=hx _ (List.getElem_mem hip)
     omega
    ·intro rc2 k o2 hk hv3 ih2
     have hkn:S[k]<n:=((hS _).1 (List.getElem_mem hk)).1
     have hkS:S.length≤4294967296:=by have:=congrArg List.length hform;rw[cs_len]at this;omega
     unfold wc9
     simp only[cdt (show(k:Int)<(S.length:Int) by omega),jn hk,obS,hv3,jd hkn,Int.toNat_natCast,jr hkn,jd hi,jr hi,wr1 (show k≤4611686018427387904 by omega)]
     refine ih2 _ ?_
     rw[www]
     refine ju fun a b _ _ => ?_
     by_cases hb:b<i
     ·rw[if_pos hb,if_pos hb,if_neg (by omega)]
     ·rw[if_neg hb,if_neg hb]
      simp only[uh hk]
      by_cases hbi:b=i
      ·by_cases ha:a=S[k]
       ·simp[hbi,ha]
       ·simp[hbi,ha]
      ·simp[hbi]
    ·intro rc2 o2 hv3
     unfold wc9
     rw[cdf (by omega),zn,wr1 (by omega)]
     refine ih _ ⟨fun j hj hjp => ?_, ?_⟩
     ·rcases Nat.lt_or_ge j i with h|h
      ·exact hv1 j h hjp
      ·have:j=i:=by omega
       subst this;exact hset
     ·rw[hv3]
      refine ju fun a b ha _ => ?_
      by_cases hb:b<i
      ·rw[if_pos hb];simp[show b<i+1 by omega]
      ·rw[if_neg hb,List.take_length]
       by_cases hbi:b=i
       ·subst hbi
        rw[decide_eq_true (show b<b+1 by omega),Bool.true_and]
        cases h:leP p a b with
        | true=>exact decide_eq_true ⟨rfl,(hS a).2 ⟨ha,h⟩⟩
        | false=>exact decide_eq_false fun h3=>by rw[((hS a).1 h3.2).2]at h;cases h
       ·simp[hbi,show ¬b<i+1 by omega]
    ·rw[hv2]
     refine ju fun a b _ _ => ?_
     by_cases hb:b<i
     ·simp[hb]
     ·simp[hb]
 ·intro rc o hv
  obtain⟨hv1,hv2⟩:=hv
  unfold wda
  have ho:o=mkT n (leP p):=by rw[hv2];exact ju fun a b _ hb=>by simp[hb]
  rw[cdf (by omega),yk,ho,w0i (by omega),obS,if_pos]
  intro r hr
  obtain⟨j,hj,e⟩:=List.getElem_of_mem hr
  exact e▸hv1 j (by omega) hj
theorem wuy (p:PT) (hl:¬p.1.length≤10):V56 big p=some (([],false,()),()):=by
 unfold V56 wpy
 rw[cdt (by omega)]
theorem woc (p:PT) (hx:∀r∈p.1,r.length≤4294967296) (h:¬Good p):∃T,V56 big p=some ((T,false,()),()):=by
 by_cases hl:p.1.length≤10
 ·rw[wob p hl hx]
  by_cases hr:∀r∈p.1,isSetB p.1.length r=true
  ·rw[if_pos hr,tv_f fun ho=>h ⟨hl,hr,ho⟩]
   exact⟨_,rfl⟩
  ·rw[if_neg hr]
   exact⟨_,rfl⟩
 ·exact⟨_,wuy p hl⟩
theorem wbc {n:Nat}{le:Nat→Nat→Bool}(hn:n≤10) (ho:Ord n le):V56 big (pos n le)=some ((mkT n le,true,()),()):=by
 have e:∀x y,x<n→y<n→leP (pos n le) x y=le x y:=fun x y hx hy=>wwu hx hy
 rw[wob _ (by rw[wb];exact hn) ?_,if_pos (wun n le),wb,tv_t (ho.congr fun x y hx hy=>(e x y hx hy).symm)]
 ·congr 3
  exact ju fun x y hx hy=>e x y hx hy
 ·intro r hr
  obtain⟨i,_,h⟩:=mkR_mem.1 hr
  rw[←h,cs_len]
  have:=jh n fun x=>le x i
  omega
theorem wey {n x:Nat}{le:Nat→Nat→Bool}(hx:x<n):atI (pos n le).1 (x:Int)=some (cs (fl n fun a=>le a x)):=jd hx
theorem we9 {n x y:Nat}{le:Nat→Nat→Bool}(hn:n≤4294967296) (hx:x<n) (hy:y<n):V15 (pos n le) (x:Int) (y:Int)=some (le x y,()):=by
 unfold V15 w9y
 have:=jh n fun a=>le a y
 rw[wey hy,obS,wug _ _ (by omega),obS]
 congr 2
 rw[Bool.eq_iff_iff,decide_eq_true_eq,fl_mem]
 simp[hx]
theorem wpn {n:Nat}{P Q:Nat→Bool}(hn:n≤4294967296):V21 big (cs (fl n P)) (cs (fl n Q))=some (tv (∀x,x<n→P x=true→Q x=true),()):=by
 have h1:=jh n P
 have h2:=jh n Q
 rw[wuv _ _ (by rw[cs_len];omega) (by rw[cs_len];omega)]
 congr 2
 refine qp ⟨fun h x hx hp => ?_,fun h x hx => ?_⟩
 ·exact(fl_mem.1 (cs_mem.1 (h _ (cs_mem.2 (fl_mem.2 ⟨hx,hp⟩))))).2
 ·unfold cs at hx
  obtain⟨y,hy,e⟩:=List.mem_map.1 hx
  have:=fl_mem.1 hy
  rw[←e]
  exact cs_mem.2 (fl_mem.2 ⟨this.1,h y this.1 this.2⟩)
theorem wa0 (p:PT) (hx:∀r∈p.1,r.length≤4294967296):V22 big p=some (tv (Good p),()):=by
 unfold V22 wxj
 by_cases hl:p.1.length≤10
 ·generalize hn:p.1.length=n
  rw[cdf (by omega)]
  refine xem n (fun i=>∀j,j<i→∀(h:j<p.1.length),isSetB n p.1[j]=true∧leP p j j=true) (by omega) ?_ ?_ 0 (by omega) (by intro j hj;omega)
  ·intro rc i hi hv ih
   have hip:i<p.1.length:=by omega
   have hrow:=hx _ (List.getElem_mem hip)
   have hle:∀a,leP p a i=decide ((a:Int)∈p.1[i]):=by intro a;unfold leP;simp[hip]
   unfold wfv
   rw[cdt (by omega),jf _ i hip,obS,wr (by omega) (by omega),wpp n _ (by omega) (by omega),obS]
   cases h1:isSetB n p.1[i] with
   | false =>
    rw[tv_f fun h=>by have:=h.rows _ (List.getElem_mem hip);rw[hn,h1]at this;cases this]
    rfl
   | true =>
    rw[Bool.not_true,cond_false,obS,wkf _ _ hrow,obS,←hle]
    cases h2:leP p i i with
    | false =>
     rw[tv_f fun h=>by have:=h.ord.refl i hip;rw[h2]at this;cases this]
     rfl
    | true =>
     rw[Bool.not_true,cond_false,wr1 (by omega)]
     refine ih fun j hj hjp => ?_
     rcases Nat.lt_or_ge j i with h|h
     ·exact hv j h hjp
     ·have:j=i:=by omega
      subst this;exact⟨h1,h2⟩
  ·intro rc hv
   unfold wfv
   rw[cdf (by omega),wby]
   have hrows:∀r∈p.1,isSetB p.1.length r=true:=by
    intro r hr
    obtain⟨j,hj,e⟩:=List.getElem_of_mem hr
    rw[hn]
    exact e▸(hv j (by omega) hj).1
   have hform:=wum hrows
   have hrefl:∀x,x<n→leP p x x=true:=fun x hxn=>(hv x hxn (by omega)).2
   generalize leP p=le at hform hrefl
   rw[hn]at hform
   subst hform
   rw[qp w9p]
   refine xbp n (fun i=>∀x,x<i→∀y,y<n→le y x=true→(y≠x→le x y=false)∧∀z,z<n→le z y=true→le z x=true) (by omega) ?_ ?_ 0 (by omega) (by intro j hj;omega)
   ·intro rc2 i hi hv2 ih2
    unfold zg
    rw[cdt (by omega)]
    have hS:∀a,a∈fl n (fun a=>le a i)↔a<n∧le a i=true:=fun a=>fl_mem
    have hSl:=jh n fun a=>le a i
    refine xbq (fl n fun a=>le a i).length (fun k=>∀y∈(fl n fun a=>le a i).take k,(y≠i→le i y=false)∧∀z,z<n→le z y=true→le z i=true) (by omega) ?_ ?_ 0 (by omega) (by simp)
    ·intro rc3 k hk hv3 ih3
     have hk2:=(hS _).1 (List.getElem_mem hk)
     have hk3:=jn hk
     have hk4:∀{P:Nat→Prop},(∀y∈(fl n fun a=>le a i).take (k+1),P y)↔_:=qn hk
     unfold wbz
     generalize (fl n fun a=>le a i)[k]=y at hk2 hk3 hk4
     have hkl:=jh n fun a=>le a y
     simp only[wey hi,obS,cs_len,cdt (show(k:Int)<((fl n fun a=>le a i).length:Int) by omega),hk3,wey hk2.1,wug (fl n fun a=>le a y) i (by omega),wpn (P:=fun a=>le a y) (Q:=fun a=>le a i) (show n≤4294967296 by omega),wr1 (show k≤4611686018427387904 by omega)]
     have e1:decide (i∈fl n fun a=>le a y)=le i y:=by
      rw[Bool.eq_iff_iff,decide_eq_true_eq,fl_mem];simp[hi]
     rw[e1]
     have key:(y≠i→le i y=false)→cond (!tv (∀x,x<n→le x y=true→le x i=true)) (some (false,())) (rc3 (pos n le) (n:Int) (i:Int) ((k+1:Nat):Int))=some (tv (n≤10∧Ord n le),()):=by
      intro h1
      by_cases h2:∀x,x<n→le x y=true→le x i=true
      ·rw[tv_t h2]
       exact ih3 (hk4.2 ⟨hv3,h1,h2⟩)
      ·rw[tv_f h2,tv_f fun h=>h2 fun x hxn h3=>h.2.trans _ _ _ hxn hk2.1 hi h3 hk2.2]
       rfl
     by_cases h1:y=i
     ·rw[cdf (by omega)]
      exact key fun h=>absurd h1 h
     ·rw[cdt (by omega)]
      cases h2:le i y with
      | true =>
       rw[tv_f (P:=n≤10∧Ord n le) fun h=>by rw[h.2.anti _ _ hk2.1 hi h1 hk2.2]at h2;cases h2]
       rfl
      | false =>
       rw[cond_false]
       exact key fun _=>h2
    ·intro rc3 hv3
     rw[List.take_length]at hv3
     unfold wbz
     rw[wey hi,obS,cs_len,cdf (by omega),zf,wr1 (by omega)]
     exact ih2 (all_lt_succ.2 ⟨hv2,fun y hy hyi=>hv3 y ((hS y).2 ⟨hy,hyi⟩)⟩)
   ·intro rc2 hv2
    unfold zg
    rw[cdf (by omega),w9,tv_t]
    refine⟨by rw[wb]at hl;exact hl,fun x hx=>hrefl x hx,fun x y hx hy hxy h=>((hv2 y hy x hx h).1 hxy),fun x y z hx hy hz h1 h2=>(hv2 z hz y hy h2).2 x hx h1⟩
 ·rw[cdt (by omega),tv_f fun h=>hl h.len]
abbrev du (le:Nat→Nat→Bool):Nat→Nat→Bool:=fun x y=>le y x
def low (n:Nat) (le:Nat→Nat→Bool) (S:List Nat):List Nat:=fl n fun z=>S.all fun s=>le z s
def grt (le:Nat→Nat→Bool) (L:List Nat):Int:=match L.find? fun x=>L.all fun y=>le y x with
 | some x=>(x:Int)
 | none => -1
def bnd (n:Nat) (le:Nat→Nat→Bool) (S:List Nat):Int:=grt le (low n le S)
structure IsGlb (n:Nat) (le:Nat→Nat→Bool) (S:List Nat) (m:Nat):Prop where
 lt:m<n
 lo:∀s∈S,le m s=true
 gr:∀z,z<n→(∀s∈S,le z s=true)→le z m=true
theorem low_mem {n:Nat}{le:Nat→Nat→Bool}{S:List Nat}{z:Nat}:z∈low n le S↔z<n∧∀s∈S,le z s=true:=by
 unfold low
 rw[fl_mem,List.all_eq_true]
theorem wn7 {n:Nat}{le:Nat→Nat→Bool}{S:List Nat}(h:0≤bnd n le S):IsGlb n le S (bnd n le S).toNat:=by
 unfold bnd grt at *
 cases hf:(low n le S).find? fun x=>(low n le S).all fun y=>le y x with
 | none=>rw[hf]at h;exact absurd h (by decide)
 | some x =>
  have h1:=List.find?_some hf
  have h2:=low_mem.1 (List.mem_of_find?_eq_some hf)
  simp only[Int.toNat_natCast]
  exact⟨h2.1,h2.2,fun z hz hs=>List.all_eq_true.1 h1 z (low_mem.2 ⟨hz,hs⟩)⟩
theorem w0h {n:Nat}{le:Nat→Nat→Bool}(ho:Ord n le){S:List Nat}{m k:Nat}(h:IsGlb n le S m) (h2:IsGlb n le S k):m=k:=by
 by_cases e:m=k
 ·exact e
 ·have h3:=h.gr k h2.lt h2.lo
  have h4:=h2.gr m h.lt h.lo
  have:=ho.anti m k h.lt h2.lt e h4
  rw[this]at h3;cases h3
theorem y8 {n:Nat}{le:Nat→Nat→Bool}(ho:Ord n le){S:List Nat}{m:Nat}(h:IsGlb n le S m):bnd n le S=(m:Int):=by
 have h0:0≤bnd n le S:=by
  unfold bnd grt
  cases hf:(low n le S).find? fun x=>(low n le S).all fun y=>le y x with
  | none =>
   have:=List.find?_eq_none.1 hf m (low_mem.2 ⟨h.lt,h.lo⟩)
   exact absurd (List.all_eq_true.2 fun y hy=>h.gr y (low_mem.1 hy).1 (low_mem.1 hy).2) this
  | some x=>simp
 have:=w0h ho (wn7 h0) h
 omega
theorem wuu {n:Nat}{le:Nat→Nat→Bool}{L:List Nat}(hL:∀x∈L,x<n) (hl:L.length≤4294967296):V57 big (mkT n le) (cs L)=some (grt le L,()):=by
 unfold V57 wyu
 rw[cs_len]
 refine xfi L.length (fun i=>∀x∈L.take i,¬(L.all fun y=>le y x)=true) (by omega) ?_ ?_ 0 (by omega) (by simp)
 ·intro rc i hi hv ih
  have hx:=hL _ (List.getElem_mem hi)
  have hh := @jf6 _ L (fun x=>L.all fun y=>le y x) i hi hv
  have hn:=fun h=>ih ((qn hi).2 ⟨hv,h⟩)
  unfold wdd
  rw[cdt (by omega),jn hi,obS,cs_len]
  generalize L[i]=x at hx hh hn
  refine xfj L.length (fun k b=>b=(L.take k).all fun y=>le y x) (by omega) ?_ ?_ 0 (by omega) _ rfl
  ·intro rc2 k b hk hb ih2
   have hy:=hL _ (List.getElem_mem hk)
   have ht := @jdx _ L k hk fun y=>le y x
   have ha:=jn hk
   unfold whe
   rw[cdt (by omega),ha,obS,wr1 (by omega)]
   generalize L[k]=y at hy ht
   cases b with
   | false=>exact ih2 _ (by rw[ht,←hb];rfl)
   | true =>
    rw[cond_true,jd hy,obS,jd hx,obS]
    exact ih2 _ (by rw[ht,←hb];rfl)
  ·intro rc2 b hb
   rw[List.take_length]at hb
   unfold whe
   rw[cdf (by omega),wdc,hb]
   cases h:L.all fun y=>le y x with
   | true =>
    rw[cond_true]
    unfold grt
    rw[hh h]
   | false =>
    rw[cond_false,wr1 (by omega)]
    exact hn (by rw[h];simp)
 ·intro rc hv
  rw[List.take_length]at hv
  unfold wdd
  rw[cdf (by omega),yl]
  unfold grt
  rw[List.find?_eq_none.2 hv]
theorem low2 {n:Nat}{le:Nat→Nat→Bool}{x y:Nat}:low n le [x,y]=fl n fun z=>le z x&&le z y:=by
 unfold low
 congr 1;funext z;simp
theorem w0p {n:Nat}{le:Nat→Nat→Bool}(hn:n≤1048576){x y:Nat}(hx:x<n) (hy:y<n):V59 big (mkT n le) (mkT n le,(x:Int),(y:Int),())=some (cs (low n le [x,y]),()):=by
 unfold V59 wyv
 rw[mkR_len,low2]
 refine xfk n (fun i l=>l=cs (fl i fun z=>le z x&&le z y)) (by omega) ?_ ?_ 0 (by omega) _ rfl
 ·intro rc i l hi hv ih
  have hl:=jh i fun z=>le z x&&le z y
  unfold whg V58 w96
  simp only[cdt (show(i:Int)<(n:Int) by omega),jd hi,jd hx,jd hy,obS,wr1 (show i≤4611686018427387904 by omega)]
  cases h1:le i x with
  | false=>exact ih _ (by rw[hv];exact fl_f (P:=fun z=>le z x&&le z y) (by simp[h1]))
  | true =>
   simp only[cond_true,obS]
   cases h2:le i y with
   | false=>exact ih _ (by rw[hv];exact fl_f (P:=fun z=>le z x&&le z y) (by simp[h1,h2]))
   | true =>
    rw[cond_true,app1 (by rw[hv,cs_len];omega),obS]
    exact ih _ (by rw[hv];exact fl_t (P:=fun z=>le z x&&le z y) (by simp[h1,h2]))
 ·intro rc l hv
  unfold whg
  rw[cdf (by omega),wde,hv]
theorem w8o {n:Nat}{le:Nat→Nat→Bool}{S:List Nat}:∀x∈low n le S,x<n:=fun x hx=>(low_mem.1 hx).1
theorem wwv {n:Nat}{le:Nat→Nat→Bool}{S:List Nat}:(low n le S).length≤n:=jh _ _
theorem xm {n:Nat}{le:Nat→Nat→Bool}(hn:n≤1048576):V60 big (mkT n le)=some (@ite _ (∀x y,x<n→y<n→0≤bnd n le [x,y]) (Classical.propDecidable _) (mkT n fun x y=>bnd n le [x,y],true,()) ([],false,()),()):=by
 unfold V60 wyz
 rw[mkR_len]
 refine xfm n (fun i t=>t=(mkR i fun x=>mkR n fun y=>bnd n le [x,y])∧∀x,x<i→∀y,y<n→0≤bnd n le [x,y]) (by omega) ?_ ?_ 0 (by omega) _ ⟨rfl,by intro x hx;omega⟩
 ·intro rc i t hi hv ih
  unfold wdh
  rw[cdt (by omega),mkR_len]
  refine xfn n (fun j r=>r=(mkR j fun y=>bnd n le [i,y])∧∀y,y<j→0≤bnd n le [i,y]) (by omega) ?_ ?_ 0 (by omega) _ ⟨rfl,by intro x hx;omega⟩
  ·intro rc2 j r hj hr ih2
   unfold whj
   rw[cdt (by omega),w0p hn hi hj,obS,wuu w8o (by have := @wwv n le [i,j];omega),obS]
   show cond (decide (bnd n le [i,j]<0)) _ ((appI r [bnd n le [i,j]]).bind _)=_
   by_cases h:0≤bnd n le [i,j]
   ·rw[cdf (by omega),app1 (by rw[hr.1,mkR_len];omega),obS,wr1 (by omega)]
    exact ih2 _ ⟨by rw[hr.1];exact(jt j _).symm,all_lt_succ.2 ⟨hr.2,h⟩⟩
   ·rw[cdt (by omega),if_neg fun h2=>h (h2 i j hi hj)]
  ·intro rc2 r hr
   unfold whj
   rw[cdf (by omega),wdg,app1 (by rw[hv.1,mkR_len];omega),obS,wr1 (by omega)]
   refine ih _ ⟨?_,all_lt_succ.2 ⟨hv.2,hr.2⟩⟩
   rw[hv.1,hr.1]
   exact(jt i fun x=>mkR n fun y=>bnd n le [x,y]).symm
 ·intro rc t hv
  unfold wdh
  rw[cdf (by omega),ym,if_pos fun x y hx hy=>hv.2 x hx y hy,hv.1]
theorem wwn {n:Nat}{le:Nat→Nat→Bool}(hn:n≤1048576):V61 big (mkT n le)=some (mkT n (du le),()):=by
 unfold V61 wy0
 rw[mkR_len,wj5 (by omega),obS]
 refine xfo n (fun i d=>d=mkT n fun a b=>decide (a<i)&&le b a) (by omega) ?_ ?_ 0 (by omega) _ (ju fun a b _ _=>by simp)
 ·intro rc i d hi hv ih
  unfold wdk
  rw[cdt (by omega),mkR_len]
  refine xfp n (fun j d=>d=mkT n fun a b=>(decide (a<i)||decide (a=i)&&decide (b<j))&&le b a) (by omega) ?_ ?_ 0 (by omega) _ (by rw[hv];exact ju fun a b _ _=>by simp)
  ·intro rc2 j d2 hj hv2 ih2
   unfold whm
   generalize hf:(fun a b=>(decide (a<i)||decide (a=i)&&decide (b<j))&&le b a)=f at hv2
   simp only[cdt (show(j:Int)<(n:Int) by omega),hv2,jd hi,jr hi,obS,jd hj,jr hj,Int.toNat_natCast,wr1 (show j≤4611686018427387904 by omega)]
   refine ih2 _ ?_
   rw[www,←hf]
   refine ju fun a b _ _ => ?_
   by_cases h1:a=i
   ·subst h1
    by_cases h2:b=j
    ·subst h2;simp
    ·rw[if_neg fun h=>h2 h.2,show decide (b<j+1)=decide (b<j) from decide_eq_decide.2 (by omega)]
   ·rw[if_neg fun h=>h1 h.1];simp[h1]
  ·intro rc2 d2 hv2
   unfold whm
   rw[cdf (by omega),wdj,wr1 (by omega)]
   refine ih _ ?_
   rw[hv2]
   refine ju fun a b _ hb => ?_
   congr 1
   rw[decide_eq_true hb,Bool.and_true,←Bool.decide_or]
   exact decide_eq_decide.2 (by omega)
 ·intro rc d hv
  unfold wdk
  rw[cdf (by omega),yn,hv]
  congr 2
  exact ju fun a b ha _=>by simp[ha]
structure Lat (n:Nat) (le:Nat→Nat→Bool):Prop where
 ne:0<n
 meet:∀x y,x<n→y<n→0≤bnd n le [x,y]
 join:∀x y,x<n→y<n→0≤bnd n (du le) [x,y]
def mt (n:Nat) (le:Nat→Nat→Bool) (x y:Nat):Nat:=(bnd n le [x,y]).toNat
def gb (n:Nat) (le:Nat→Nat→Bool) (S:List Nat):Nat:=(bnd n le S).toNat
def lat (n:Nat) (le:Nat→Nat→Bool):List (List Bool)×List (List Int)×List (List Int)×Unit :=
 (mkT n le,mkT n (fun x y=>((mt n le x y:Nat):Int)),mkT n (fun x y=>((mt n (du le) x y:Nat):Int)),())
structure LatP (n:Nat) (le:Nat→Nat→Bool):Prop where
 le10:n≤10
 ord:Ord n le
 lat:Lat n le
theorem wfa {n:Nat}{le:Nat→Nat→Bool}(h:LatP n le):V62 (pos n le)=some ((some (lat n le),true,()),()):=by
 have h10:=h.le10
 have h0:=h.lat.ne
 unfold V62 wp4
 simp only[wbc h.le10 h.ord,obS,Bool.not_true,cond_false,mkR_len,cdf (show ¬((n:Int)=0) by omega),xm (le:=le) (show n≤1048576 by omega),wwn (le:=le) (show n≤1048576 by omega),xm (le:=du le) (show n≤1048576 by omega)]
 rw[if_pos h.lat.meet,if_pos h.lat.join]
 simp only[cond_true]
 have e1:(mkT n fun x y=>bnd n le [x,y])=mkT n fun x y=>((mt n le x y:Nat):Int):=ju fun x y hx hy=>by
  have:=h.lat.meet x y hx hy
  unfold mt;omega
 have e2:(mkT n fun x y=>bnd n (du le) [x,y])=mkT n fun x y=>((mt n (du le) x y:Nat):Int):=ju fun x y hx hy=>by
  have:=h.lat.join x y hx hy
  unfold mt;omega
 rw[e1,e2]
 rfl
theorem wui {p:PT}(hx:∀r∈p.1,r.length≤4294967296) (h:¬(Good p∧Lat p.1.length (leP p))):∃l,V62 p=some ((l,false,()),()):=by
 by_cases hg:Good p
 ·have hf:=hg.form
  have ho:=hg.ord
  have h10:=hg.len
  replace h:¬Lat p.1.length (leP p):=fun hl=>h ⟨hg,hl⟩
  generalize p.1.length=n at *
  generalize leP p=le at *
  subst hf
  unfold V62 wp4
  simp only[wbc h10 ho,obS,Bool.not_true,cond_false,mkR_len,xm (le:=le) (show n≤1048576 by omega),wwn (le:=le) (show n≤1048576 by omega),xm (le:=du le) (show n≤1048576 by omega)]
  by_cases h0:n=0
  ·rw[cdt (by omega)]
   exact⟨_,rfl⟩
  ·rw[cdf (by omega)]
   by_cases h1:∀x y,x<n→y<n→0≤bnd n le [x,y]
   ·rw[if_pos h1]
    by_cases h2:∀x y,x<n→y<n→0≤bnd n (du le) [x,y]
    ·exact absurd ⟨by omega,h1,h2⟩ h
    ·rw[if_neg h2]
     exact⟨_,rfl⟩
   ·rw[if_neg h1]
    exact⟨_,rfl⟩
 ·obtain⟨T,hT⟩:=woc p hx hg
  unfold V62 wp4
  rw[hT,obS]
  exact⟨_,rfl⟩
theorem xp {n:Nat}{le:Nat→Nat→Bool}(hn:n≤1048576):V23 big (pos n le)=some (pos n (du le),()):=by
 unfold V23 wxk
 refine xen n (fun i o=>o.1=mkR i fun y=>cs (fl n fun x=>le y x)) (by omega) ?_ ?_ 0 (by omega) _ rfl
 ·intro rc i o hi hv ih
  unfold wb2
  rw[wb,cdt (by omega)]
  refine xeo n (fun j l=>l=cs (fl j fun x=>le i x)) (by omega) ?_ ?_ 0 (by omega) _ rfl
  ·intro rc2 j l hj hl ih2
   have hlen:=jh j fun x=>le i x
   unfold wfy
   rw[wb,cdt (by omega),we9 (by omega) hi hj,obS,wr1 (by omega)]
   cases h:le i j with
   | true =>
    rw[cond_true,app1 (by rw[hl,cs_len];omega),obS]
    exact ih2 _ (by rw[hl];exact fl_t (P:=fun x=>le i x) h)
   | false=>exact ih2 _ (by rw[hl];exact fl_f (P:=fun x=>le i x) h)
  ·intro rc2 l hl
   unfold wfy
   rw[wb,cdf (by omega),wb1,app1 (by rw[hv,mkR_len];omega),obS,wr1 (by omega)]
   exact ih _ (by rw[hl];show o.1++_=_;rw[hv];exact(jt i fun y=>cs (fl n fun x=>le y x)).symm)
 ·intro rc o hv
  unfold wb2
  rw[wb,cdf (by omega),yc]
  unfold pos
  congr 2
  exact Prod.ext hv rfl
theorem wq {n:Nat}{le:Nat→Nat→Bool}(hn:n≤1048576){S:List Nat}(hS:∀s∈S,s<n) (hSl:S.length≤4294967296):V24 big (pos n le) (cs S)=some (bnd n le S,()):=by
 unfold V24 wxm
 refine xep n (fun i l=>l=cs (fl i fun z=>S.all fun s=>le z s)) (by omega) ?_ ?_ 0 (by omega) _ rfl
 ·intro rc i l hi hv ih
  have hlen:=jh i fun z=>S.all fun s=>le z s
  unfold wb7
  rw[wb,cdt (by omega)]
  refine xeq S.length (fun k b=>b=(S.take k).all fun s=>le i s) (by omega) ?_ ?_ 0 (by omega) _ rfl
  ·intro rc2 k b hk hb ih2
   have hs:=hS _ (List.getElem_mem hk)
   have ht := @jdx _ S k hk fun s=>le i s
   have ha:=jn hk
   unfold wf1
   rw[cs_len,cdt (by omega),ha,obS,wr1 (by omega)]
   generalize S[k]=s at hs ht
   rw[we9 (by omega) hi hs,obS]
   cases b with
   | true=>exact ih2 _ (by rw[ht,←hb];rfl)
   | false=>exact ih2 _ (by rw[ht,←hb];rfl)
  ·intro rc2 b hb
   rw[List.take_length]at hb
   unfold wf1
   rw[cs_len,cdf (by omega),wb5,wr1 (by omega)]
   cases b with
   | true =>
    rw[cond_true,app1 (by rw[hv,cs_len];omega),obS]
    exact ih _ (by rw[hv];exact fl_t (P:=fun z=>S.all fun s=>le z s) hb.symm)
   | false=>exact ih _ (by rw[hv];exact fl_f (P:=fun z=>S.all fun s=>le z s) hb.symm)
 ·intro rc l hv
  unfold wb7
  rw[wb,cdf (by omega),yd]
  replace hv:l=cs (low n le S):=hv
  rw[hv]
  have hll := @wwv n le S
  unfold bnd
  have hlt := @w8o n le S
  have hfl:low n le S=fl n fun z=>S.all fun s=>le z s:=rfl
  have hw:∀x,x<n→V21 big (cs (low n le S)) (cs (fl n fun a=>le a x))=some ((low n le S).all fun y=>le y x,()):=by
   intro x hx
   rw[hfl,wpn (by omega),←hfl]
   congr 2
   exact jaz (by rw[List.all_eq_true];exact⟨fun h y hy hp=>h y (fl_mem.2 ⟨hy,hp⟩),fun h y hy=>h y (fl_mem.1 hy).1 (fl_mem.1 hy).2⟩)
  generalize low n le S=L at *
  refine xbu L.length (fun i=>∀x∈L.take i,¬(L.all fun y=>le y x)=true) (by omega) ?_ ?_ 0 (by omega) (by simp)
  ·intro rc2 i hi hv2 ih2
   have hx:=hlt _ (List.getElem_mem hi)
   have hh := @jf6 _ L (fun x=>L.all fun y=>le y x) i hi hv2
   have hn2:=fun h=>ih2 ((qn hi).2 ⟨hv2,h⟩)
   have ha:=jn hi
   have hg:=jy hi
   unfold wb6
   simp only[cs_len,cdt (show(i:Int)<(L.length:Int) by omega),ha,obS,Int.toNat_natCast,hg,wr1 (show i≤4611686018427387904 by omega)]
   generalize L[i]=x at hx hh hn2
   rw[wey hx,obS,hw x hx,obS]
   cases h:L.all fun y=>le y x with
   | true =>
    rw[cond_true]
    unfold grt
    rw[hh h]
   | false =>
    rw[cond_false]
    exact hn2 (by rw[h];simp)
  ·intro rc2 hv2
   rw[List.take_length]at hv2
   unfold wb6
   rw[cs_len,cdf (by omega),zh]
   unfold grt
   rw[List.find?_eq_none.2 hv2]
theorem we6 {n:Nat}{le:Nat→Nat→Bool}(x y:Nat):bnd n le [x,y]=bnd n le [y,x]:=by
 unfold bnd
 congr 1
 unfold low
 congr 1;funext z;simp[Bool.and_comm]
theorem Ord.du {n:Nat}{le:Nat→Nat→Bool}(h:Ord n le):Ord n (du le) where
 refl:=h.refl
 anti x y hx hy hxy h1:=by
  have h3:le y x=true:=h1
  show le x y=false
  by_cases h2:le x y=true
  ·rw[h.anti x y hx hy hxy h2]at h3;cases h3
  ·simpa using h2
 trans x y z hx hy hz h1 h2:=h.trans z y x hz hy hx h2 h1
theorem wkd {n:Nat}{le:Nat→Nat→Bool}(ho:Ord n le){x:Nat}(hx:x<n):bnd n le [x,x]=(x:Int) :=
 y8 ho ⟨hx,by simp[ho.refl x hx],fun z _ h=>h x (by simp)⟩
theorem wpk (p:PT) (hx:∀r∈p.1,r.length≤4294967296):V25 big p=some (tv (Good p∧Lat p.1.length (leP p)),()):=by
 unfold V25 wxn
 rw[wa0 p hx,obS]
 by_cases hg:Good p
 ·rw[tv_t hg]
  have e:(Good p∧Lat p.1.length (leP p))↔Lat p.1.length (leP p):=⟨fun h=>h.2,fun h=>⟨hg,h⟩⟩
  rw[qp e,Bool.not_true,cond_false]
  have hf:=hg.form
  have ho:=hg.ord
  have h10:=hg.len
  clear e hg hx
  generalize p.1.length=n at *
  generalize leP p=le at *
  subst hf
  by_cases h0:n=0
  ·rw[cdt (by omega),tv_f fun h=>by have:=h.ne;omega]
  ·rw[cdf (by omega),xp (by omega),obS]
   have key:∀x y,x<n→y<n→(0≤bnd n le [x,y]↔0≤bnd n le [y,x]):=fun x y _ _=>by rw[we6]
   refine xer n (fun i=>∀x,x<i→∀y,y<x→0≤bnd n le [x,y]∧0≤bnd n (du le) [x,y]) (by omega) ?_ ?_ 0 (by omega) (by intro x hx;omega)
   ·intro rc i hi hv ih
    unfold wca
    rw[wb,cdt (by omega)]
    refine xes i (fun j=>∀y,y<j→0≤bnd n le [i,y]∧0≤bnd n (du le) [i,y]) (by omega) ?_ ?_ 0 (by omega) (by intro x hx;omega)
    ·intro rc2 j hj hv2 ih2
     unfold wf4
     have e:([(i:Int),(j:Int)]:List Int)=cs [i,j]:=rfl
     have hS:∀s∈[i,j],s<n:=by intro s hs;simp at hs;omega
     rw[cdt (by omega),e,wq (by omega) hS (by simp),obS,wq (le:=du le) (by omega) hS (by simp),obS]
     by_cases h1:0≤bnd n le [i,j]
     ·rw[cdf (by omega)]
      by_cases h2:0≤bnd n (du le) [i,j]
      ·rw[cdf (by omega),wr1 (by omega)]
       exact ih2 (all_lt_succ.2 ⟨hv2,h1,h2⟩)
      ·rw[cdt (by omega),tv_f fun h=>h2 (h.join i j hi (by omega))]
     ·rw[cdt (by omega),tv_f fun h=>h1 (h.meet i j hi (by omega))]
    ·intro rc2 hv2
     unfold wf4
     rw[cdf (by omega),wb9,wr1 (by omega)]
     exact ih (all_lt_succ.2 ⟨hv,hv2⟩)
   ·intro rc hv
    unfold wca
    rw[wb,cdf (by omega),ye,tv_t]
    refine⟨by omega,fun x y hx hy => ?_,fun x y hx hy => ?_⟩
    ·rcases Nat.lt_trichotomy x y with h|h|h
     ·rw[we6];exact(hv y hy x h).1
     ·subst h;rw[wkd ho hx];omega
     ·exact(hv x hx y h).1
    ·rcases Nat.lt_trichotomy x y with h|h|h
     ·rw[we6];exact(hv y hy x h).2
     ·subst h;rw[wkd ho.du hx];omega
     ·exact(hv x hx y h).2
 ·rw[tv_f hg,tv_f fun h=>hg h.1]
  rfl
theorem w8n {p:PT}(hx:∀r∈p.1,r.length≤4294967296):(∃n le,p=pos n le∧LatP n le∧V25 big p=some (true,())∧V62 p=some ((some (lat n le),true,()),())) ∨
  (V25 big p=some (false,())∧∃l,V62 p=some ((l,false,()),())):=by
 by_cases h:Good p∧Lat p.1.length (leP p)
 ·have hl:LatP p.1.length (leP p):=⟨h.1.len,h.1.ord,h.2⟩
  refine .inl ⟨p.1.length,leP p,h.1.form,hl,by rw[wpk p hx,tv_t h], ?_⟩
  have:=wfa hl
  rw[←h.1.form]at this
  exact this
 ·exact .inr ⟨by rw[wpk p hx,tv_f h],wui hx h⟩
theorem wa3 {n:Nat}{o:List (List Bool)}(ho:o.length=n) (hn:n≤1048576){c:((List (List Bool))×(Int×(Int×Unit)))}{P:Nat→Bool}(h:∀i,i<n→V83 (i:Int) c.1 c.2.1 c.2.2.1=some (P i,())):V84 big o c=some (cs (fl n P),()):=by
 unfold V84 wzp
 rw[ho]
 refine xf5 n (fun i l=>l=cs (fl i P)) (by omega) ?_ ?_ 0 (by omega) _ rfl
 ·intro rc i l hi hv ih
  have hl:=jh i P
  unfold wic
  rw[cdt (by omega),h i hi,obS,wr1 (by omega)]
  cases hp:P i with
  | true=>rw[cond_true,app1 (by rw[hv,cs_len];omega),obS];exact ih _ (by rw[hv];exact fl_t hp)
  | false=>exact ih _ (by rw[hv];exact fl_f hp)
 ·intro rc l hv
  unfold wic
  rw[cdf (by omega),wd4,hv]
def SmallP (p:PT):Prop:=p.1.length≤1048576∧∀r∈p.1,r.length≤1048576
theorem SmallP.rows {p:PT}(h:SmallP p):∀r∈p.1,r.length≤4294967296:=fun r hr=>by have:=h.2 r hr;omega
def ls (le:Nat→Nat→Bool) (x y:Nat):Bool:=decide (x≠y)&&le x y
def cov (n:Nat) (le:Nat→Nat→Bool) (x y:Nat):Bool:=ls le x y&&(List.range n).all fun z => !(ls le x z&&ls le z y)
theorem wo2 {n:Nat}{le:Nat→Nat→Bool}{x y:Nat}(hx:x<n) (hy:y<n):V88 (mkT n le) (x:Int) (y:Int)=some (ls le x y,()):=by
 unfold V88 xao ls
 simp only[jd hx,jd hy,obS]
 by_cases h:x=y
 ·rw[cdf (by omega),decide_eq_false (by omega)];rfl
 ·rw[cdt (by omega),decide_eq_true h];rfl
theorem wbd {n:Nat}{le:Nat→Nat→Bool}(hn:n≤4294967296){x y:Nat}(hx:x<n) (hy:y<n):V16 (pos n le) (x:Int) (y:Int)=some (ls le x y,()):=by
 unfold V16 w9z ls
 rw[we9 hn hx hy,obS]
 by_cases h:x=y
 ·rw[cdf (by omega),decide_eq_false (by omega)];rfl
 ·rw[cdt (by omega),decide_eq_true h];rfl
theorem xa6 {n:Nat}{le:Nat→Nat→Bool}{x y:Nat}(h:ls le x y=true) (h2:∀z,z<n→¬(ls le x z=true∧ls le z y=true)):cov n le x y=true:=by
 unfold cov
 rw[h,Bool.true_and,List.all_eq_true]
 intro z hz
 have:=h2 z (List.mem_range.1 hz)
 cases h3:ls le x z<;>cases h4:ls le z y<;>simp_all
theorem xa5 {n:Nat}{le:Nat→Nat→Bool}{x y z:Nat}(hz:z<n) (h1:ls le x z=true) (h2:ls le z y=true):cov n le x y=false:=by
 unfold cov
 rw[Bool.and_eq_false_iff]
 refine .inr (List.all_eq_false.2 ⟨z,List.mem_range.2 hz,by simp[h1,h2]⟩)
theorem wpc {n:Nat}{le:Nat→Nat→Bool}(hn:n≤1048576){x y:Nat}(hx:x<n) (hy:y<n):V89 big (mkT n le) (x:Int) (y:Int)=some (cov n le x y,()):=by
 unfold V89 wzt
 rw[wo2 hx hy,obS,mkR_len]
 cases h:ls le x y with
 | false=>simp[cov,h]
 | true =>
  rw[Bool.not_true,cond_false]
  refine xf7 n (fun i=>∀z,z<i→¬(ls le x z=true∧ls le z y=true)) (by omega) ?_ ?_ 0 (by omega) (by intro z hz;omega)
  ·intro rc i hi hv ih
   unfold wig
   rw[cdt (by omega),wo2 hx hi,obS,wo2 hi hy,obS,wr1 (by omega)]
   cases h1:ls le x i with
   | false=>exact ih (all_lt_succ.2 ⟨hv,by simp[h1]⟩)
   | true =>
    cases h2:ls le i y with
    | false=>exact ih (all_lt_succ.2 ⟨hv,by simp[h2]⟩)
    | true=>rw[xa5 hi h1 h2];rfl
  ·intro rc hv
   unfold wig
   rw[cdf (by omega),wd6,xa6 h hv]
theorem wfc {n:Nat}{le:Nat→Nat→Bool}(hn:n≤1048576){x y:Nat}(hx:x<n) (hy:y<n):V17 big (pos n le) (x:Int) (y:Int)=some (cov n le x y,()):=by
 unfold V17 ww8
 rw[wbd (by omega) hx hy,obS]
 cases h:ls le x y with
 | false=>simp[cov,h]
 | true =>
  rw[Bool.not_true,cond_false]
  refine xeh n (fun i=>∀z,z<i→¬(ls le x z=true∧ls le z y=true)) (by omega) ?_ ?_ 0 (by omega) (by intro z hz;omega)
  ·intro rc i hi hv ih
   unfold wfl
   rw[wb,cdt (by omega),wbd (by omega) hx hi,obS,wbd (by omega) hi hy,obS,wr1 (by omega)]
   cases h1:ls le x i with
   | false=>exact ih (all_lt_succ.2 ⟨hv,by simp[h1]⟩)
   | true =>
    cases h2:ls le i y with
    | false=>exact ih (all_lt_succ.2 ⟨hv,by simp[h2]⟩)
    | true=>rw[xa5 hi h1 h2];rfl
  ·intro rc hv
   unfold wfl
   rw[wb,cdf (by omega),wbp,xa6 h hv]
theorem w8g {n:Nat}{le:Nat→Nat→Bool}(s:List Int) (h:s.length≤4294967296):V82 (mkT n le) s=some (s.all (inB n),()):=by
 unfold V82 xak
 rw[mkR_len,wpd n s (by omega)];rfl
theorem wpl {n:Nat}{le:Nat→Nat→Bool}(x:Int):V100 (pos n le) x=some (inB n x,()):=by
 unfold V100 w0q inB
 rw[wb]
 by_cases h:0≤x
 ·rw[cdt h];simp[h]
 ·rw[cdf h];simp[h]
theorem wi {n:Nat}{x:Int}(h:inB n x=true):∃k:Nat,k<n∧x=(k:Int):=by
 unfold inB at h
 rw[decide_eq_true_eq]at h
 exact⟨x.toNat,by omega,by omega⟩
theorem wwr {n k:Nat}:inB n (k:Int)=decide (k<n):=by
 unfold inB;exact decide_eq_decide.2 (by omega)
theorem w7 {p:PT}(hx:∀r∈p.1,r.length≤4294967296):(∃n le,p=pos n le∧LatP n le∧n≤8∧V26 p=some (true,())∧V63 p=some ((some (lat n le),true,()),())) ∨
  (V26 p=some (false,())∧∃l,V63 p=some ((l,false,()),())):=by
 unfold V26 w90 V63 xaa
 rcases w8n hx with⟨n,le,e,hl,h1,h2⟩|⟨h1,l,h2⟩
 ·rw[h1,h2,obS,obS]
  by_cases h8:n≤8
  ·refine .inl ⟨n,le,e,hl,h8, ?_, ?_⟩
   ·rw[e,wb,cdt (by omega)]
   ·simp only[cond_true,obS]
    unfold lat
    rw[mkR_len,decide_eq_true (by omega)]
  ·refine .inr ⟨?_,some (lat n le), ?_⟩
   ·rw[e,wb,cdf (by omega)]
   ·simp only[cond_true,obS]
    unfold lat
    rw[mkR_len,decide_eq_false (by omega)]
 ·rw[h1,h2,obS,obS]
  refine .inr ⟨?_,l,rfl⟩
  by_cases h:(p.1.length:Int)≤8
  ·rw[cdt h]
  ·rw[cdf h]
theorem LatP.du {n:Nat}{le:Nat→Nat→Bool}(h:LatP n le):LatP n (du le):=⟨h.le10,Ord.du h.ord,h.lat.ne,h.lat.join,h.lat.meet⟩
theorem LatP.glb {n:Nat}{le:Nat→Nat→Bool}(h:LatP n le){x y:Nat}(hx:x<n) (hy:y<n):IsGlb n le [x,y] (mt n le x y):=wn7 (h.lat.meet x y hx hy)
theorem LatP.bnd2 {n:Nat}{le:Nat→Nat→Bool}(h:LatP n le){x y:Nat}(hx:x<n) (hy:y<n):bnd n le [x,y]=((mt n le x y:Nat):Int):=by
 have:=h.lat.meet x y hx hy
 unfold mt;omega
theorem LatP.mlt {n:Nat}{le:Nat→Nat→Bool}(h:LatP n le){x y:Nat}(hx:x<n) (hy:y<n):mt n le x y<n:=(h.glb hx hy).lt
theorem LatP.m1 {n:Nat}{le:Nat→Nat→Bool}(h:LatP n le){x y:Nat}(hx:x<n) (hy:y<n):le (mt n le x y) x=true:=(h.glb hx hy).lo x (by simp)
theorem LatP.m2 {n:Nat}{le:Nat→Nat→Bool}(h:LatP n le){x y:Nat}(hx:x<n) (hy:y<n):le (mt n le x y) y=true:=(h.glb hx hy).lo y (by simp)
theorem LatP.mg {n:Nat}{le:Nat→Nat→Bool}(h:LatP n le){x y z:Nat}(hx:x<n) (hy:y<n) (hz:z<n) (h1:le z x=true) (h2:le z y=true):le z (mt n le x y)=true :=
 (h.glb hx hy).gr z hz (by simp[h1,h2])
theorem LatP.tr {n:Nat}{le:Nat→Nat→Bool}(h:LatP n le){x y z:Nat}(hx:x<n) (hy:y<n) (hz:z<n) (h1:le x y=true) (h2:le y z=true):le x z=true:=h.ord.trans x y z hx hy hz h1 h2
theorem LatP.as {n:Nat}{le:Nat→Nat→Bool}(h:LatP n le){x y:Nat}(hx:x<n) (hy:y<n) (h1:le x y=true) (h2:le y x=true):x=y:=by
 by_cases e:x=y
 ·exact e
 ·rw[h.ord.anti x y hx hy e h1]at h2;cases h2
theorem xd8 {n:Nat}{le:Nat→Nat→Bool}(x y:Nat):mt n le x y=mt n le y x:=by unfold mt;rw[we6]
theorem topEx {n:Nat}{le:Nat→Nat→Bool}(h:LatP n le):∃t,IsGlb n le [] t:=by
 have key:∀i,i≤n→∃t,t<n∧∀x,x<i→le x t=true:=by
  intro i
  induction i with
  | zero=>exact fun _=>⟨0,h.lat.ne,by intro x hx;omega⟩
  | succ i ih =>
   intro hi
   obtain⟨t,ht,h1⟩:=ih (by omega)
   have hin:i<n:=by omega
   refine⟨mt n (YteanfidobhpchaaGreat.du le) t i,h.du.mlt ht hin,all_lt_succ.2 ⟨fun x hx => ?_,h.du.m2 ht hin⟩⟩
   exact h.tr (by omega) ht (h.du.mlt ht hin) (h1 x hx) (h.du.m1 ht hin)
 obtain⟨t,ht,h1⟩:=key n (by omega)
 exact⟨t,ht,by simp,fun z hz _=>h1 z hz⟩
theorem glbEx {n:Nat}{le:Nat→Nat→Bool}(h:LatP n le):∀S:List Nat,(∀s∈S,s<n)→∃m,IsGlb n le S m
 | [],_=>topEx h
 | s::S,hS=>by
  obtain⟨m,hm⟩:=glbEx h S fun x hx=>hS x (by simp[hx])
  have hs:=hS s (by simp)
  refine⟨mt n le s m,h.mlt hs hm.lt,fun x hx => ?_,fun z hz hx => ?_⟩
  ·rcases List.mem_cons.1 hx with rfl|hx'
   ·exact h.m1 hs hm.lt
   ·exact h.tr (h.mlt hs hm.lt) hm.lt (hS x hx) (h.m2 hs hm.lt) (hm.lo x hx')
  ·exact h.mg hs hm.lt hz (hx s (by simp)) (hm.gr z hz fun x hx'=>hx x (by simp[hx']))
theorem LatP.gbs {n:Nat}{le:Nat→Nat→Bool}(h:LatP n le){S:List Nat}(hS:∀s∈S,s<n):IsGlb n le S (gb n le S):=by
 obtain⟨m,hm⟩:=glbEx h S hS
 unfold gb
 rw[y8 h.ord hm]
 exact hm
theorem LatP.bnds {n:Nat}{le:Nat→Nat→Bool}(h:LatP n le){S:List Nat}(hS:∀s∈S,s<n):bnd n le S=((gb n le S:Nat):Int):=y8 h.ord (h.gbs hS)
theorem wj1 {n:Nat}{le:Nat→Nat→Bool}(h:LatP n le){S:List Nat}{m:Nat}(hm:IsGlb n le S m):gb n le S=m:=by
 unfold gb;rw[y8 h.ord hm];rfl
theorem noneLt {n:Nat}:∀s∈([]:List Nat),s<n:=fun s hs=>by cases hs
theorem lat1 (n:Nat) (le:Nat→Nat→Bool):(lat n le).1=mkT n le:=rfl
theorem lat2 (n:Nat) (le:Nat→Nat→Bool):(lat n le).2.1=mkT n fun x y=>((mt n le x y:Nat):Int):=rfl
theorem lat3 (n:Nat) (le:Nat→Nat→Bool):(lat n le).2.2.1=mkT n fun x y=>((mt n (du le) x y:Nat):Int):=rfl
theorem w0l {n:Nat}{le:Nat→Nat→Bool}(h:LatP n le){x y:Nat}(hx:x<n) (hy:y<n):V103 (pos n le) (x:Int) (y:Int)=some (((mt n le x y:Nat):Int),()):=by
 have:=h.le10
 unfold V103 w0t
 rw[show([(x:Int),(y:Int)]:List Int)=cs [x,y] from rfl,wq (by omega) (by simp[hx,hy]) (by simp),obS,h.bnd2 hx hy]
theorem w0k {n:Nat}{le:Nat→Nat→Bool}(h:LatP n le){x y:Nat}(hx:x<n) (hy:y<n):V102 (pos n le) (x:Int) (y:Int)=some (((mt n (du le) x y:Nat):Int),()):=by
 have:=h.le10
 unfold V102 w0s
 rw[xp (by omega),obS,show([(x:Int),(y:Int)]:List Int)=cs [x,y] from rfl,wq (by omega) (by simp[hx,hy]) (by simp),obS,h.du.bnd2 hx hy]
theorem specBoundL {n:Nat}{le:Nat→Nat→Bool}(h:LatP n le){S:List Nat}(hS:∀s∈S,s<n) (hl:S.length≤4294967296):V24 big (pos n le) (cs S)=some (((gb n le S:Nat):Int),()):=by
 have:=h.le10
 rw[wq (by omega) hS hl,h.bnds hS]
theorem xgq {n:Nat}{le:Nat→Nat→Bool}(h:LatP n le):V71 big (some (lat n le))=some (((gb n le []:Nat):Int),()):=by
 have h10:=h.le10
 unfold V71 wza
 rw[obS,lat1,mkR_len]
 refine xfv n (fun i t=>∃k:Nat,t=(k:Int)∧k<n∧∀x,x<i→le x k=true) (by omega) ?_ ?_ 0 (by omega) _ ⟨0,rfl,h.lat.ne,by intro x hx;omega⟩
 ·intro rc i t hi hv ih
  obtain⟨k,e,hk,h1⟩:=hv
  subst e
  unfold whv
  rw[cdt (by omega),obS,lat3,jd hk,obS,jd hi,obS,wr1 (by omega)]
  refine ih _ ⟨mt n (YteanfidobhpchaaGreat.du le) k i,rfl,h.du.mlt hk hi,all_lt_succ.2 ⟨fun x hx => ?_,h.du.m2 hk hi⟩⟩
  exact h.tr (by omega) hk (h.du.mlt hk hi) (h1 x hx) (h.du.m1 hk hi)
 ·intro rc t hv
  obtain⟨k,e,hk,h1⟩:=hv
  subst e
  unfold whv
  rw[cdf (by omega),wdv,wj1 h ⟨hk,by simp,fun z hz _=>h1 z hz⟩]
theorem w8a {n:Nat}{le:Nat→Nat→Bool}(h:LatP n le):V73 big (some (lat n le))=some (((gb n (du le) []:Nat):Int),()):=by
 have h10:=h.le10
 unfold V73 wze
 rw[obS,lat1,mkR_len]
 refine xfx n (fun i t=>∃k:Nat,t=(k:Int)∧k<n∧∀x,x<i→le k x=true) (by omega) ?_ ?_ 0 (by omega) _ ⟨0,rfl,h.lat.ne,by intro x hx;omega⟩
 ·intro rc i t hi hv ih
  obtain⟨k,e,hk,h1⟩:=hv
  subst e
  unfold whz
  rw[cdt (by omega),obS,lat2,jd hk,obS,jd hi,obS,wr1 (by omega)]
  refine ih _ ⟨mt n le k i,rfl,h.mlt hk hi,all_lt_succ.2 ⟨fun x hx => ?_,h.m2 hk hi⟩⟩
  exact h.tr (h.mlt hk hi) hk (by omega) (h.m1 hk hi) (h1 x hx)
 ·intro rc t hv
  obtain⟨k,e,hk,h1⟩:=hv
  subst e
  unfold whz
  rw[cdf (by omega),wdx,wj1 h.du ⟨hk,by simp,fun z hz _=>h1 z hz⟩]
theorem w9o {n:Nat}{le:Nat→Nat→Bool}(h:LatP n le){S:List Nat}{k s:Nat}(hS:∀s∈S,s<n) (hk:IsGlb n le S k) (hs:s<n):IsGlb n le (S++[s]) (mt n le k s) where
 lt:=h.mlt hk.lt hs
 lo x hx:=by
  rcases List.mem_append.1 hx with hx|hx
  ·exact h.tr (h.mlt hk.lt hs) hk.lt (hS x hx) (h.m1 hk.lt hs) (hk.lo x hx)
  ·rw[List.mem_singleton.1 hx];exact h.m2 hk.lt hs
 gr z hz hx:=h.mg hk.lt hs hz (hk.gr z hz fun x hx'=>hx x (by simp[hx'])) (hx s (by simp))
theorem w0m {n:Nat}{le:Nat→Nat→Bool}(h:LatP n le){S:List Nat}(hS:∀s∈S,s<n) (hl:S.length≤4294967296):V72 big (some (lat n le)) (cs S)=some (((gb n le S:Nat):Int),()):=by
 have h10:=h.le10
 unfold V72 wzc
 rw[xgq h,obS,cs_len]
 refine xfw S.length (fun i t=>∃k:Nat,t=(k:Int)∧IsGlb n le (S.take i) k) (by omega) ?_ ?_ 0 (by omega) _ ⟨_,rfl,h.gbs noneLt⟩
 ·intro rc i t hi hv ih
  obtain⟨k,e,hk⟩:=hv
  subst e
  have hs:=hS _ (List.getElem_mem hi)
  unfold whx
  rw[cdt (by omega),jn hi,obS,obS,lat2,jd hk.lt,obS,jd hs,obS,wr1 (by omega)]
  refine ih _ ⟨_,rfl, ?_⟩
  rw[List.take_succ_eq_append_getElem hi]
  exact w9o h (fun s hs=>hS s (List.mem_of_mem_take hs)) hk hs
 ·intro rc t hv
  obtain⟨k,e,hk⟩:=hv
  subst e
  rw[List.take_length]at hk
  unfold whx
  rw[cdf (by omega),wdw,wj1 h hk]
theorem wua {n:Nat}{le:Nat→Nat→Bool}(h:LatP n le){S:List Nat}(hS:∀s∈S,s<n) (hm:∀s∈S,∀y∈S,mt n le s y∈S):∀T:List Nat,T≠[]→(∀t∈T,t∈S)→gb n le T∈S
 | [],h0,_=>absurd rfl h0
 | [t],_,hT=>by
  have ht:=hT t (by simp)
  have:gb n le [t]=t:=wj1 h ⟨hS t ht,by simp[h.ord.refl t (hS t ht)],fun z _ hz=>hz t (by simp)⟩
  rw[this];exact ht
 | t::u::T,_,hT=>by
  have ih:=wua h hS hm (u::T) (by simp) fun x hx=>hT x (List.mem_cons_of_mem _ hx)
  have ht:=hT t (by simp)
  have hg:=h.gbs (S:=u::T) fun x hx=>hS x (hT x (List.mem_cons_of_mem _ hx))
  have:gb n le (t::u::T)=mt n le t (gb n le (u::T)):=by
   refine wj1 h ⟨h.mlt (hS t ht) hg.lt,fun x hx => ?_,fun z hz hx=>h.mg (hS t ht) hg.lt hz (hx t (by simp)) (hg.gr z hz fun x hx'=>hx x (List.mem_cons_of_mem _ hx'))⟩
   rcases List.mem_cons.1 hx with rfl|hx'
   ·exact h.m1 (hS x ht) hg.lt
   ·exact h.tr (h.mlt (hS t ht) hg.lt) hg.lt (hS x (hT x hx)) (h.m2 (hS t ht) hg.lt) (hg.lo x hx')
  rw[this]
  exact hm t ht _ ih
theorem wa9 {n:Nat}{le:Nat→Nat→Bool}(hn:n≤1048576) (x y:Int):V93 (some (lat n le)) x y=some (inB n x&&inB n y&&cov n le x.toNat y.toNat,()):=by
 unfold V93 xas
 rw[obS,lat1,w8g _ (by simp),obS,List.all_cons,List.all_cons,List.all_nil,Bool.and_true]
 cases hx:inB n x with
 | false=>rfl
 | true =>
  cases hy:inB n y with
  | false=>rfl
  | true =>
   obtain⟨a,ha,e⟩:=wi hx
   obtain⟨b,hb,e2⟩:=wi hy
   subst e;subst e2
   simp only[Bool.and_true,cond_true,obS,lat1,wpc hn ha hb,Int.toNat_natCast,Bool.true_and]
theorem wka {n:Nat}{le:Nat→Nat→Bool}(hn:n≤1048576) (x y:Int):V101 (pos n le) x y=some (inB n x&&inB n y&&cov n le x.toNat y.toNat,()):=by
 unfold V101 w0r
 rw[wpl,obS]
 cases hx:inB n x with
 | false=>rfl
 | true =>
  rw[cond_true,wpl,obS]
  cases hy:inB n y with
  | false=>rfl
  | true =>
   obtain⟨a,ha,e⟩:=wi hx
   obtain⟨b,hb,e2⟩:=wi hy
   subst e;subst e2
   simp only[Bool.and_true,cond_true,obS,wfc hn ha hb,Int.toNat_natCast,Bool.true_and]
def persp (n:Nat) (le:Nat→Nat→Bool) (a b c d:Nat):Bool:=decide (mt n (du le) b c=d)&&decide (mt n le b c=a)
theorem wy {n:Nat}{le:Nat→Nat→Bool}(h:LatP n le){a b c d:Nat}(hb:b<n) (hc:c<n):V94 (some (lat n le)) ((a:Int),(b:Int),()) ((c:Int),(d:Int),())=some (persp n le a b c d,()):=by
 unfold V94 xat persp
 simp only[obS,lat2,lat3,jd hb,jd hc]
 by_cases h1:mt n (YteanfidobhpchaaGreat.du le) b c=d
 ·rw[cdt (show((mt n (YteanfidobhpchaaGreat.du le) b c:Nat):Int)=(d:Int) by omega),decide_eq_true h1,Bool.true_and]
  show some (decide (((mt n le b c:Nat):Int)=(a:Int)),())=_
  congr 2
  exact decide_eq_decide.2 (by omega)
 ·rw[cdf (show ¬((mt n (YteanfidobhpchaaGreat.du le) b c:Nat):Int)=(d:Int) by omega),decide_eq_false h1,Bool.false_and]
theorem w8t {n:Nat}{le:Nat→Nat→Bool}(h:LatP n le){a b c d:Nat}(hb:b<n) (hc:c<n):V104 (pos n le) ((a:Int),(b:Int),()) ((c:Int),(d:Int),())=some (persp n le a b c d,()):=by
 unfold V104 w0u persp
 rw[w0k h hb hc,obS,w0l h hb hc,obS]
 by_cases h1:mt n (YteanfidobhpchaaGreat.du le) b c=d
 ·rw[cdt (show((mt n (YteanfidobhpchaaGreat.du le) b c:Nat):Int)=(d:Int) by omega),decide_eq_true h1,Bool.true_and]
  show some (decide (((mt n le b c:Nat):Int)=(a:Int)),())=_
  congr 2
  exact decide_eq_decide.2 (by omega)
 ·rw[cdf (show ¬((mt n (YteanfidobhpchaaGreat.du le) b c:Nat):Int)=(d:Int) by omega),decide_eq_false h1,Bool.false_and]
theorem w0n (p:PT) (x y u v:Int) (hx:∀r∈p.1,r.length≤4294967296):∃r:Bool×Bool×Unit,V105 p x y u v=some (r,())∧V99 p x y u v=some (r,()):=by
 unfold V105 w0v V99 wz5
 rcases w7 hx with⟨n,le,e,h,h8,h1,h2⟩|⟨h1,l,h2⟩
 ·subst e
  rw[h1,h2,obS,obS,Bool.not_true,cond_false,cond_false,wa9 (by omega),wka (by omega),obS,obS]
  cases e1:inB n x&&inB n y&&cov n le x.toNat y.toNat with
  | false=>exact⟨_,rfl,rfl⟩
  | true =>
   rw[Bool.not_true,cond_false,cond_false,wa9 (by omega),wka (by omega),obS,obS]
   cases e2:inB n u&&inB n v&&cov n le u.toNat v.toNat with
   | false=>exact⟨_,rfl,rfl⟩
   | true =>
    rw[Bool.and_eq_true,Bool.and_eq_true]at e1 e2
    obtain⟨a,ha,q1⟩:=wi e1.1.1
    obtain⟨b,hb,q2⟩:=wi e1.1.2
    obtain⟨c,hc,q3⟩:=wi e2.1.1
    obtain⟨d,hd,q4⟩:=wi e2.1.2
    subst q1;subst q2;subst q3;subst q4
    rw[Bool.not_true,cond_false,cond_false,wy h hb hc,w8t h hb hc]
    exact⟨_,rfl,rfl⟩
 ·rw[h1,h2]
  exact⟨_,rfl,rfl⟩
theorem w8q {p:PT}(hx:∀r∈p.1,r.length≤4294967296):(∃n le,p=pos n le∧n≤10∧Ord n le∧V22 big p=some (true,())∧V56 big p=some ((mkT n le,true,()),())) ∨
  (V22 big p=some (false,())∧∃T,V56 big p=some ((T,false,()),())):=by
 by_cases h:Good p
 ·refine .inl ⟨p.1.length,leP p,h.form,h.len,h.ord,by rw[wa0 p hx,tv_t h], ?_⟩
  have:=wbc h.len h.ord
  rw[←h.form]at this
  exact this
 ·exact .inr ⟨by rw[wa0 p hx,tv_f h],woc p hx h⟩
abbrev bt (n:Nat) (le:Nat→Nat→Bool):Nat:=gb n (du le) []
abbrev tp (n:Nat) (le:Nat→Nat→Bool):Nat:=gb n le []
theorem wqc {n:Nat}{le:Nat→Nat→Bool}(h:LatP n le):bt n le<n:=(h.du.gbs noneLt).lt
theorem xg5 {n:Nat}{le:Nat→Nat→Bool}(h:LatP n le):tp n le<n:=(h.gbs noneLt).lt
theorem xa4 {n:Nat}{le:Nat→Nat→Bool}(h:LatP n le){x:Nat}(hx:x<n):le (bt n le) x=true:=(h.du.gbs noneLt).gr x hx (by simp)
theorem xg2 {n:Nat}{le:Nat→Nat→Bool}(h:LatP n le){x:Nat}(hx:x<n):le x (tp n le)=true:=(h.gbs noneLt).gr x hx (by simp)
theorem jlt {n:Nat}{le:Nat→Nat→Bool}(h:LatP n le){x y:Nat}(hx:x<n) (hy:y<n):mt n (du le) x y<n:=h.du.mlt hx hy
theorem j1 {n:Nat}{le:Nat→Nat→Bool}(h:LatP n le){x y:Nat}(hx:x<n) (hy:y<n):le x (mt n (du le) x y)=true:=h.du.m1 hx hy
theorem j2 {n:Nat}{le:Nat→Nat→Bool}(h:LatP n le){x y:Nat}(hx:x<n) (hy:y<n):le y (mt n (du le) x y)=true:=h.du.m2 hx hy
theorem jg {n:Nat}{le:Nat→Nat→Bool}(h:LatP n le){x y z:Nat}(hx:x<n) (hy:y<n) (hz:z<n) (h1:le x z=true) (h2:le y z=true):le (mt n (du le) x y) z=true:=h.du.mg hx hy hz h1 h2
def rel (n:Nat) (le:Nat→Nat→Bool) (x y z:Nat):List Nat:=fl n fun c=>decide (mt n le c y=x)&&decide (mt n (du le) c y=z)
def comp (n:Nat) (le:Nat→Nat→Bool) (x:Nat):List Nat:=rel n le (bt n le) x (tp n le)
theorem wpf (a b:List Int) (h:a.length≤4294967296):V44 big a b=some (decide (a=b),()):=by
 unfold V44 wyc
 by_cases hl:a.length=b.length
 ·rw[cdf (by omega)]
  refine xe9 a.length (fun i=>a.take i=b.take i) (by omega) ?_ ?_ 0 (by omega) rfl
  ·intro rc i hi hv ih
   have hi2:i<b.length:=by omega
   unfold wgy
   rw[cdt (by omega),jf a i hi,obS,jf b i hi2,obS,wr1 (by omega)]
   by_cases e:a[i]=b[i]
   ·rw[cdf (by omega)]
    exact ih (by rw[List.take_succ_eq_append_getElem hi,List.take_succ_eq_append_getElem hi2,hv,e])
   ·rw[cdt e,decide_eq_false fun h=>by subst h;exact e rfl]
  ·intro rc hv
   rw[List.take_length,hl,List.take_length]at hv
   unfold wgy
   rw[cdf (by omega),wcs,decide_eq_true hv]
 ·rw[cdt (by omega),decide_eq_false fun h=>hl (by rw[h])]
def Cen (n:Nat) (le:Nat→Nat→Bool) (x y:Nat):Prop:=∀z,z<n→mt n (du le) (mt n le z x) (mt n le z y)=z∧mt n le (mt n (du le) z x) (mt n (du le) z y)=z
abbrev P2:=Int×Int×Unit
def edR (n:Nat) (le:Nat→Nat→Bool) (x m:Nat):List P2:=(fl m fun y=>cov n le x y).map fun(y:Nat)=>((x:Int),(y:Int),())
def edg (n:Nat) (le:Nat→Nat→Bool):Nat→List P2
 | 0=>[]
 | x+1=>edg n le x++edR n le x n
theorem woz (n:Nat) (le:Nat→Nat→Bool) (x m:Nat):(edR n le x m).length≤m:=by
 unfold edR;rw[List.length_map];exact jh _ _
theorem wu (n:Nat) (le:Nat→Nat→Bool):∀m,(edg n le m).length≤m*n
 | 0=>by simp[edg]
 | m+1=>by
  have h1:=wu n le m
  have h2:=woz n le m n
  show(edg n le m++edR n le m n).length≤(m+1)*n
  rw[List.length_append,Nat.succ_mul];omega
theorem we8 {n:Nat}{le:Nat→Nat→Bool}{x m:Nat}:edR n le x (m+1)=if cov n le x m then edR n le x m++[((x:Int),(m:Int),())] else edR n le x m:=by
 unfold edR
 rw[qd]
 split<;>simp
theorem y6 {n:Nat}{le:Nat→Nat→Bool}(hn:n≤1000):V90 big (mkT n le)=some (edg n le n,()):=by
 unfold V90 wzx
 rw[mkR_len]
 refine xf9 n (fun i l=>l=edg n le i) (by omega) ?_ ?_ 0 (by omega) _ rfl
 ·intro rc i l hi hv ih
  unfold wd9
  rw[cdt (by omega),mkR_len]
  refine xga n (fun j l=>l=edg n le i++edR n le i j) (by omega) ?_ ?_ 0 (by omega) _ (by rw[hv,show edR n le i 0=[] from rfl,List.append_nil])
  ·intro rc2 j l2 hj hl2 ih2
   have b1:=wu n le i
   have b2:=woz n le i j
   have b3:i*n≤1000*1000:=Nat.mul_le_mul (by omega) hn
   unfold wij
   rw[cdt (by omega),wpc (by omega) hi hj,obS,wr1 (by omega)]
   cases hc:cov n le i j with
   | true =>
    rw[cond_true,app1 (by rw[hl2,List.length_append];omega),obS]
    exact ih2 _ (by rw[hl2,we8,if_pos hc,List.append_assoc])
   | false=>exact ih2 _ (by rw[hl2,we8,if_neg (by simp[hc])])
  ·intro rc2 l2 hl2
   unfold wij
   rw[cdf (by omega),wd8,wr1 (by omega)]
   exact ih _ hl2
 ·intro rc l hv
  unfold wd9
  rw[cdf (by omega),yr,hv]
theorem wi1 {n:Nat}{le:Nat→Nat→Bool}(hn:n≤1000):V18 big (pos n le)=some (edg n le n,()):=by
 unfold V18 wxa
 refine xei n (fun i l=>l=edg n le i) (by omega) ?_ ?_ 0 (by omega) _ rfl
 ·intro rc i l hi hv ih
  unfold wbs
  rw[wb,cdt (by omega)]
  refine xej n (fun j l=>l=edg n le i++edR n le i j) (by omega) ?_ ?_ 0 (by omega) _ (by rw[hv,show edR n le i 0=[] from rfl,List.append_nil])
  ·intro rc2 j l2 hj hl2 ih2
   have b1:=wu n le i
   have b2:=woz n le i j
   have b3:i*n≤1000*1000:=Nat.mul_le_mul (by omega) hn
   unfold wfo
   rw[wb,cdt (by omega),wfc (by omega) hi hj,obS,wr1 (by omega)]
   cases hc:cov n le i j with
   | true =>
    rw[cond_true,app1 (by rw[hl2,List.length_append];omega),obS]
    exact ih2 _ (by rw[hl2,we8,if_pos hc,List.append_assoc])
   | false=>exact ih2 _ (by rw[hl2,we8,if_neg (by simp[hc])])
  ·intro rc2 l2 hl2
   unfold wfo
   rw[wb,cdf (by omega),wbr,wr1 (by omega)]
   exact ih _ hl2
 ·intro rc l hv
  unfold wbs
  rw[wb,cdf (by omega),yb,hv]
def lx:List Int→List Int→Bool
 | a::s,b::t=>if a≠b then decide (a<b) else lx s t
 | _,_=>false
theorem xd7 {a b:List Int}{i:Nat}(h1:i<a.length) (h2:i<b.length):lx (a.drop i) (b.drop i)=if a[i]≠b[i] then decide (a[i]<b[i]) else lx (a.drop (i+1)) (b.drop (i+1)):=by
 rw[List.drop_eq_getElem_cons h1,List.drop_eq_getElem_cons h2,lx]
def upd (b f:List Int) (g:Bool):List Int:=if g&&(decide (b.length=0)||lx f b) then f else b
def f5 (n:Nat) (le:Nat→Nat→Bool) (o:Nat) (x y z i:Nat):List Int:=[(o:Int),(x:Int),(y:Int),(z:Int),(i:Int)]
theorem xg0 {n:Nat}{P Q:Nat→Bool}(h:∀x,x<n→P x=true→Q x=true){y:Nat}(hy:y<n) (h1:Q y=true) (h2:P y=false):(fl n P).length<(fl n Q).length:=by
 have hm:(fl n P).Sublist (fl n Q):=by
  have e:fl n P=(fl n Q).filter P:=by
   unfold fl
   rw[List.filter_filter]
   refine List.filter_congr fun x hx => ?_
   have:=h x (List.mem_range.1 hx)
   cases hp:P x with
   | true=>simp[this hp]
   | false=>simp
  rw[e];exact List.filter_sublist
 refine Nat.lt_of_le_of_ne hm.length_le fun e => ?_
 have:=hm.eq_of_length e
 have hq:=Go.Gx.fl_inj this hy
 rw[h1,h2]at hq
 exact absurd hq (by simp)
theorem xgm {n:Nat}{le:Nat→Nat→Bool}{x y:Nat}(h:cov n le x y=true):ls le x y=true:=by
 unfold cov at h
 exact(Bool.and_eq_true_iff.1 h).1
theorem xd9 {n:Nat}{le:Nat→Nat→Bool}(h:LatP n le){x:Nat}(hx:x<n):mt n le x x=x:=by unfold mt;rw[wkd h.ord hx];rfl
def jnf (m:Nat) (le':Nat→Nat→Bool) (S:List Nat):Nat:=S.foldl (fun j x=>mt m (du le') j x) (bt m le')
theorem wuf (m:Nat) (le':Nat→Nat→Bool) (S:List Nat) (x:Nat):jnf m le' (S++[x])=mt m (du le') (jnf m le' S) x:=by unfold jnf;rw[List.foldl_append];rfl
theorem xgo {m:Nat}{le':Nat→Nat→Bool}(h:LatP m le'){S:List Nat}(hS:∀s∈S,s<m):jnf m le' S<m:=by
 suffices hh:∀(S:List Nat) (j:Nat),j<m→(∀s∈S,s<m)→S.foldl (fun j x=>mt m (du le') j x) j<m from hh S _ (wqc h) hS
 intro S
 induction S with
 | nil=>intro j hj _;exact hj
 | cons s S ih=>intro j hj hS;exact ih _ (jlt h hj (hS s List.mem_cons_self)) fun t ht=>hS t (List.mem_cons_of_mem _ ht)
theorem w0j {m:Nat}{le':Nat→Nat→Bool}(h:LatP m le'){S:List Nat}(hS:∀s∈S,s<m) (hl:S.length≤4294967296):V74 big (some (lat m le')) (cs S)=some ((jnf m le' S:Int),()):=by
 unfold V74 wzg
 rw[w8a h,obS,cs_len]
 refine xfy S.length (fun i j=>j=((jnf m le' (S.take i):Nat):Int)) (by omega) ?_ ?_ 0 (by omega) _ rfl
 ·intro rc i j hi hj ih
  have l1:=xgo h (S:=S.take i) fun s hs=>hS s (List.mem_of_mem_take hs)
  have l2:=hS _ (List.getElem_mem hi)
  unfold wh1
  simp only[cdt (show(i:Int)<(S.length:Int) by omega),jn hi,obS,lat3,hj,jd l1,jd l2,wr1 (show i≤4611686018427387904 by omega)]
  exact ih _ (by rw[List.take_succ_eq_append_getElem hi,wuf])
 ·intro rc j hj
  rw[List.take_length]at hj
  unfold wh1
  rw[cdf (by omega),wdy,hj]
abbrev OpT:=Int×List Int×Unit
abbrev AlT:=Int×List OpT×Unit
def flt (n:Nat) (f:Nat→Nat→Int):Nat→List Int
 | 0=>[]
 | k+1=>flt n f k++mkR n (f k)
theorem wo (n:Nat) (f:Nat→Nat→Int):∀k,(flt n f k).length=k*n
 | 0=>by simp[flt]
 | k+1=>by rw[flt,List.length_append,wo n f k,mkR_len,Nat.succ_mul]
theorem xn {i n:Nat}(h1:i≤10) (h2:n≤10):i*n≤100:=by
 have:=Nat.mul_le_mul h1 h2;omega
theorem w8e {n:Nat}{f:Nat→Nat→Int}(h:n≤10):V64 big (mkT n f)=some ((2,flt n f n,()),()):=by
 unfold V64 wy1
 rw[mkR_len]
 refine xfq n (fun i o=>o=((2:Int),flt n f i,())) (by omega) ?_ ?_ 0 (by omega) _ rfl
 ·intro rc i o hi hv ih
  have hl:=wo n f i
  have hn:=xn (i:=i) (n:=n) (by omega) h
  subst hv
  unfold who
  have e:appI (flt n f i) (mkR n (f i))=some (flt n f (i+1)):=by
   unfold appI
   rw[if_pos (by rw[mkR_len];omega)];rfl
  simp only[cdt (show(i:Int)<(n:Int) by omega),jd hi,obS,e,wr1 (show i≤4611686018427387904 by omega)]
  exact ih _ rfl
 ·intro rc o hv
  unfold who
  rw[cdf (by omega),wdl,hv]
abbrev meetF (n:Nat) (le:Nat→Nat→Bool):Nat→Nat→Int:=fun x y=>((mt n le x y:Nat):Int)
def latAlg (n:Nat) (le:Nat→Nat→Bool):AlT:=((n:Int),[(2,flt n (meetF n le) n,()),(2,flt n (meetF n (du le)) n,())],())
theorem y7 {n:Nat}{le:Nat→Nat→Bool}(h:LatP n le):V65 (some (lat n le))=some (latAlg n le,()):=by
 unfold V65 xab
 simp only[obS,lat1,lat2,lat3,mkR_len,w8e h.le10]
 rfl
theorem wz {n:Nat}{le:Nat→Nat→Bool}(h:LatP n le):V27 big (pos n le)=some (latAlg n le,()):=by
 have h10:=h.le10
 unfold V27 wxo
 rw[xp (by omega),obS,wb]
 refine xet n (fun i a b=>a=((2:Int),flt n (meetF n le) i,())∧b=((2:Int),flt n (meetF n (du le)) i,())) (by omega) ?_ ?_ 0 (by omega) _ _ ⟨rfl,rfl⟩
 ·intro rc i a b hi hv ih
  obtain⟨e1,e2⟩:=hv
  subst e1;subst e2
  have hl:=wo n (meetF n le) i
  have hl2:=wo n (meetF n (du le)) i
  have hn:=xn (i:=i) (n:=n) (by omega) h10
  unfold wcd
  rw[cdt (by omega)]
  refine xeu n (fun j a b=>a=((2:Int),flt n (meetF n le) i++mkR j (meetF n le i),())∧b=((2:Int),flt n (meetF n (du le)) i++mkR j (meetF n (du le) i),())) (by omega) ?_ ?_ 0 (by omega) _ _ ⟨by rw[jcm,List.append_nil],by rw[jcm,List.append_nil]⟩
  ·intro rc2 j a b hj hv2 ih2
   obtain⟨e1,e2⟩:=hv2
   subst e1;subst e2
   have b1:V24 big (pos n le) [(i:Int),(j:Int)]=some (((mt n le i j:Nat):Int),()):=specBoundL h (S:=[i,j]) (by intro s hs;simp at hs;omega) (by simp)
   have b2:V24 big (pos n (du le)) [(i:Int),(j:Int)]=some (((mt n (du le) i j:Nat):Int),()):=specBoundL h.du (S:=[i,j]) (by intro s hs;simp at hs;omega) (by simp)
   unfold wf7
   simp only[cdt (show(j:Int)<(n:Int) by omega),b1,b2,obS]
   rw[app1 (by rw[List.length_append,mkR_len];omega),obS,app1 (by rw[List.length_append,mkR_len];omega),obS,wr1 (by omega)]
   exact ih2 _ _ ⟨by rw[jt,List.append_assoc],by rw[jt,List.append_assoc]⟩
  ·intro rc2 a b hv2
   obtain⟨e1,e2⟩:=hv2
   unfold wf7
   rw[cdf (by omega),wcc,wr1 (by omega)]
   exact ih _ _ ⟨e1,e2⟩
 ·intro rc a b hv
  obtain⟨e1,e2⟩:=hv
  unfold wcd
  rw[cdf (by omega),yf,e1,e2]
  rfl
structure Pt (n:Nat) (P:Nat→Nat):Prop where
 lo:∀x,x<n→P x≤x
 id:∀x,x<n→P (P x)=P x
theorem Pt.lt {n:Nat}{P:Nat→Nat}(h:Pt n P){x:Nat}(hx:x<n):P x<n:=Nat.lt_of_le_of_lt (h.lo x hx) hx
def ptL (n:Nat) (P:Nat→Nat):List Int:=mkR n fun x=>((P x:Nat):Int)
theorem wd (n:Nat) (P:Nat→Nat):(ptL n P).length=n:=mkR_len _ _
def Lep (n:Nat) (P C:Nat→Nat):Prop:=∀x,x<n→C (P x)=C x
def uni (P:Nat→Nat) (x y z:Nat):Nat:=if P z=max (P x) (P y) then min (P x) (P y) else P z
def cls (n:Nat) (P:Nat→Nat):Nat:=(fl n fun x=>decide (P x=x)).length
theorem Lep.refl {n:Nat}{P:Nat→Nat}(h:Pt n P):Lep n P P:=h.id
theorem Lep.trans {n:Nat}{P Q C:Nat→Nat}(h:Pt n P) (h1:Lep n P Q) (h2:Lep n Q C):Lep n P C:=fun x hx=>by
 have e1:=h1 x hx
 have e2:=h2 (P x) (h.lt hx)
 have e3:=h2 x hx
 rw[←e2,e1,e3]
theorem Lep.eq {n:Nat}{P Q:Nat→Nat}(h:Pt n P) (h':Pt n Q) (h1:Lep n P Q) (h2:Lep n Q P){x:Nat}(hx:x<n):P x=Q x:=by
 have a1:=h1 x hx
 have a2:=h2 x hx
 have b1:=h'.lo (P x) (h.lt hx)
 have b2:=h.lo (Q x) (h'.lt hx)
 omega
theorem Lep.ker {n:Nat}{P C:Nat→Nat}(h:Lep n P C){x y:Nat}(hx:x<n) (hy:y<n) (e:P x=P y):C x=C y:=by
 rw[←h x hx,←h y hy,e]
theorem we2 {n:Nat}{P:Nat→Nat}(h:Pt n P){x y:Nat}(hx:x<n) (hy:y<n):Pt n (uni P x y) where
 lo:=fun z hz=>by
  have:=h.lo z hz
  unfold uni;split<;>omega
 id:=fun z hz=>by
  have e1:=h.id x hx
  have e2:=h.id y hy
  have e3:=h.id z hz
  unfold uni
  by_cases c:P z=max (P x) (P y)
  ·rw[if_pos c]
   rcases Nat.le_total (P x) (P y) with hl|hl
   ·rw[Nat.min_eq_left hl,Nat.max_eq_right hl,e1]
    split<;>omega
   ·rw[Nat.min_eq_right hl,Nat.max_eq_left hl,e2]
    split<;>omega
  ·rw[if_neg c,e3,if_neg c]
theorem wut {n:Nat}{P C:Nat→Nat}(hp:Pt n P) (h:Lep n P C){x y:Nat}(hx:x<n) (hy:y<n) (e:C x=C y):Lep n (uni P x y) C:=fun z hz=>by
 have e1:=h x hx
 have e2:=h y hy
 have e3:=h z hz
 unfold uni
 by_cases c:P z=max (P x) (P y)
 ·rw[if_pos c]
  rcases Nat.le_total (P x) (P y) with hl|hl
  ·rw[Nat.max_eq_right hl]at c
   rw[Nat.min_eq_left hl,e1,←e3,c,e2,e]
  ·rw[Nat.max_eq_left hl]at c
   rw[Nat.min_eq_right hl,e2,←e3,c,e1,e]
 ·rw[if_neg c,e3]
theorem wn8 {n:Nat}{P:Nat→Nat}(hp:Pt n P) (x y:Nat):Lep n P (uni P x y):=fun z hz=>by
 unfold uni;rw[hp.id z hz]
theorem xgr (P:Nat→Nat) (x y:Nat):uni P x y x=uni P x y y:=by
 unfold uni
 rcases Nat.le_total (P x) (P y) with hl|hl
 ·rw[Nat.min_eq_left hl,Nat.max_eq_right hl]
  split<;>simp_all
 ·rw[Nat.min_eq_right hl,Nat.max_eq_left hl]
  split<;>simp_all
theorem wkk {P:Nat→Nat}{x y:Nat}(e:P x=P y) (z:Nat):uni P x y z=P z:=by
 unfold uni;rw[e,Nat.max_self,Nat.min_self];split<;>simp_all
theorem w8c {n:Nat}{P Q:Nat→Nat}(h:Pt n P) (h':Pt n Q) (hl:Lep n P Q){x:Nat}(hx:x<n) (hne:Q x≠P x):cls n Q<cls n P:=by
 refine xg0 (fun z hz e => ?_) (h.lt hx) (decide_eq_true (h.id x hx)) (decide_eq_false fun e=>hne ?_)
 ·have e:=of_decide_eq_true e
  have a1:=hl z hz
  have a2:=h.lo z hz
  have a3:=h'.lo (P z) (h.lt hz)
  exact decide_eq_true (by omega)
 ·rw[←hl x hx,e]
theorem w8b {n:Nat}(P:Nat→Nat):cls n P≤n:=jh _ _
theorem wa7 {n:Nat}{P Q:Nat→Nat}(e:∀x,x<n→P x=Q x):cls n P=cls n Q:=by
 unfold cls;rw[vd fun x hx=>by rw[e x hx]]
theorem wba {n:Nat}{P Q:Nat→Nat}(e:∀x,x<n→P x=Q x):ptL n P=ptL n Q:=jo fun x hx=>by rw[e x hx]
theorem wo4 {n:Nat}{P Q:Nat→Nat}(e:ptL n P=ptL n Q){x:Nat}(hx:x<n):P x=Q x:=Int.ofNat.inj (jk4 e hx)
theorem w9w {n:Nat}{P:Nat→Nat}{x y:Nat}(hn:n≤1048576) (hx:x<n) (hy:y<n):V68 big (ptL n P) (x:Int) (y:Int)=some (decide (P x≠P y),(ptL n (uni P x y),())):=by
 unfold V68 wy5
 have g:∀z,z<n→atI (ptL n P) (z:Int)=some ((P z:Nat):Int):=fun z hz=>jd hz
 have g2:∀z,z<n→(ptL n P)[z]? = some ((P z:Nat):Int):=fun z hz=>jr hz
 simp only[g x hx,g y hy,Int.toNat_natCast,g2 x hx,g2 y hy,obS,wd]
 by_cases e:P x=P y
 ·rw[cdt (congrArg Nat.cast e),decide_eq_false (by simpa using e),wba fun z _=>wkk e z]
 ·rw[cdf (show ¬((P x:Nat):Int)=((P y:Nat):Int) by omega),show decide (P x≠P y)=true from decide_eq_true e]
  have key:∀lo hi:Nat,lo=min (P x) (P y)→hi=max (P x) (P y)→wms big (ptL n P) (lo:Int) (hi:Int) (n:Int) 0=some (true,(ptL n (uni P x y),())):=by
   intro lo hi e1 e2
   have hlh:lo≠hi:=by omega
   refine xfs n (fun i q=>q=mkR n fun z=>((if z<i then uni P x y z else P z:Nat):Int)) (by omega) ?_ ?_ 0 (by omega) _ (jo fun z _=>by rw[if_neg (by omega)])
   ·intro rc i q hi' hq ih
    subst hq
    unfold whs
    simp only[cdt (show(i:Int)<(n:Int) by omega),Int.toNat_natCast,jd hi',jr hi',obS,wr1 (show i≤4611686018427387904 by omega),Nat.lt_irrefl,if_false]
    by_cases c:P i=hi
    ·rw[cdt (congrArg Nat.cast c)]
     refine ih _ ?_
     rw[qw]
     refine jo fun z hz => ?_
     by_cases ez:z=i
     ·subst ez
      rw[if_pos rfl,if_pos (by omega)]
      unfold uni
      rw[if_pos (by omega),e1]
     ·rw[if_neg ez]
      by_cases lt:z<i
      ·rw[if_pos lt,if_pos (by omega)]
      ·rw[if_neg lt,if_neg (by omega)]
    ·rw[cdf (show ¬((P i:Nat):Int)=(hi:Int) by omega)]
     refine ih _ (jo fun z hz => ?_)
     by_cases ez:z=i
     ·subst ez
      rw[if_neg (by omega),if_pos (by omega)]
      unfold uni
      rw[if_neg (by omega)]
     ·by_cases lt:z<i
      ·rw[if_pos lt,if_pos (by omega)]
      ·rw[if_neg lt,if_neg (by omega)]
   ·intro rc q hq
    subst hq
    unfold whs
    rw[cdf (by omega),wdn]
    rw[show(mkR n fun z=>((if z<n then uni P x y z else P z:Nat):Int))=ptL n (uni P x y) from jo fun z hz=>by rw[if_pos hz]]
  by_cases c:P y<P x
  ·rw[cdt (show((P y:Nat):Int)<((P x:Nat):Int) by omega)]
   exact key _ _ (by omega) (by omega)
  ·rw[cdf (show ¬((P y:Nat):Int)<((P x:Nat):Int) by omega)]
   exact key _ _ (by omega) (by omega)
theorem wa1 {n:Nat}{P:Nat→Nat}{x y:Nat}(hn:n≤1048576) (hx:x<n) (hy:y<n):V34 big (ptL n P) (x:Int) (y:Int)=some (ptL n (uni P x y),()):=by
 unfold V34 wpw
 have g:∀z,z<n→atI (ptL n P) (z:Int)=some ((P z:Nat):Int):=fun z hz=>jd hz
 have e1:V32 ((P x:Nat):Int) ((P y:Nat):Int)=some (((min (P x) (P y):Nat):Int),()):=by
  unfold V32 wpv
  by_cases c:P x<P y
  ·rw[cdt (by omega),Nat.min_eq_left (by omega)]
  ·rw[cdf (by omega),Nat.min_eq_right (by omega)]
 have e2:V31 ((P x:Nat):Int) ((P y:Nat):Int)=some (((max (P x) (P y):Nat):Int),()):=by
  unfold V31 wpu
  by_cases c:P y<P x
  ·rw[cdt (by omega),Nat.max_eq_left (by omega)]
  ·rw[cdf (by omega),Nat.max_eq_right (by omega)]
 simp only[g x hx,g y hy,obS,e1,e2]
 refine xez n (fun i q=>q=ptL i (uni P x y)) (by omega) ?_ ?_ 0 (by omega) _ rfl
 ·intro rc i q hi hq ih
  have hl:=wd i (uni P x y)
  unfold xj
  simp only[wd,cdt (show(i:Int)<(n:Int) by omega),g i hi,obS,wr1 (show i≤4611686018427387904 by omega)]
  by_cases c:P i=max (P x) (P y)
  ·rw[cdt (congrArg Nat.cast c),app1 (by rw[hq,hl];omega),obS]
   refine ih _ ?_
   rw[hq];unfold ptL;rw[jt]
   unfold uni;rw[if_pos c]
  ·rw[cdf (show ¬((P i:Nat):Int)=((max (P x) (P y):Nat):Int) by omega),app1 (by rw[hq,hl];omega),obS]
   refine ih _ ?_
   rw[hq];unfold ptL;rw[jt]
   unfold uni;rw[if_neg c]
 ·intro rc q hq
  unfold xj
  rw[wd,cdf (by omega),w5,hq]
def PartL (n:Nat) (l:List Int):Prop:=∃P,Pt n P∧l=ptL n P
theorem wk {n:Nat}{l:List Int}(hl:l.length=n):PartL n l↔∀x (h:x<n),0≤l[x]'(by omega)∧l[x]'(by omega)≤(x:Int)∧l[(l[x]'(by omega)).toNat]? = some (l[x]'(by omega)):=by
 constructor
 ·rintro⟨P,hp,rfl⟩ x hx
  have e:(ptL n P)[x]'(by rw[wd];exact hx)=((P x:Nat):Int):=by simp[ptL,mkR]
  rw[e,Int.toNat_natCast,show(ptL n P)[P x]? = some ((P (P x):Nat):Int) from jr (hp.lt hx),hp.id x hx]
  exact⟨by omega,by have:=hp.lo x hx;omega,rfl⟩
 ·intro h
  have hlt:∀x,x<n→((l.getD x 0).toNat≤x∧0≤l.getD x 0):=fun x hx=>by
   have h1:=h x hx
   have e:l.getD x 0=l[x]'(by omega):=by rw[List.getD_eq_getElem?_getD,List.getElem?_eq_getElem (by omega)];rfl
   rw[e];omega
  refine⟨fun x=>(l.getD x 0).toNat,⟨fun x hx=>(hlt x hx).1,fun x hx => ?_⟩, ?_⟩
  ·have h1:=h x hx
   have e:l.getD x 0=l[x]'(by omega):=by rw[List.getD_eq_getElem?_getD,List.getElem?_eq_getElem (by omega)];rfl
   show(l.getD (l.getD x 0).toNat 0).toNat=(l.getD x 0).toNat
   have e2:l.getD (l.getD x 0).toNat 0=l.getD x 0:=by
    rw[List.getD_eq_getElem?_getD,e,h1.2.2];rfl
   rw[e2]
  ·refine jb6 hl fun i hi => ?_
   have h1:=hlt i (by omega)
   have e:l.getD i 0=l[i]:=by rw[List.getD_eq_getElem?_getD,List.getElem?_eq_getElem hi];rfl
   show l[i]=(((l.getD i 0).toNat:Nat):Int)
   rw[←e];omega
theorem wez {n:Nat}{l:List Int}(hn:n≤1048576) (hl:l.length≤1048576):V66 big (n:Int) l=some (tv (PartL n l),()):=by
 unfold V66 wy3
 by_cases e:l.length=n
 ·rw[cdf (by omega),e]
  refine xfr n (fun i=>∀x,x<i→∀h:x<l.length,0≤l[x]∧l[x]≤(x:Int)∧l[(l[x]).toNat]? = some l[x]) (by omega) ?_ ?_ 0 (by omega) (by intro x hx;omega)
  ·intro rc i hi hv ih
   have hil:i<l.length:=by omega
   unfold whq
   simp only[cdt (show(i:Int)<(n:Int) by omega),jf l i hil,obS,wr1 (show i≤4611686018427387904 by omega)]
   by_cases c1:l[i]<0
   ·rw[cdt c1,tv_f fun hh=>by have:=(wk e).1 hh i hi;omega]
   ·rw[cdf c1]
    by_cases c2:(i:Int)<l[i]
    ·rw[cdt c2,tv_f fun hh=>by have:=(wk e).1 hh i hi;omega]
    ·rw[cdf c2]
     have hlt:(l[i]).toNat<l.length:=by omega
     have hat:atI l l[i]=some l[(l[i]).toNat]:=by
      have:=jf l (l[i]).toNat hlt
      rwa [Int.toNat_of_nonneg (by omega)]at this
     rw[hat,obS]
     by_cases c3:l[(l[i]).toNat]=l[i]
     ·rw[cdf (fun hc=>hc c3)]
      exact ih (all_lt_succ.2 ⟨hv,fun _=>⟨by omega,by omega,by rw[List.getElem?_eq_getElem hlt,c3]⟩⟩)
     ·rw[cdt c3,tv_f fun hh=>by
       have:=(wk e).1 hh i hi
       rw[List.getElem?_eq_getElem hlt]at this
       exact c3 (Option.some.inj this.2.2)]
  ·intro rc hv
   unfold whq
   rw[cdf (by omega),wdm,tv_t ((wk e).2 fun x hx=>hv x hx (by omega))]
 ·rw[cdt (by omega),tv_f fun hh=>by obtain⟨P,_,rfl⟩:=hh;exact e (wd n P)]
theorem wki {n:Nat}{l:List Int}(hn:n≤1048576) (hl:l.length≤1048576):V76 big (n:Int) l=some (tv (PartL n l),()):=by
 unfold V76 wzj
 by_cases e:l.length=n
 ·rw[cdf (by omega)]
  refine xf0 n (fun i=>∀x,x<i→∀h:x<l.length,0≤l[x]∧l[x]≤(x:Int)∧l[(l[x]).toNat]? = some l[x]) (by omega) ?_ ?_ 0 (by omega) (by intro x hx;omega)
  ·intro rc i hi hv ih
   have hil:i<l.length:=by omega
   unfold wh5 V6 V6_s
   simp only[cdt (show(i:Int)<(n:Int) by omega),jf l i hil,obS,wr1 (show i≤4611686018427387904 by omega)]
   by_cases c1:0≤l[i]
   ·rw[cdt c1,obS]
    by_cases c2:l[i]≤(i:Int)
    ·simp only[decide_eq_true c2,Bool.not_true,cond_false]
     have hlt:(l[i]).toNat<l.length:=by omega
     have hat:atI l l[i]=some l[(l[i]).toNat]:=by
      have:=jf l (l[i]).toNat hlt
      rwa [Int.toNat_of_nonneg (by omega)]at this
     rw[hat,obS]
     by_cases c3:l[(l[i]).toNat]=l[i]
     ·rw[cdf (fun hc=>hc c3)]
      exact ih (all_lt_succ.2 ⟨hv,fun _=>⟨by omega,by omega,by rw[List.getElem?_eq_getElem hlt,c3]⟩⟩)
     ·rw[cdt c3,tv_f fun hh=>by
       have:=(wk e).1 hh i hi
       rw[List.getElem?_eq_getElem hlt]at this
       exact c3 (Option.some.inj this.2.2)]
    ·simp only[decide_eq_false c2,Bool.not_false,cond_true]
     rw[tv_f fun hh=>by have:=(wk e).1 hh i hi;omega]
   ·rw[cdf c1,obS,tv_f fun hh=>by have:=(wk e).1 hh i hi;omega]
    rfl
  ·intro rc hv
   unfold wh5
   rw[cdf (by omega),wd0,tv_t ((wk e).2 fun x hx=>hv x hx (by omega))]
 ·rw[cdt (by omega),tv_f fun hh=>by obtain⟨P,_,rfl⟩:=hh;exact e (wd n P)]
def opsL (n:Nat) (fs:List (Nat→Nat→Nat)):List OpT:=fs.map fun f=>((2:Int),flt n (fun x y=>((f x y:Nat):Int)) n,())
def algL (n:Nat) (fs:List (Nat→Nat→Nat)):AlT:=((n:Int),opsL n fs,())
def Opn (n:Nat) (fs:List (Nat→Nat→Nat)):Prop:=∀f∈fs,∀x y,x<n→y<n→f x y<n
def oth (f:Nat→Nat→Nat) (n:Nat) (P:Nat→Nat) (k i:Nat):Nat:=if k=0 then f (i / n) (P (i % n)) else f (P (i / n)) (i % n)
def Wp (f:Nat→Nat→Nat) (n:Nat) (P:Nat→Nat) (k i:Nat):Prop:=P (f (i / n) (i % n))=P (oth f n P k i)
def Cg (n:Nat) (fs:List (Nat→Nat→Nat)) (P:Nat→Nat):Prop:=∀f∈fs,∀k,k<2→∀i,i<n*n→Wp f n P k i
def Lst (n:Nat) (fs:List (Nat→Nat→Nat)) (P p:Nat→Nat):Prop:=∀C,Pt n C→Lep n P C→Cg n fs C→Lep n p C
theorem wg {n i:Nat}(h:i<n*n):i / n<n∧i % n<n:=by
 have hn:0<n:=by
  rcases Nat.eq_zero_or_pos n with e|e
  ·subst e;omega
  ·exact e
 exact⟨Nat.div_lt_of_lt_mul h,Nat.mod_lt _ hn⟩
theorem wqd {n x y:Nat}(hx:x<n) (hy:y<n):x*n+y<n*n∧(x*n+y) / n=x∧(x*n+y) % n=y:=by
 have hn:0<n:=by omega
 refine⟨?_, ?_, ?_⟩
 ·have:=Nat.mul_le_mul_right n (show x+1≤n by omega)
  rw[Nat.succ_mul]at this;omega
 ·rw[Nat.mul_comm,Nat.mul_add_div hn,Nat.div_eq_of_lt hy,Nat.add_zero]
 ·rw[Nat.mul_comm,Nat.mul_add_mod,Nat.mod_eq_of_lt hy]
theorem xa8 (n i:Nat):i / n*n+i % n=i:=by
 rw[Nat.mul_comm];exact Nat.div_add_mod i n
theorem wwq {n:Nat}{f:Nat→Nat→Int}(hn:0<n):∀{k i:Nat},i<k*n→(flt n f k)[i]? = some (f (i / n) (i % n))
 | 0,i,h=>by omega
 | k+1,i,h=>by
  have hl:=wo n f k
  rw[Nat.succ_mul]at h
  unfold flt
  by_cases c:i<k*n
  ·rw[List.getElem?_append_left (by omega)];exact wwq hn c
  ·obtain⟨j,rfl⟩:∃j,i=n*k+j:=⟨i-n*k,by rw[Nat.mul_comm n k];omega⟩
   have h2:j<n:=by rw[Nat.mul_comm n k]at h;omega
   have h3:n*k+j-k*n=j:=by rw[Nat.mul_comm n k];omega
   have e1:(n*k+j) / n=k:=by rw[Nat.mul_add_div hn,Nat.div_eq_of_lt h2,Nat.add_zero]
   have e2:(n*k+j) % n=j:=by rw[Nat.mul_add_mod,Nat.mod_eq_of_lt h2]
   rw[List.getElem?_append_right (by omega),hl,h3,jr h2,e1,e2]
theorem wv (n:Nat) (fs:List (Nat→Nat→Nat)):(opsL n fs).length=fs.length:=List.length_map _
theorem waz {n:Nat}{fs:List (Nat→Nat→Nat)}{t:Nat}(h:t<fs.length):atI (opsL n fs) (t:Int)=some ((2:Int),flt n (fun x y=>((fs[t] x y:Nat):Int)) n,()):=by
 rw[jf _ t (by rw[wv];exact h)];simp[opsL]
theorem wa2 {n:Nat}{f:Nat→Nat→Nat}{i:Nat}(h:i<n*n):atI (flt n (fun x y=>((f x y:Nat):Int)) n) (i:Int)=some ((f (i / n) (i % n):Nat):Int):=by
 have hn:0<n:=Nat.lt_of_le_of_lt (Nat.zero_le _) (wg h).1
 rw[jx,wwq hn h]
theorem wj3 {a b:Nat}(hb:0<b) (ha:a≤4611686018427387904):quoI IntKind.i64 (a:Int) (b:Int)=some ((a / b:Nat):Int):=by
 unfold quoI
 rw[if_neg (by omega),Int.tdiv_eq_ediv_of_nonneg (by omega),←Int.natCast_ediv,wr (by have:=Int.natCast_nonneg (a / b);omega) (by have:=Nat.div_le_self a b;generalize a / b=c at *;omega)]
theorem wj4 {a b:Nat}(hb:0<b):remI (a:Int) (b:Int)=some ((a % b:Nat):Int):=by
 unfold remI
 rw[if_neg (by omega),Int.tmod_eq_emod_of_nonneg (by omega),←Int.natCast_emod]
theorem wa6 {n:Nat}{fs:List (Nat→Nat→Nat)}{C:Nat→Nat}(h:Cg n fs C){f:Nat→Nat→Nat}(hf:f∈fs){x y:Nat}(hx:x<n) (hy:y<n):C (f x y)=C (f x (C y))∧C (f x y)=C (f (C x) y):=by
 obtain⟨h1,h2,h3⟩:=wqd hx hy
 have a:=h f hf 0 (by omega) _ h1
 have b:=h f hf 1 (by omega) _ h1
 unfold Wp oth at a b
 rw[h2,h3]at a b
 exact⟨a,b⟩
theorem xo {n:Nat}{fs:List (Nat→Nat→Nat)}(ho:Opn n fs){f:Nat→Nat→Nat}(hf:f∈fs){P:Nat→Nat}(hp:Pt n P){k i:Nat}(hi:i<n*n):oth f n P k i<n:=by
 obtain⟨h1,h2⟩:=wg hi
 unfold oth
 split
 ·exact ho f hf _ _ h1 (hp.lt h2)
 ·exact ho f hf _ _ (hp.lt h1) h2
theorem wo3 {n:Nat}{fs:List (Nat→Nat→Nat)}{f:Nat→Nat→Nat}(hf:f∈fs){p C:Nat→Nat}(hp:Pt n p) (hl:Lep n p C) (hc:Cg n fs C){k i:Nat}(hi:i<n*n):C (f (i / n) (i % n))=C (oth f n p k i):=by
 obtain⟨h1,h2⟩:=wg hi
 unfold oth
 split
 ·rw[(wa6 hc hf h1 h2).1,(wa6 hc hf h1 (hp.lt h2)).1,hl _ h2]
 ·rw[(wa6 hc hf h1 h2).2,(wa6 hc hf (hp.lt h1) h2).2,hl _ h1]
structure StW (n:Nat) (X:Nat→Nat) (b:Bool) (p:Nat→Nat):Prop where
 eq:b=false→∀x,x<n→p x=X x
 lt:b=true→cls n p<cls n X
theorem xgs {n:Nat}{p:Nat→Nat}{v w:Nat}(hv:v<n) (hw:w<n) (e:p v≠p w):∃x,x<n∧uni p v w x≠p x:=by
 rcases Nat.lt_or_ge (p v) (p w) with c|c
 ·refine⟨w,hw, ?_⟩
  unfold uni
  rw[Nat.max_eq_right (by omega),Nat.min_eq_left (by omega),if_pos rfl];omega
 ·refine⟨v,hv, ?_⟩
  unfold uni
  rw[Nat.max_eq_left (by omega),Nat.min_eq_right (by omega),if_pos rfl];omega
theorem StW.step_ne {n:Nat}{X p:Nat→Nat}{b:Bool}(hp:Pt n p) (h:StW n X b p){v w:Nat}(hv:v<n) (hw:w<n) (e:p v≠p w):StW n X true (uni p v w) where
 eq:=fun h=>absurd h (by simp)
 lt:=fun _=>by
  obtain⟨x,hx,hne⟩:=xgs hv hw e
  have h1:=w8c hp (we2 hp hv hw) (wn8 hp v w) hx hne
  cases b with
  | true=>have:=h.lt rfl;omega
  | false=>have:=wa7 (h.eq rfl);omega
theorem StW.step_eq {n:Nat}{X p:Nat→Nat}{b:Bool}(h:StW n X b p){v w:Nat}(e:p v=p w):StW n X b (uni p v w) where
 eq:=fun hb x hx=>by rw[wkk e];exact h.eq hb x hx
 lt:=fun hb=>by rw[wa7 (Q:=p) fun x _=>wkk e x];exact h.lt hb
structure IVp (n:Nat) (fs:List (Nat→Nat→Nat)) (P p0:Nat→Nat) (D:Prop) (l:List Int) (was ch:Bool) (p:Nat→Nat):Prop where
 form:l=ptL n p
 pt:Pt n p
 le:Lep n P p
 lst:Lst n fs P p
 st:StW n P was p
 st0:StW n p0 ch p
 done:ch=false→D
theorem IVp.step_ne {n:Nat}{fs:List (Nat→Nat→Nat)}{P p0 p:Nat→Nat}{D D':Prop}{l:List Int}{was ch:Bool}(ho:Opn n fs) (h:IVp n fs P p0 D l was ch p){f:Nat→Nat→Nat}(hf:f∈fs){k i:Nat}(hi:i<n*n) (hP:Pt n P) (e:p (f (i / n) (i % n))≠p (oth f n p k i)) :
  IVp n fs P p0 D' (ptL n (uni p (f (i / n) (i % n)) (oth f n p k i))) true true (uni p (f (i / n) (i % n)) (oth f n p k i)):=by
 obtain⟨h1,h2⟩:=wg hi
 have hv:=ho f hf _ _ h1 h2
 have hw:=xo ho hf h.pt (k:=k) hi
 exact⟨rfl,we2 h.pt hv hw,Lep.trans hP h.le (wn8 h.pt _ _),fun C hC hl hc=>wut h.pt (h.lst C hC hl hc) hv hw (wo3 hf h.pt (h.lst C hC hl hc) hc hi),h.st.step_ne h.pt hv hw e,h.st0.step_ne h.pt hv hw e,fun c=>absurd c (by simp)⟩
theorem IVp.step_eq {n:Nat}{fs:List (Nat→Nat→Nat)}{P p0 p:Nat→Nat}{D D':Prop}{l:List Int}{was ch:Bool}(ho:Opn n fs) (h:IVp n fs P p0 D l was ch p){f:Nat→Nat→Nat}(hf:f∈fs){k i:Nat}(hi:i<n*n) (hP:Pt n P) (e:p (f (i / n) (i % n))=p (oth f n p k i)) (hD:D→Wp f n p0 k i→D') :
  IVp n fs P p0 D' (ptL n (uni p (f (i / n) (i % n)) (oth f n p k i))) was ch (uni p (f (i / n) (i % n)) (oth f n p k i)):=by
 obtain⟨h1,h2⟩:=wg hi
 have hv:=ho f hf _ _ h1 h2
 have hw:=xo ho hf h.pt (k:=k) hi
 refine⟨rfl,we2 h.pt hv hw,Lep.trans hP h.le (wn8 h.pt _ _),fun C hC hl hc=>wut h.pt (h.lst C hC hl hc) hv hw (wo3 hf h.pt (h.lst C hC hl hc) hc hi),h.st.step_eq e,h.st0.step_eq e,fun c=>hD (h.done c) ?_⟩
 have hq:=h.st0.eq c
 have eo:oth f n p0 k i=oth f n p k i:=by unfold oth;rw[hq _ h1,hq _ h2]
 unfold Wp
 rw[eo,←hq _ hv,←hq _ hw,e]
def PassD (n:Nat) (fs:List (Nat→Nat→Nat)) (p0:Nat→Nat) (t k i:Nat):Prop :=
 (∀j,j<t→∀h:j<fs.length,∀k,k<2→∀i,i<n*n→Wp fs[j] n p0 k i)∧(∀h:t<fs.length,(∀k',k'<k→∀i,i<n*n→Wp fs[t] n p0 k' i)∧∀i',i'<i→Wp fs[t] n p0 k i')
structure ClR (n:Nat) (fs:List (Nat→Nat→Nat)) (P q:Nat→Nat) (was:Bool):Prop where
 pt:Pt n q
 le:Lep n P q
 lst:Lst n fs P q
 cg:Cg n fs q
 st:StW n P was q
def muL (l:List Int):Nat:=((List.range l.length).filter fun(i:Nat)=>decide (l[i]? = some (i:Int))).length
theorem wuj (n:Nat) (p:Nat→Nat):muL (ptL n p)=cls n p:=by
 unfold muL cls fl
 rw[wd]
 congr 1
 refine List.filter_congr fun x hx => ?_
 rw[show(ptL n p)[x]? = some ((p x:Nat):Int) from jr (List.mem_range.1 hx)]
 refine decide_eq_decide.2 ⟨fun h=>by have:=Option.some.inj h;omega,fun h=>by rw[h]⟩
theorem idx0 {n i:Nat}{p:Nat→Nat}(h10:n≤10) (hi:i<n*n) (hp:Pt n p):IntKind.i64.wrap ((i:Int)+IntKind.i64.wrap (IntKind.i64.wrap (((p (i % n):Nat):Int)-((i % n:Nat):Int))*((n ^ 0:Nat):Int)))=((i / n*n+p (i % n):Nat):Int):=by
 obtain⟨h1,h2⟩:=wg hi
 have hnn:=xn (i:=n) (n:=n) h10 h10
 have e:=xa8 n i
 have l:=hp.lo _ h2
 rw[show((n ^ 0:Nat):Int)=1 by simp,Int.mul_one]
 generalize i / n*n=a at *
 generalize i % n=b at *
 rw[wr (n:=((p b:Nat):Int)-(b:Int)) (by omega) (by omega),wr (n:=((p b:Nat):Int)-(b:Int)) (by omega) (by omega),wr (by omega) (by omega)]
 omega
theorem idx1 {n i:Nat}{p:Nat→Nat}(h10:n≤10) (hi:i<n*n) (hp:Pt n p):IntKind.i64.wrap ((i:Int)+IntKind.i64.wrap (IntKind.i64.wrap (((p (i / n):Nat):Int)-((i / n:Nat):Int))*((n ^ 1:Nat):Int)))=((p (i / n)*n+i % n:Nat):Int):=by
 obtain⟨h1,h2⟩:=wg hi
 have hnn:=xn (i:=n) (n:=n) h10 h10
 have e:=xa8 n i
 have l:=hp.lo _ h1
 have l2:=Nat.mul_le_mul_right n l
 rw[Nat.pow_one]
 generalize i / n=a at *
 generalize i % n=b at *
 rw[wr (n:=((p a:Nat):Int)-(a:Int)) (by omega) (by omega),Int.sub_mul,←Int.natCast_mul,←Int.natCast_mul]
 generalize p a*n=c at *
 generalize a*n=d at *
 rw[wr (n:=(c:Int)-(d:Int)) (by omega) (by omega),wr (by omega) (by omega)]
 omega
theorem w0e {n:Nat}{fs:List (Nat→Nat→Nat)}(h10:n≤10) (ho:Opn n fs){p:Nat→Nat}(hp:Pt n p){f:Nat→Nat→Nat}(hf:f∈fs){k i:Nat}(hk:k<2) (hi:i<n*n){R:Type}(G:List Int×Bool→Option R) :
  ((quoI IntKind.i64 (i:Int) ((n ^ k:Nat):Int)).bind fun xq3=>(remI xq3 (n:Int)).bind fun xq4=>(atI (ptL n p) xq4).bind fun _=>((ptL n p)[xq4.toNat]?).bind fun xq5 =>
   (atI (flt n (fun x y=>((f x y:Nat):Int)) n) (IntKind.i64.wrap ((i:Int)+(IntKind.i64.wrap ((IntKind.i64.wrap (xq5-xq4))*((n ^ k:Nat):Int)))))).bind fun xq6 =>
   (V68 big (ptL n p) ((f (i / n) (i % n):Nat):Int) xq6).bind fun rq7=>G (rq7.2.1,rq7.1)) =
  G (ptL n (uni p (f (i / n) (i % n)) (oth f n p k i)),decide (p (f (i / n) (i % n))≠p (oth f n p k i))):=by
 obtain⟨h1,h2⟩:=wg hi
 have hn:0<n:=Nat.lt_of_le_of_lt (Nat.zero_le _) h1
 have hnn:=xn (i:=n) (n:=n) h10 h10
 have hv:=ho f hf _ _ h1 h2
 have hw:=xo ho hf hp (k:=k) hi
 have g:∀z,z<n→atI (ptL n p) (z:Int)=some ((p z:Nat):Int):=fun z hz=>jd hz
 have g2:∀z,z<n→(ptL n p)[z]? = some ((p z:Nat):Int):=fun z hz=>jr hz
 have hu:=w9w (n:=n) (P:=p) (show n≤1048576 by omega) hv hw
 have hk2:k=0∨k=1:=by omega
 rcases hk2 with rfl|rfl
 ·obtain⟨a1,a2,a3⟩:=wqd h1 (hp.lt h2)
  rw[wj3 (by simp) (by omega)]
  simp only[obS,wj4 hn,Nat.pow_zero,Nat.div_one,g _ h2,Int.toNat_natCast,g2 _ h2]
  have e:=idx0 h10 hi hp
  simp only[Nat.pow_zero]at e
  rw[e,wa2 a1,a2,a3,obS]
  unfold oth at hu ⊢
  simp only[if_pos]at hu ⊢
  rw[hu,obS]
 ·obtain⟨a1,a2,a3⟩:=wqd (hp.lt h1) h2
  rw[wj3 (by rw[Nat.pow_one];exact hn) (by omega)]
  have em:i / n % n=i / n:=Nat.mod_eq_of_lt h1
  simp only[obS,wj4 hn,Nat.pow_one,em,g _ h1,Int.toNat_natCast,g2 _ h1]
  have e:=idx1 h10 hi hp
  simp only[Nat.pow_one]at e
  rw[e,wa2 a1,a2,a3,obS]
  unfold oth at hu ⊢
  simp only[if_neg (show ¬(1:Nat)=0 by omega)]at hu ⊢
  rw[hu,obS]
theorem w9l {n:Nat}{fs:List (Nat→Nat→Nat)}(h10:n≤10) (hn:0<n) (hfl:fs.length≤10) (ho:Opn n fs){P:Nat→Nat}(hP:Pt n P):∃was q,V69 big (algL n fs) (ptL n P)=some (was,(ptL n q,()))∧ClR n fs P q was:=by
 have hnn:=xn (i:=n) (n:=n) h10 h10
 unfold V69 wy9
 refine xfu (Q:=fun r=>∃was q,r=some (was,(ptL n q,()))∧ClR n fs P q was) (fun l was ch=>muL l*2+if ch then 1 else 0)
  (fun l was ch=>∃p,l=ptL n p∧Pt n p∧Lep n P p∧Lst n fs P p∧StW n P was p∧(ch=false→Cg n fs p)) ?_ _ _ _ ?_ ⟨P,rfl,hP,Lep.refl hP,fun C _ hl _=>hl,⟨fun _ _ _=>rfl,fun h=>absurd h (by simp)⟩,fun h=>absurd h (by simp)⟩
 ·rintro rc l was ch ⟨p0,rfl,hp0,hle0,hlst0,hst0,hcg0⟩ ih
  unfold wmz
  cases ch with
  | false=>exact⟨was,p0,rfl,hp0,hle0,hlst0,hcg0 rfl,hst0⟩
  | true =>
   rw[cond_true]
   refine xft (Q:=fun r=>∃was q,r=some (was,(ptL n q,()))∧ClR n fs P q was) fs.length (fun t l was ch=>∃p,IVp n fs P p0 (PassD n fs p0 t 0 0) l was ch p) (by omega) ?_ ?_ 0 (by omega) _ _ _ ⟨p0,rfl,hp0,hle0,hlst0,hst0,⟨fun _ _ _=>rfl,fun h=>absurd h (by simp)⟩,fun _=>⟨fun j hj=>by omega,fun _=>⟨fun j hj=>by omega,fun j hj=>by omega⟩⟩⟩
   ·rintro rc2 t l was ch ht hv ih2
    have hm:=List.getElem_mem ht
    unfold wdu
    simp only[algL,wv,cdt (show(t:Int)<(fs.length:Int) by omega),waz ht,obS]
    refine xc6 (Q:=fun r=>∃was q,r=some (was,(ptL n q,()))∧ClR n fs P q was) 2 (fun k l was ch step=>step=((n ^ k:Nat):Int)∧∃p,IVp n fs P p0 (PassD n fs p0 t k 0) l was ch p) (by omega) ?_ ?_ 0 (by omega) _ _ _ _ ⟨by simp,hv⟩
    ·rintro rc3 k l was ch step hk ⟨rfl,hv⟩ ih3
     unfold zq
     simp only[cdt (show(k:Int)<(2:Int) by omega),wo]
     refine xc7 (Q:=fun r=>∃was q,r=some (was,(ptL n q,()))∧ClR n fs P q was) (n*n) (fun i l was ch=>∃p,IVp n fs P p0 (PassD n fs p0 t k i) l was ch p) (by omega) ?_ ?_ 0 (by omega) _ _ _ hv
     ·rintro rc4 i l was ch hi ⟨p,hv⟩ ih4
      have hl:=hv.form
      subst hl
      unfold wdt
      rw[cdt (by omega),wa2 hi,obS]
      refine(congrArg (fun r=>∃was q,r=some (was,(ptL n q,()))∧ClR n fs P q was) (w0e h10 ho hv.pt hm hk hi fun r=>cond r.2 (rc4 r.1 (algL n fs) true true _ _ _ _ _ _ _ _ (IntKind.i64.wrap ((i:Int)+(1:Int)))) (rc4 r.1 (algL n fs) was ch _ _ _ _ _ _ _ _ (IntKind.i64.wrap ((i:Int)+(1:Int)))))).mpr ?_
      rw[wr1 (by omega)]
      by_cases e:p (fs[t] (i / n) (i % n))=p (oth fs[t] n p k i)
      ·simp only[e,ne_eq,not_true_eq_false,decide_false,cond_false]
       have:=hv.step_eq ho hm hi hP e (D':=PassD n fs p0 t k (i+1)) (fun d w=>⟨d.1,fun h=>⟨(d.2 h).1,all_lt_succ.2 ⟨(d.2 h).2,w⟩⟩⟩)
       exact ih4 _ _ _ ⟨_,this⟩
      ·simp only[ne_eq,e,not_false_eq_true,decide_true,cond_true]
       exact ih4 _ _ _ ⟨_,hv.step_ne ho hm hi hP e⟩
     ·rintro rc4 l was ch ⟨p,hv⟩
      unfold wdt
      rw[cdf (by omega),zp]
      have e1:IntKind.i64.wrap (((n ^ k:Nat):Int)*(n:Int))=((n ^ (k+1):Nat):Int):=by
       have:n ^ k*n≤100:=by
        have hk2:k=0∨k=1:=by omega
        rcases hk2 with rfl|rfl
        ·simp;omega
        ·rw[Nat.pow_one];exact hnn
       rw[←Int.natCast_mul,←Nat.pow_succ,wr (by have:=Int.natCast_nonneg (n ^ (k+1));omega) (by rw[Nat.pow_succ];generalize n ^ k*n=c at *;omega)]
      rw[show IntKind.i64.wrap (((n ^ k:Nat):Int)*((n:Int),opsL n fs,()).1)=_ from e1,wr1 (by omega)]
      exact ih3 _ _ _ _ ⟨rfl,p,hv.form,hv.pt,hv.le,hv.lst,hv.st,hv.st0,fun c=>⟨(hv.done c).1,fun h=>⟨all_lt_succ.2 ⟨((hv.done c).2 h).1,((hv.done c).2 h).2⟩,fun j hj=>by omega⟩⟩⟩
    ·rintro rc3 l was ch step ⟨rfl,p,hv⟩
     unfold zq
     rw[cdf (by simp),xf,wr1 (by omega)]
     have e2:=ih2 _ _ _ ⟨p,hv.form,hv.pt,hv.le,hv.lst,hv.st,hv.st0,fun c=>⟨all_lt_succ.2 ⟨(hv.done c).1,fun h=>((hv.done c).2 h).1⟩,fun h=>⟨fun j hj=>by omega,fun j hj=>by omega⟩⟩⟩
     simp only[algL,wv]at e2
     exact e2
   ·rintro rc2 l was ch ⟨p,hv⟩
    unfold wdu
    simp only[algL,wv,cdf (show ¬(fs.length:Int)<(fs.length:Int) by omega),yo]
    refine ih _ _ _ ⟨p,hv.form,hv.pt,hv.le,hv.lst,hv.st,fun c => ?_⟩ ?_
    ·intro f hf k hk i hi
     obtain⟨j,hj,rfl⟩:=List.getElem_of_mem hf
     have w:=(hv.done c).1 j hj hj k hk i hi
     obtain⟨i1,i2⟩:=wg hi
     have hq:=hv.st0.eq c
     have eo:oth fs[j] n p0 k i=oth fs[j] n p k i:=by unfold oth;rw[hq _ i1,hq _ i2]
     unfold Wp at w ⊢
     rw[eo,←hq _ (ho _ hf _ _ i1 i2),←hq _ (xo ho hf hv.pt hi)]at w
     exact w
    ·rw[hv.form,wuj,wuj]
     cases ch with
     | true=>have:=hv.st0.lt rfl;simp;omega
     | false=>have:=wa7 (hv.st0.eq rfl);simp;omega
 ·rw[wuj];have:=w8b (n:=n) P;simp;omega
theorem w9i {n i:Nat}(h10:n≤10) (hi:i<n*n):V37 big (n:Int) 2 (i:Int)=some ([((i / n:Nat):Int),((i % n:Nat):Int)],()):=by
 obtain⟨h1,h2⟩:=wg hi
 have hn:0<n:=Nat.lt_of_le_of_lt (Nat.zero_le _) h1
 have hnn:=xn (i:=n) (n:=n) h10 h10
 unfold V37 wx0
 rw[show mkI (0:Int) 2=some [0,0] from rfl,obS,obS,cdt (by omega),wr (by omega) (by omega)]
 refine xe2 (fun _ _ k=>(k+1).toNat) (fun a o k=>(k=1∧a=(i:Int)∧o=[0,0])∨(k=0∧a=((i / n:Nat):Int)∧o=[0,((i % n:Nat):Int)])∨(k = -1∧o=[((i / n:Nat):Int),((i % n:Nat):Int)])) ?_ _ _ _ (by simp) (.inl ⟨by omega,rfl,rfl⟩)
 rintro rc a o k (⟨rfl,rfl,rfl⟩|⟨rfl,rfl,rfl⟩|⟨rfl,rfl⟩) ih
 ·unfold wgm
  rw[cdt (by omega),wj4 hn,wj3 hn (by omega)]
  simp only[obS]
  rw[show atI [(0:Int),0] (1:Int)=some 0 from rfl,obS,show([(0:Int),0])[((1:Int)).toNat]? = some 0 from rfl,obS,wr (by omega) (by omega)]
  exact ih _ _ _ (.inr (.inl ⟨by omega,rfl,rfl⟩)) (by simp)
 ·unfold wgm
  rw[cdt (by omega),wj4 hn,wj3 hn (by generalize i / n=c at *;omega)]
  simp only[obS]
  rw[show atI [(0:Int),((i % n:Nat):Int)] (0:Int)=some 0 from rfl,obS,show([(0:Int),((i % n:Nat):Int)])[((0:Int)).toNat]? = some 0 from rfl,obS,wr (by omega) (by omega),Nat.mod_eq_of_lt h1]
  exact ih _ _ _ (.inr (.inr ⟨by omega,rfl⟩)) (by simp)
 ·unfold wgm
  rw[cdf (by omega),wgl]
theorem wpm {n:Nat}{fs:List (Nat→Nat→Nat)}(h10:n≤10){t x y:Nat}(ht:t<fs.length) (hx:x<n) (hy:y<n):V38 big (algL n fs) (t:Int) [(x:Int),(y:Int)]=some (((fs[t] x y:Nat):Int),()):=by
 have hnn:=xn (i:=n) (n:=n) h10 h10
 obtain⟨a1,a2,a3⟩:=wqd hx hy
 unfold V38 wx2
 refine xe3 2 (fun k v=>v=if k=0 then(0:Int) else if k=1 then(x:Int) else((x*n+y:Nat):Int)) (by omega) ?_ ?_ 0 (by omega) _ (by simp)
 ·intro rc k v hk hv ih
  have hk2:k=0∨k=1:=by omega
  unfold wgo
  rcases hk2 with rfl|rfl
  ·rw[if_pos rfl]at hv
   subst hv
   rw[cdt (by simp),show atI [(x:Int),(y:Int)] ((0:Nat):Int)=some (x:Int) from rfl,obS,Int.zero_mul,wr (n:=0) (by omega) (by omega),wr (by omega) (by omega),wr1 (by omega)]
   exact ih _ (by simp)
  ·rw[if_neg (by omega),if_pos rfl]at hv
   subst hv
   rw[cdt (by simp),show atI [(x:Int),(y:Int)] ((1:Nat):Int)=some (y:Int) from rfl,obS,show(x:Int)*(algL n fs).1=((x*n:Nat):Int) from(Int.natCast_mul x n).symm,wr (n:=((x*n:Nat):Int)) (by omega) (by omega),wr (by omega) (by omega),wr1 (by omega)]
   exact ih _ (by simp)
 ·intro rc v hv
  rw[if_neg (by omega),if_neg (by omega)]at hv
  unfold wgo
  rw[cdf (by simp),wci,show(algL n fs).2.1=opsL n fs from rfl,waz ht,obS,hv,wa2 a1,a2,a3]
  rfl
structure PuR (n:Nat) (fs:List (Nat→Nat→Nat)) (P:Nat→Nat) (D:Prop) (O:Nat→Nat):Prop where
 pt:Pt n O
 le:Lep n P O
 lst:Lst n fs P O
 done:D
def PuD (n:Nat) (fs:List (Nat→Nat→Nat)) (P O:Nat→Nat) (t i k:Nat):Prop :=
 (∀j,j<t→∀h:j<fs.length,∀k,k<2→∀i,i<n*n→O (fs[j] (i / n) (i % n))=O (oth fs[j] n P (1-k) i)) ∧
 (∀h:t<fs.length,(∀i',i'<i→∀k,k<2→O (fs[t] (i' / n) (i' % n))=O (oth fs[t] n P (1-k) i'))∧∀k',k'<k→O (fs[t] (i / n) (i % n))=O (oth fs[t] n P (1-k') i))
theorem PuR.step {n:Nat}{fs:List (Nat→Nat→Nat)}{P O:Nat→Nat}(ho:Opn n fs) (hP:Pt n P){t i k:Nat}(ht:t<fs.length) (hi:i<n*n) (h:PuR n fs P (PuD n fs P O t i k) O) :
  PuR n fs P (PuD n fs P (uni O (fs[t] (i / n) (i % n)) (oth fs[t] n P (1-k) i)) t i (k+1)) (uni O (fs[t] (i / n) (i % n)) (oth fs[t] n P (1-k) i)):=by
 obtain⟨h1,h2⟩:=wg hi
 have hm:=List.getElem_mem ht
 have hv:=ho _ hm _ _ h1 h2
 have hw:=xo ho hm hP (k:=1-k) hi
 have hle:=wn8 h.pt (fs[t] (i / n) (i % n)) (oth fs[t] n P (1-k) i)
 have keep:∀{g:Nat→Nat→Nat} {k' i':Nat},g∈fs→i'<n*n→O (g (i' / n) (i' % n))=O (oth g n P k' i')→uni O (fs[t] (i / n) (i % n)) (oth fs[t] n P (1-k) i) (g (i' / n) (i' % n))=uni O (fs[t] (i / n) (i % n)) (oth fs[t] n P (1-k) i) (oth g n P k' i'):=fun hg hi' e =>
  hle.ker (ho _ hg _ _ (wg hi').1 (wg hi').2) (xo ho hg hP hi') e
 exact⟨we2 h.pt hv hw,Lep.trans hP h.le hle,fun C hC hl hc=>wut h.pt (h.lst C hC hl hc) hv hw (wo3 hm hP hl hc hi),
  ⟨fun j hj hjl k hk i' hi'=>keep (List.getElem_mem hjl) hi' (h.done.1 j hj hjl k hk i' hi'),fun hh=>⟨fun i' hi' k hk=>keep hm (by omega) ((h.done.2 ht).1 i' hi' k hk),all_lt_succ.2 ⟨fun k' hk'=>keep hm hi ((h.done.2 ht).2 k' hk'),xgr _ _ _⟩⟩⟩⟩
theorem wwx {n:Nat}{fs:List (Nat→Nat→Nat)}(h10:n≤10) (hfl:fs.length≤10) (ho:Opn n fs){P:Nat→Nat}(hP:Pt n P):∃O,V39 big (algL n fs) (ptL n P)=some (ptL n O,())∧PuR n fs P (PuD n fs P O fs.length 0 0) O:=by
 have hnn:=xn (i:=n) (n:=n) h10 h10
 have g:∀z,z<n→atI (ptL n P) (z:Int)=some ((P z:Nat):Int):=fun z hz=>jd hz
 have hown:V36 (ptL n P)=some (ptL n P,()):=by
  unfold V36 wpx appI
  rw[if_pos (by rw[wd];simp;omega)];rfl
 unfold V39 wx5
 rw[hown,obS]
 refine xe4 (Q:=fun r=>∃O,r=some (ptL n O,())∧PuR n fs P (PuD n fs P O fs.length 0 0) O) fs.length (fun t l=>∃O,l=ptL n O∧PuR n fs P (PuD n fs P O t 0 0) O) (by omega) ?_ ?_ 0 (by omega) _ ⟨P,rfl,hP,Lep.refl hP,fun C _ hl _=>hl,fun j hj=>by omega,fun _=>⟨fun j hj=>by omega,fun j hj=>by omega⟩⟩
 ·rintro rc t l ht hv ih
  unfold wco
  rw[show(algL n fs).2.1=opsL n fs from rfl,wv,cdt (by omega)]
  refine xe5 (Q:=fun r=>∃O,r=some (ptL n O,())∧PuR n fs P (PuD n fs P O fs.length 0 0) O) (n*n) (fun i l=>∃O,l=ptL n O∧PuR n fs P (PuD n fs P O t i 0) O) (by omega) ?_ ?_ 0 (by omega) _ hv
  ·rintro rc2 i l hi hv2 ih2
   obtain⟨h1,h2⟩:=wg hi
   unfold wcp
   have e0:atI (algL n fs).2.1 (t:Int)=some ((2:Int),flt n (fun x y=>((fs[t] x y:Nat):Int)) n,()):=waz ht
   have e1:V37 big (algL n fs).1 ((2:Int),flt n (fun x y=>((fs[t] x y:Nat):Int)) n,()).1 (i:Int)=some ([((i / n:Nat):Int),((i % n:Nat):Int)],()):=w9i h10 hi
   rw[e0,obS,cdt (by show(i:Int)<((flt n (fun x y=>((fs[t] x y:Nat):Int)) n).length:Int);rw[wo];omega),obS,e1,obS]
   refine xcb (Q:=fun r=>∃O,r=some (ptL n O,())∧PuR n fs P (PuD n fs P O fs.length 0 0) O) 2 (fun k l=>∃O,l=ptL n O∧PuR n fs P (PuD n fs P O t i k) O) (by omega) ?_ ?_ 0 (by omega) _ hv2
   ·rintro rc3 k l hk ⟨O,rfl,hO⟩ ih3
    have hm:=List.getElem_mem ht
    have hv3:=ho _ hm _ _ h1 h2
    have hw:=xo ho hm hP (k:=1-k) hi
    have hst:=hO.step ho hP ht hi
    have hu:=wa1 (n:=n) (P:=O) (show n≤1048576 by omega) hv3 hw
    have hown2:V36 [((i / n:Nat):Int),((i % n:Nat):Int)]=some ([((i / n:Nat):Int),((i % n:Nat):Int)],()):=by
     unfold V36 wpx appI
     rw[if_pos (by simp)];rfl
    unfold wcn
    have hk2:k=0∨k=1:=by omega
    rcases hk2 with rfl|rfl
    ·have a0:atI [((i / n:Nat):Int),((i % n:Nat):Int)] ((0:Nat):Int)=some ((i / n:Nat):Int):=rfl
     have a1:([((i / n:Nat):Int),((i % n:Nat):Int)])[((0:Nat):Int).toNat]? = some ((i / n:Nat):Int):=rfl
     have a2:([((i / n:Nat):Int),((i % n:Nat):Int)]).set ((0:Nat):Int).toNat ((P (i / n):Nat):Int)=[((P (i / n):Nat):Int),((i % n:Nat):Int)]:=rfl
     rw[cdt (by simp),hown2,obS,a0,obS,a1,obS,g _ h1,obS,obS,obS,show(algL n fs).2.1=opsL n fs from rfl,waz ht,obS,wa2 hi,obS,a2,wpm h10 ht (hP.lt h1) h2,obS]
     rw[show oth fs[t] n P (1-0) i=fs[t] (P (i / n)) (i % n) from rfl]at hu hst
     rw[hu,obS,wr1 (by omega)]
     exact ih3 _ ⟨_,rfl,hst⟩
    ·have a0:atI [((i / n:Nat):Int),((i % n:Nat):Int)] ((1:Nat):Int)=some ((i % n:Nat):Int):=rfl
     have a1:([((i / n:Nat):Int),((i % n:Nat):Int)])[((1:Nat):Int).toNat]? = some ((i % n:Nat):Int):=rfl
     have a2:([((i / n:Nat):Int),((i % n:Nat):Int)]).set ((1:Nat):Int).toNat ((P (i % n):Nat):Int)=[((i / n:Nat):Int),((P (i % n):Nat):Int)]:=rfl
     rw[cdt (by simp),hown2,obS,a0,obS,a1,obS,g _ h2,obS,obS,obS,show(algL n fs).2.1=opsL n fs from rfl,waz ht,obS,wa2 hi,obS,a2,wpm h10 ht h1 (hP.lt h2),obS]
     rw[show oth fs[t] n P (1-1) i=fs[t] (i / n) (P (i % n)) from rfl]at hu hst
     rw[hu,obS,wr1 (by omega)]
     exact ih3 _ ⟨_,rfl,hst⟩
   ·rintro rc3 l ⟨O,rfl,hO⟩
    unfold wcn
    rw[cdf (by simp),zi,wr1 (by omega)]
    refine ih2 _ ⟨O,rfl,hO.pt,hO.le,hO.lst,hO.done.1,fun h=>⟨all_lt_succ.2 ⟨(hO.done.2 h).1,(hO.done.2 h).2⟩,fun j hj=>by omega⟩⟩
  ·rintro rc2 l ⟨O,rfl,hO⟩
   unfold wcp
   simp only[show(algL n fs).2.1=opsL n fs from rfl,waz ht,obS,wo,cdf (show ¬((n*n:Nat):Int)<((n*n:Nat):Int) by omega)]
   rw[yh,wr1 (by omega)]
   refine ih _ ⟨O,rfl,hO.pt,hO.le,hO.lst,all_lt_succ.2 ⟨hO.done.1,fun h k hk i hi=>(hO.done.2 h).1 i hi k hk⟩,fun _=>⟨fun j hj=>by omega,fun j hj=>by omega⟩⟩
 ·rintro rc l ⟨O,rfl,hO⟩
  unfold wco
  rw[show(algL n fs).2.1=opsL n fs from rfl,wv,cdf (by omega),yg]
  exact⟨O,rfl,hO⟩
theorem we1 {n:Nat}{fs:List (Nat→Nat→Nat)}(ho:Opn n fs){P O:Nat→Nat}(hP:Pt n P) (hO:PuR n fs P (PuD n fs P O fs.length 0 0) O):(∀x,x<n→O x=P x)↔Cg n fs P:=by
 constructor
 ·intro e f hf k hk i hi
  obtain⟨j,hj,rfl⟩:=List.getElem_of_mem hf
  have w:=hO.done.1 j hj hj (1-k) (by omega) i hi
  rw[show 1-(1-k)=k by omega,e _ (ho _ hf _ _ (wg hi).1 (wg hi).2),e _ (xo ho hf hP hi)]at w
  exact w
 ·intro hc x hx
  exact(Lep.eq hP hO.pt hO.le (hO.lst P hP (Lep.refl hP) hc) hx).symm
theorem xd2 {n:Nat}{P:Nat→Nat}(hn:0<n) (hP:Pt n P):0<cls n P:=by
 have:(0:Nat)∈fl n fun x=>decide (P x=x):=fl_mem.2 ⟨hn,decide_eq_true (by have:=hP.lo 0 hn;omega)⟩
 exact List.length_pos_of_mem this
structure LeastC (n:Nat) (fs:List (Nat→Nat→Nat)) (P O:Nat→Nat):Prop where
 pt:Pt n O
 le:Lep n P O
 lst:Lst n fs P O
 cg:Cg n fs O
theorem LeastC.eq {n:Nat}{fs:List (Nat→Nat→Nat)}{P O O':Nat→Nat}(h:LeastC n fs P O) (h':LeastC n fs P O'):ptL n O=ptL n O' :=
 wba fun x hx=>Lep.eq h.pt h'.pt (h.lst _ h'.pt h'.le h'.cg) (h'.lst _ h.pt h.le h.cg) hx
theorem wuq {n:Nat}{fs:List (Nat→Nat→Nat)}(h10:n≤10) (hn:0<n) (hfl:fs.length≤10) (ho:Opn n fs){P:Nat→Nat}(hP:Pt n P):∃O,V40 big (algL n fs) (ptL n P)=some (ptL n O,())∧LeastC n fs P O:=by
 unfold V40 wx6
 refine xe6 (Q:=fun r=>∃O,r=some (ptL n O,())∧LeastC n fs P O) n (fun i l=>∃O,l=ptL n O∧Pt n O∧Lep n P O∧Lst n fs P O∧(Cg n fs O∨cls n O+i≤n)) (by omega) ?_ ?_ 0 (by omega) _ ⟨P,rfl,hP,Lep.refl hP,fun C _ hl _=>hl,.inr (by have:=w8b (n:=n) P;omega)⟩
 ·rintro rc i l hi ⟨O,rfl,h1,h2,h3,h4⟩ ih
  obtain⟨O',e,hO'⟩:=wwx h10 hfl ho h1
  unfold wgr
  rw[show(algL n fs).1=(n:Int) from rfl,cdt (by omega),e,obS,wr1 (by omega)]
  refine ih _ ⟨O',rfl,hO'.pt,Lep.trans hP h2 hO'.le,fun C hC hl hc=>hO'.lst C hC (h3 C hC hl hc) hc, ?_⟩
  have hcg:Cg n fs O→Cg n fs O':=fun hc=>by
   have heq:=(we1 ho h1 hO').2 hc
   intro f hf k hk i hi
   have w:=hc f hf k hk i hi
   have eo:oth f n O' k i=oth f n O k i:=by unfold oth;rw[heq _ (wg hi).1,heq _ (wg hi).2]
   unfold Wp at w ⊢
   rw[eo,heq _ (ho _ hf _ _ (wg hi).1 (wg hi).2),heq _ (xo ho hf h1 hi),w]
  rcases h4 with h4|h4
  ·exact .inl (hcg h4)
  ·by_cases hc:Cg n fs O
   ·exact .inl (hcg hc)
   ·have hne:∃x,x<n∧O' x≠O x:=by
     by_cases q:∃x,x<n∧O' x≠O x
     ·exact q
     ·exact absurd ((we1 ho h1 hO').1 fun x hx=>Classical.byContradiction fun e=>q ⟨x,hx,e⟩) hc
    obtain⟨x,hx,hne⟩:=hne
    have:=w8c h1 hO'.pt hO'.le hx hne
    exact .inr (by omega)
 ·rintro rc l ⟨O,rfl,h1,h2,h3,h4⟩
  unfold wgr
  rw[show(algL n fs).1=(n:Int) from rfl,cdf (by omega),wcq]
  refine⟨O,rfl,h1,h2,h3, ?_⟩
  rcases h4 with h4|h4
  ·exact h4
  ·have:=xd2 hn h1;omega
def CongL (n:Nat) (fs:List (Nat→Nat→Nat)) (l:List Int):Prop:=∃P,Pt n P∧l=ptL n P∧Cg n fs P
theorem w8i {n:Nat}{fs:List (Nat→Nat→Nat)}(h10:n≤10) (hn:0<n) (hfl:fs.length≤10) (ho:Opn n fs){l:List Int}(hl:l.length≤1048576):V70 (algL n fs) l=some (tv (CongL n fs l),()):=by
 unfold V70 xad
 rw[show(algL n fs).1=(n:Int) from rfl,wez (by omega) hl,obS]
 by_cases h:PartL n l
 ·obtain⟨P,hP,rfl⟩:=h
  obtain⟨was,q,e,hq⟩:=w9l h10 hn hfl ho hP
  have hcl:V67 (ptL n P)=some (ptL n P,()):=by
   unfold V67 xac appI
   rw[if_pos (by rw[wd];simp;omega)];rfl
  rw[tv_t ⟨P,hP,rfl⟩,cond_true,hcl,obS,e,obS]
  have:(!was)=tv (CongL n fs (ptL n P)):=by
   cases was with
   | false =>
    refine(tv_t ?_).symm
    have heq:=hq.st.eq rfl
    exact⟨q,hq.pt,wba fun x hx=>(heq x hx).symm,hq.cg⟩
   | true =>
    refine(tv_f ?_).symm
    rintro⟨C,hC,e1,hc⟩
    have e2:∀x,x<n→P x=C x:=fun x hx=>wo4 e1 hx
    have hl1:Lep n P C:=fun x hx=>by rw[e2 x hx];exact hC.id x hx
    have hl2:=hq.lst C hC hl1 hc
    have e3:∀x,x<n→q x=P x:=fun x hx=>by
     rw[e2 x hx]
     refine Lep.eq hq.pt hC hl2 (fun y hy => ?_) hx
     rw[←e2 y hy];exact hq.le y hy
    have:=wa7 e3
    have:=hq.st.lt rfl
    omega
  rw[this]
 ·rw[tv_f h,cond_false,tv_f]
  rintro⟨P,hP,e,_⟩
  exact h ⟨P,hP,e⟩
theorem wuz {n:Nat}{fs:List (Nat→Nat→Nat)}(h10:n≤10) (hfl:fs.length≤10) (ho:Opn n fs){l:List Int}(hl:l.length≤1048576):V77 (algL n fs) l=some (tv (CongL n fs l),()):=by
 unfold V77 xae
 rw[show(algL n fs).1=(n:Int) from rfl,wki (by omega) hl,obS]
 by_cases h:PartL n l
 ·obtain⟨P,hP,rfl⟩:=h
  obtain⟨O,e,hO⟩:=wwx h10 hfl ho hP
  rw[tv_t ⟨P,hP,rfl⟩,cond_true,e,obS,wpf _ _ (by rw[wd];omega),obS]
  have:decide (ptL n O=ptL n P)=tv (CongL n fs (ptL n P)):=by
   by_cases hc:Cg n fs P
   ·rw[tv_t ⟨P,hP,rfl,hc⟩,decide_eq_true (wba ((we1 ho hP hO).2 hc))]
   ·rw[tv_f,decide_eq_false]
    ·intro e;exact hc ((we1 ho hP hO).1 fun x hx=>wo4 e hx)
    ·rintro⟨C,hC,e1,hc2⟩
     refine hc ((we1 ho hP hO).1 fun x hx => ?_)
     have e2:∀x,x<n→P x=C x:=fun x hx=>wo4 e1 hx
     have hl1:Lep n P C:=fun x hx=>by rw[e2 x hx];exact hC.id x hx
     rw[e2 x hx]
     refine Lep.eq hO.pt hC (hO.lst C hC hl1 hc2) (fun y hy => ?_) hx
     rw[←e2 y hy];exact hO.le y hy
  rw[this]
 ·rw[tv_f h,cond_false,tv_f]
  rintro⟨P,hP,e,_⟩
  exact h ⟨P,hP,e⟩
abbrev latF (n:Nat) (le:Nat→Nat→Bool):List (Nat→Nat→Nat):=[mt n le,mt n (du le)]
theorem wo1 {n:Nat}{le:Nat→Nat→Bool}(h:LatP n le):Opn n (latF n le):=by
 intro f hf x y hx hy
 simp only[List.mem_cons,List.not_mem_nil,or_false]at hf
 rcases hf with rfl|rfl
 ·exact h.mlt hx hy
 ·exact jlt h hx hy
theorem xd6 {n:Nat}{le:Nat→Nat→Bool}(h:LatP n le):0<n:=Nat.lt_of_le_of_lt (Nat.zero_le _) (wqc h)
theorem y9 {n:Nat}{le:Nat→Nat→Bool}(h:LatP n le){l:List Int}(hl:l.length≤1048576):V70 (latAlg n le) l=some (tv (CongL n (latF n le) l),()) :=
 w8i (fs:=latF n le) h.le10 (xd6 h) (by simp) (wo1 h) hl
theorem wkg {n:Nat}{le:Nat→Nat→Bool}(h:LatP n le){l:List Int}(hl:l.length≤1048576):V77 (latAlg n le) l=some (tv (CongL n (latF n le) l),()) :=
 wuz (fs:=latF n le) h.le10 (by simp) (wo1 h) hl
theorem wwo {n:Nat}{le:Nat→Nat→Bool}{e:P2}:∀{m},m≤n→e∈edg n le m→∃x y:Nat,x<n∧y<n∧e=((x:Int),(y:Int),())
 | 0,_,h=>by simp[edg]at h
 | m+1,hm,h=>by
  unfold edg at h
  rcases List.mem_append.1 h with h|h
  ·exact wwo (by omega) h
  ·unfold edR at h
   obtain⟨y,hy,rfl⟩:=List.mem_map.1 h
   exact⟨m,y,by omega,(fl_mem.1 hy).1,rfl⟩
def colE (P:Nat→Nat) (E:List P2):List P2:=E.filter fun e=>decide (P e.1.toNat=P e.2.1.toNat)
theorem wpb {P:Nat→Nat}{E:List P2}{i:Nat}(h:i<E.length):colE P (E.take (i+1))=if P (E[i]).1.toNat=P (E[i]).2.1.toNat then colE P (E.take i)++[E[i]] else colE P (E.take i):=by
 unfold colE
 rw[List.take_succ_eq_append_getElem h,List.filter_append,List.filter_cons,List.filter_nil]
 split<;>simp_all
theorem wke (P:Nat→Nat) (E:List P2):(colE P E).length≤E.length:=List.length_filter_le _ _
theorem woy {n:Nat}{P:Nat→Nat}{E:List P2}(hn:n≤1048576) (hE:∀e∈E,∃x y:Nat,x<n∧y<n∧e=((x:Int),(y:Int),())) (hEl:E.length≤1048576) :
  wnm big (ptL n P) [] E (E.length:Int) 0=some ((colE P E,true,()),())∧wno big (ptL n P) [] E 0=some ((colE P E,true,()),()):=by
 have g:∀z,z<n→atI (ptL n P) (z:Int)=some ((P z:Nat):Int):=fun z hz=>jd hz
 constructor
 ·refine xgb E.length (fun i l=>l=colE P (E.take i)) (by omega) ?_ ?_ 0 (by omega) _ rfl
  ·intro rc i l hi hv ih
   obtain⟨x,y,hx,hy,e⟩:=hE _ (List.getElem_mem hi)
   have hc:=wpb (P:=P) hi
   have hl:=wke P (E.take i)
   rw[List.length_take]at hl
   unfold wil
   simp only[cdt (show(i:Int)<(E.length:Int) by omega),jf E i hi,Int.toNat_natCast,List.getElem?_eq_getElem hi,obS,e,g x hx,g y hy,wr1 (show i≤4611686018427387904 by omega)]
   rw[e]at hc
   simp only[Int.toNat_natCast]at hc
   by_cases c:P x=P y
   ·rw[cdt (congrArg Nat.cast c),app1 (by rw[hv];omega),obS]
    rw[if_pos c]at hc
    exact ih _ (by rw[hv,hc])
   ·rw[cdf (show ¬((P x:Nat):Int)=((P y:Nat):Int) by omega)]
    rw[if_neg c]at hc
    exact ih _ (by rw[hv,hc])
  ·intro rc l hv
   rw[List.take_length]at hv
   unfold wil
   rw[cdf (by omega),wea,hv]
 ·refine xgc E.length (fun i l=>l=colE P (E.take i)) (by omega) ?_ ?_ 0 (by omega) _ rfl
  ·intro rc i l hi hv ih
   obtain⟨x,y,hx,hy,e⟩:=hE _ (List.getElem_mem hi)
   have hc:=wpb (P:=P) hi
   have hl:=wke P (E.take i)
   rw[List.length_take]at hl
   unfold wio
   simp only[cdt (show(i:Int)<(E.length:Int) by omega),jf E i hi,Int.toNat_natCast,List.getElem?_eq_getElem hi,obS,e,g x hx,g y hy,wr1 (show i≤4611686018427387904 by omega)]
   rw[e]at hc
   simp only[Int.toNat_natCast]at hc
   by_cases c:P x=P y
   ·rw[cdt (congrArg Nat.cast c),app1 (by rw[hv];omega),obS]
    rw[if_pos c]at hc
    exact ih _ (by rw[hv,hc])
   ·rw[cdf (show ¬((P x:Nat):Int)=((P y:Nat):Int) by omega)]
    rw[if_neg c]at hc
    exact ih _ (by rw[hv,hc])
  ·intro rc l hv
   rw[List.take_length]at hv
   unfold wio
   rw[cdf (by omega),web,hv]
def rk (R:Nat→Bool) (x:Nat):Nat:=(fl x R).length
def rt (n:Nat) (R:Nat→Bool) (i:Nat):Nat:=(fl n R).getD i 0
theorem xa9 {R:Nat→Bool}:∀{n x:Nat},x<n→R x=true→rk R x<(fl n R).length∧rt n R (rk R x)=x
 | 0,x,h,_=>by omega
 | n+1,x,h,hr=>by
  unfold rk rt
  by_cases c:x=n
  ·subst c
   rw[qd,if_pos hr]
   refine⟨by simp, ?_⟩
   rw[List.getD_eq_getElem?_getD,List.getElem?_append_right (Nat.le_refl _),Nat.sub_self];rfl
  ·obtain⟨h1,h2⟩:=xa9 (n:=n) (by omega) hr
   unfold rk at h1 h2
   unfold rt at h2
   rw[qd]
   split
   ·refine⟨by rw[List.length_append];omega, ?_⟩
    rw[List.getD_eq_getElem?_getD,List.getElem?_append_left h1,←List.getD_eq_getElem?_getD];exact h2
   ·exact⟨h1,h2⟩
abbrev rootB (P:Nat→Nat):Nat→Bool:=fun x=>decide (P x=x)
theorem xea {n:Nat}(h10:n≤10):V28 big (n:Int) 2=some (((n*n:Nat):Int),()):=by
 have hnn:=xn (i:=n) (n:=n) h10 h10
 unfold V28 wxp
 refine xev (fun k _=>k.toNat) (fun k o=>(k=2∧o=1)∨(k=1∧o=(n:Int))∨(k=0∧o=((n*n:Nat):Int))) ?_ _ _ (by simp) (.inl ⟨rfl,rfl⟩)
 rintro rc k o (⟨rfl,rfl⟩|⟨rfl,rfl⟩|⟨rfl,rfl⟩) ih
 ·unfold wga
  rw[cdt (by omega),wr (n:=(2:Int)-1) (by omega) (by omega),wr (by omega) (by omega)]
  exact ih _ _ (.inr (.inl ⟨by omega,by omega⟩)) (by simp)
 ·unfold wga
  rw[cdt (by omega),wr (n:=(1:Int)-1) (by omega) (by omega),←Int.natCast_mul,wr (by omega) (by omega)]
  exact ih _ _ (.inr (.inr ⟨by omega,rfl⟩)) (by simp)
 ·unfold wga
  rw[cdf (by omega),wf9]
theorem xd5 {n:Nat}{f:Nat→Nat→Nat}(h10:n≤10) (hn:0<n) (ho:∀x y,x<n→y<n→f x y<n):V29 big (n:Int) ((2:Int),flt n (fun x y=>((f x y:Nat):Int)) n,())=some (true,()):=by
 have hnn:=xn (i:=n) (n:=n) h10 h10
 have e1:V6 (2:Int) 0 3=some (true,()):=rfl
 have ep:V28 big (n:Int) 2=some (((n*n:Nat):Int),()):=xea h10
 unfold V29 wxr
 simp only[e1,obS,Bool.not_true,cond_false,ep,wo,cdf (show ¬((n*n:Nat):Int)≠((n*n:Nat):Int) from fun c=>c rfl)]
 refine xew (n*n) (fun _=>True) (by omega) ?_ ?_ 0 (by omega) trivial
 ·intro rc i hi _ ih
  obtain⟨i1,i2⟩:=wg hi
  have hv:=ho _ _ i1 i2
  unfold wgc
  have e2:V6 ((f (i / n) (i % n):Nat):Int) 0 (IntKind.i64.wrap ((n:Int)-1))=some (true,()):=by
   unfold V6 V6_s
   rw[wr (by omega) (by omega),cdt (by omega),decide_eq_true (by omega)]
  simp only[wo,cdt (show(i:Int)<((n*n:Nat):Int) by omega),wa2 hi,obS,e2,Bool.not_true,cond_false,wr1 (show i≤4611686018427387904 by omega)]
  exact ih trivial
 ·intro rc _
  unfold wgc
  simp only[wo,cdf (show ¬((n*n:Nat):Int)<((n*n:Nat):Int) by omega)]
  rw[wce]
theorem w8l {n:Nat}{fs:List (Nat→Nat→Nat)}(h8:n≤8) (hn:0<n) (hfl:fs.length≤4) (ho:Opn n fs):V30 big (algL n fs)=some (true,()):=by
 unfold V30 wxt
 have e1:V6 (algL n fs).1 1 8=some (true,()):=by
  unfold V6 V6_s
  rw[show(algL n fs).1=(n:Int) from rfl,cdt (by omega),decide_eq_true (by omega)]
 rw[e1,obS,Bool.not_true,cond_false,show(algL n fs).2.1.length=fs.length from wv n fs,cdf (by omega)]
 refine xex fs.length (fun _=>True) (by omega) ?_ ?_ 0 (by omega) trivial
 ·intro rc t ht _ ih
  have e0:atI (algL n fs).2.1 (t:Int)=some ((2:Int),flt n (fun x y=>((fs[t] x y:Nat):Int)) n,()):=waz ht
  unfold wge
  rw[show(algL n fs).2.1.length=fs.length from wv n fs,cdt (by omega),e0,obS,show(algL n fs).1=(n:Int) from rfl,xd5 (by omega) hn (ho _ (List.getElem_mem ht)),obS,Bool.not_true,cond_false,wr1 (by omega)]
  exact ih trivial
 ·intro rc _
  unfold wge
  rw[show(algL n fs).2.1.length=fs.length from wv n fs,cdf (by omega),wcf]
theorem xa7 (n:Nat):Pt n (fun x=>x):=⟨fun x _=>Nat.le_refl x,fun x _=>rfl⟩
theorem xr {n:Nat}(hn:n≤1048576):V33 big (n:Int)=some (ptL n fun x=>x,()):=by
 unfold V33 wxv
 refine xey n (fun i l=>l=ptL i fun x=>x) (by omega) ?_ ?_ 0 (by omega) _ rfl
 ·rintro rc i l hi rfl ih
  unfold wgg
  rw[cdt (by omega),app1 (by rw[wd];omega),obS,wr1 (by omega)]
  exact ih _ (by unfold ptL;rw[jt])
 ·rintro rc l rfl
  unfold wgg
  rw[cdf (by omega),wcg]
theorem w8m (a b:List Int) (h:a.length=b.length) (h2:a.length≤4294967296):V43 big a b=some (lx a b,()):=by
 unfold V43 wya
 refine xe8 a.length (fun i=>lx a b=lx (a.drop i) (b.drop i)) (by omega) ?_ ?_ 0 (by omega) rfl
 ·intro rc i hi hv ih
  have hib:i<b.length:=by omega
  unfold wgw
  simp only[cdt (show(i:Int)<(a.length:Int) by omega),jf a i hi,jf b i hib,obS,wr1 (show i≤4611686018427387904 by omega)]
  rw[xd7 hi hib]at hv
  by_cases e:a[i]=b[i]
  ·rw[cdf (by simp[e])]
   rw[if_neg (by simp[e])]at hv
   exact ih hv
  ·rw[cdt e,hv,if_pos e]
 ·intro rc hv
  rw[List.drop_length]at hv
  unfold wgw
  rw[cdf (by omega),wcr,hv];rfl
inductive Wd where
 | v (n:Int)
 | op (g:Int) (a b:Wd)
def Wd.fl:Wd→List Int
 | .v n=>[n]
 | .op g a b=>g::(a.fl++b.fl)
def Wd.ok:Wd→Prop
 | .v n=>0≤n∧n<5
 | .op g a b=>(g = -1∨g = -2)∧a.ok∧b.ok
theorem Wd.pos:∀A:Wd,0<A.fl.length
 | .v n=>by simp[Wd.fl]
 | .op g a b=>by simp[Wd.fl]
def At (s:List Int) (i:Nat) (A:Wd):Prop:=A.ok∧∃r,s.drop i=A.fl++r
theorem At.lt {s:List Int}{i:Nat}{A:Wd}(h:At s i A):i+A.fl.length≤s.length:=by
 obtain⟨_,r,e⟩:=h
 have:=congrArg List.length e
 have:=A.pos
 simp only[List.length_drop,List.length_append]at *
 omega
abbrev K2:Ty := .pair I (.pair I .unit)
theorem y5 (x y:Int×(Int×Unit)):eqD K2 x y=decide (x=y):=by
 obtain⟨a,b,u⟩:=x
 obtain⟨c,d,v⟩:=y
 show(decide (a=c)&&(decide (b=d)&&true))=decide ((a,b,u)=(c,d,v))
 rw[Bool.eq_iff_iff]
 simp
theorem wiz (x y:Int×(Int×Unit)) (b:Bool):∀m:List ((Int×(Int×Unit))×Bool),mget K2 .bool (mput K2 .bool m x b) y=if y=x then some b else mget K2 .bool m y
 | []=>by
  show cond (eqD K2 y x) (some b) none=_
  rw[y5,cd]
  rfl
 | (z,c)::m=>by
  have ih:=wiz x y b m
  show mget K2 .bool (cond (eqD K2 x z) ((x,b)::m) ((z,c)::mput K2 .bool m x b)) y=(if y=x then some b else cond (eqD K2 y z) (some c) (mget K2 .bool m y))
  rw[y5,cd,y5,cd]
  by_cases hx:x=z
  ·rw[if_pos hx,←hx]
   show cond (eqD K2 y x) (some b) (mget K2 .bool m y)=_
   rw[y5,cd]
   by_cases h:y=x<;>simp[h]
  ·rw[if_neg hx]
   show cond (eqD K2 y z) (some c) (mget K2 .bool (mput K2 .bool m x b) y)=_
   rw[y5,cd,ih]
   by_cases hz:y=z
   ·rw[if_pos hz,if_neg (by rintro rfl;exact hx hz),if_pos hz]
   ·rw[if_neg hz,if_neg hz]
abbrev BS:=List Bool×List Nat
def stp (u:Nat→Nat→Bool) (x:Nat) (S:BS) (i:Nat):BS:=if S.1[i]? = some false∧(u x i||u i x)=true then(S.1.set i true,S.2++[i]) else S
def insK (u:Nat→Nat→Bool) (x:Nat) (S:BS):Nat→BS
 | 0=>S
 | k+1=>stp u x (insK u x S k) k
def bfs (u:Nat→Nat→Bool) (m:Nat) (S:BS):Nat→BS
 | 0=>S
 | i+1=>match (bfs u m S i).2[i]? with
  | some x=>insK u x (bfs u m S i) m
  | none=>bfs u m S i
def BOk (m:Nat) (S:BS):Prop:=S.1.length=m∧(∀x∈S.2,x<m)∧S.1.count false+S.2.length=m
theorem xgp {u:Nat→Nat→Bool}{m x i:Nat}{S:BS}(h:BOk m S) (hi:i<m):BOk m (stp u x S i):=by
 unfold stp
 split
 ·rename_i hc
  obtain⟨h1,h2,h3⟩:=h
  have hil:i<S.1.length:=by omega
  have hf:S.1[i]=false:=by
   have:=hc.1
   rw[List.getElem?_eq_getElem hil]at this
   simpa using this
  refine⟨by simp[h1],fun y hy => ?_, ?_⟩
  ·rcases List.mem_append.1 hy with hy|hy
   ·exact h2 y hy
   ·simp at hy;omega
  ·have hpos:0<S.1.count false:=List.count_pos_iff.2 (by rw[←hf];exact List.getElem_mem hil)
   simp only[List.length_append,List.length_cons,List.length_nil]
   rw[List.count_set hil,hf]
   simp
   omega
 ·exact h
theorem wj2 {u:Nat→Nat→Bool}{m x:Nat}{S:BS}(h:BOk m S):∀k,k≤m→BOk m (insK u x S k)
 | 0,_=>h
 | k+1,hk=>xgp (wj2 h k (by omega)) (by omega)
theorem wiw {u:Nat→Nat→Bool}{m:Nat}{S:BS}(h:BOk m S):∀i,BOk m (bfs u m S i)
 | 0=>h
 | i+1=>by
  unfold bfs
  split
  ·exact wj2 (wiw h i) m (Nat.le_refl _)
  ·exact wiw h i
theorem xd0 {u:Nat→Nat→Bool}{m:Nat}{S:BS}(h:BOk m S):∃L,L≤m∧(bfs u m S L).2.length≤L∧∀i,i<L→i<(bfs u m S i).2.length:=by
 have key:∀k,(∃L,L≤k∧(bfs u m S L).2.length≤L∧∀i,i<L→i<(bfs u m S i).2.length)∨∀i,i≤k→i<(bfs u m S i).2.length:=by
  intro k
  induction k with
  | zero =>
   by_cases h0:(bfs u m S 0).2.length≤0
   ·exact .inl ⟨0,Nat.le_refl _,h0,fun i hi=>by omega⟩
   ·exact .inr fun i hi=>by(obtain rfl:i=0:=by omega);omega
  | succ k ih =>
   rcases ih with⟨L,h1,h2,h3⟩|ih
   ·exact .inl ⟨L,by omega,h2,h3⟩
   ·by_cases h0:(bfs u m S (k+1)).2.length≤k+1
    ·exact .inl ⟨k+1,Nat.le_refl _,h0,fun i hi=>ih i (by omega)⟩
    ·refine .inr fun i hi => ?_
     by_cases e:i=k+1
     ·subst e;omega
     ·exact ih i (by omega)
 rcases key m with h1|h1
 ·exact h1
 ·have h2:=h1 m (Nat.le_refl _)
  have:=(wiw (u:=u) h m).2.2
  omega
def ea (E:List P2) (i:Nat):Nat:=(E.getD i (0,0,())).1.toNat
def eb (E:List P2) (i:Nat):Nat:=(E.getD i (0,0,())).2.1.toNat
def eup (n:Nat) (le:Nat→Nat→Bool) (E:List P2) (i k:Nat):Bool:=persp n le (ea E i) (eb E i) (ea E k) (eb E k)
theorem edgMem {n:Nat}{le:Nat→Nat→Bool}:∀{m:Nat}{e:P2},e∈edg n le m↔∃a b:Nat,a<m∧b<n∧cov n le a b=true∧e=((a:Int),(b:Int),())
 | 0,e=>by simp[edg]
 | m+1,e=>by
  show e∈edg n le m++edR n le m n↔_
  rw[List.mem_append,edgMem]
  unfold edR
  simp only[List.mem_map,fl_mem]
  refine⟨?_, ?_⟩
  ·rintro (⟨a,b,h1,h2,h3,h4⟩|⟨b,⟨h1,h2⟩,rfl⟩)
   ·exact⟨a,b,by omega,h2,h3,h4⟩
   ·exact⟨m,b,by omega,h1,h2,rfl⟩
  ·rintro⟨a,b,h1,h2,h3,rfl⟩
   by_cases e:a=m
   ·subst e;exact .inr ⟨b,⟨h2,h3⟩,rfl⟩
   ·exact .inl ⟨a,b,by omega,h2,h3,rfl⟩
theorem wub (n:Nat) (P:Nat→Bool):(fl n P).Nodup:=List.nodup_range.filter _
theorem wpg {α β:Type}{f:α→β}(hf:∀a b,f a=f b→a=b):∀{l:List α},l.Nodup→(l.map f).Nodup
 | [],_=>List.nodup_nil
 | a::l,h=>by
  rw[List.nodup_cons]at h
  rw[List.map_cons,List.nodup_cons]
  refine⟨fun hm => ?_,wpg hf h.2⟩
  obtain⟨b,hb,e⟩:=List.mem_map.1 hm
  exact h.1 (hf _ _ e▸hb)
theorem wiy (n:Nat) (le:Nat→Nat→Bool):∀m,(edg n le m).Nodup
 | 0=>List.nodup_nil
 | m+1=>by
  show(edg n le m++edR n le m n).Nodup
  rw[List.nodup_append]
  refine⟨wiy n le m,wpg (fun a b e => ?_) (wub _ _),fun x hx y hy e => ?_⟩
  ·simp only[Prod.mk.injEq,true_and,and_true]at e
   omega
  ·subst e
   obtain⟨a,b,h1,_,_,rfl⟩:=edgMem.1 hx
   unfold edR at hy
   obtain⟨c,_,e⟩:=List.mem_map.1 hy
   simp only[Prod.mk.injEq]at e
   have:=e.1
   omega
theorem wa8 {n:Nat}{le:Nat→Nat→Bool}{i:Nat}(hi:i<(edg n le n).length):(edg n le n)[i]=(((ea (edg n le n) i:Nat):Int),((eb (edg n le n) i:Nat):Int),())∧ea (edg n le n) i<n∧eb (edg n le n) i<n:=by
 obtain⟨a,b,h1,h2,_,e⟩:=edgMem.1 (List.getElem_mem hi)
 have e1:(edg n le n).getD i (0,0,())=((a:Int),(b:Int),()):=by
  rw[List.getD_eq_getElem?_getD,List.getElem?_eq_getElem hi,e];rfl
 have e2:ea (edg n le n) i=a:=by unfold ea;rw[e1];simp
 have e3:eb (edg n le n) i=b:=by unfold eb;rw[e1];simp
 rw[e2,e3]
 exact⟨e,h1,h2⟩
def pick (E:List P2) (s:List Bool) (k:Nat):List P2:=(List.range k).filterMap fun i=>if s[i]? = some true then E[i]? else none
theorem wpi {E:List P2}{s:List Bool}{k:Nat}(hk:k<E.length) (hs:k<s.length):pick E s (k+1)=if s[k] then pick E s k++[E[k]] else pick E s k:=by
 unfold pick
 rw[List.range_succ,List.filterMap_append,List.filterMap_cons,List.filterMap_nil,List.getElem?_eq_getElem hs,List.getElem?_eq_getElem hk]
 cases s[k]<;>simp
theorem wkh (E:List P2) (s:List Bool) (k:Nat):(pick E s k).length≤k:=Nat.le_trans (List.length_filterMap_le _ _) (by simp)
section
variable {n:Nat} {le:Nat→Nat→Bool}
theorem atIs {α:Type}{l:List α}{i:Nat}(h:i<l.length){β:Type}{k:α→Option β}:((atI l (i:Int)).bind fun _=>(l[i]?).bind k)=k l[i]:=by
 rw[jf l i h,obS,List.getElem?_eq_getElem h,obS]
def start (m x:Nat):BS:=((List.replicate m false).set x true,[x])
theorem wur {m x:Nat}(hx:x<m):BOk m (start m x):=by
 unfold start
 refine⟨by simp,by simpa using hx, ?_⟩
 have hl:x<(List.replicate m false).length:=by simpa using hx
 rw[List.count_set hl]
 simp
 omega
abbrev MP:=List ((Int×(Int×Unit))×Bool)
def knows (E:List P2) (mp:MP) (s:List Bool):Prop:=∀i (h:i<E.length),Option.getD (mget K2 .bool mp E[i]) false=s.getD i false
def lineOf (E:List P2) (l:List Nat):List P2:=l.map fun i=>E.getD i (0,0,())
theorem xd4 (h:LatP n le) (h8:n≤8){S:BS}{mp:MP}{i x:Nat}(hS:BOk (edg n le n).length S) (hk:knows (edg n le n) mp S.1) (hx:S.2[i]? = some x){rec:Option (List (List Bool)×List (List Int)×List (List Int)×Unit)→MP→List P2→Int→Option ((List P2×Bool×Unit)×Unit)}{k:Option (List (List Bool)×List (List Int)×List (List Int)×Unit)→MP→Option ((List P2×Bool×Unit)×Unit)}{res:Option ((List P2×Bool×Unit)×Unit)}
  (hres:∀mp',knows (edg n le n) mp' (insK (eup n le (edg n le n)) x S (edg n le n).length).1→rec (some (lat n le)) mp' (lineOf (edg n le n) (insK (eup n le (edg n le n)) x S (edg n le n).length).2) (IntKind.i64.wrap ((i:Int)+1))=res) :
  zr big rec k (some (lat n le)) mp (lineOf (edg n le n) S.2) (i:Int) (edg n le n) ((edg n le n).length:Int) (0:Int)=res:=by
 have hm:=wu n le n
 have b3:n*n≤8*8:=Nat.mul_le_mul h8 h8
 have hnd:=wiy n le n
 generalize hE:edg n le n=E at *
 have form:∀{j:Nat} (hj:j<E.length),E[j]=(((ea E j:Nat):Int),((eb E j:Nat):Int),())∧ea E j<n∧eb E j<n:=by
  intro j hj
  subst hE
  exact wa8 hj
 have hxm:x<E.length:=hS.2.1 x (List.mem_of_getElem? hx)
 refine xdo E.length (fun j mp' l=>knows E mp' (insK (eup n le E) x S j).1∧l=lineOf E (insK (eup n le E) x S j).2) (by omega) ?_ ?_ 0 (by omega) _ _ ⟨hk,rfl⟩
 ·intro rc j mp' l hj ⟨e1,e2⟩ ih
  have hT:=wj2 (u:=eup n le E) (x:=x) hS j (by omega)
  have keep:(insK (eup n le E) x S j).2[i]? = some x:=by
   have:∀j,(insK (eup n le E) x S j).2[i]? = some x:=by
    intro j
    induction j with
    | zero=>exact hx
    | succ j ihj =>
     show(stp (eup n le E) x (insK (eup n le E) x S j) j).2[i]? = some x
     unfold stp
     split
     ·rw[List.getElem?_append_left (List.getElem?_eq_some_iff.1 ihj).1];exact ihj
     ·exact ihj
   exact this j
  have hstep:insK (eup n le E) x S (j+1)=stp (eup n le E) x (insK (eup n le E) x S j) j:=rfl
  generalize insK (eup n le E) x S j=T at *
  subst e2
  obtain⟨l1,l2,l3⟩:=hT
  have hjs:j<T.1.length:=by omega
  have hil:i<T.2.length:=(List.getElem?_eq_some_iff.1 keep).1
  have hix:T.2[i]=x:=(List.getElem?_eq_some_iff.1 keep).2
  obtain⟨fj,ja,jb⟩:=form hj
  obtain⟨fx,xa,xb⟩:=form hxm
  have hlen:(lineOf E T.2).length=T.2.length:=by simp[lineOf]
  have hcl:i<(lineOf E T.2).length:=by omega
  have hci:(lineOf E T.2)[i]=E[x]:=by
   simp only[lineOf,List.getElem_map,hix]
   rw[List.getD_eq_getElem?_getD,List.getElem?_eq_getElem hxm]
   rfl
  have e1j:=e1 j hj
  unfold wef
  simp only[Int.toNat_natCast]
  rw[cdt (by omega),atIs hj,wr1 (by omega)]
  have hgd:T.1.getD j false=T.1[j]:=by rw[List.getD_eq_getElem?_getD,List.getElem?_eq_getElem hjs];rfl
  have e1j:Option.getD (mget (.pair I (.pair I .unit)) .bool mp' E[j]) false=T.1[j]:=e1j.trans hgd
  rw[e1j]
  cases hs:T.1[j] with
  | true =>
   rw[Bool.not_true,cond_false]
   exact ih _ _ (by rw[hstep];unfold stp;rw[if_neg (by rw[List.getElem?_eq_getElem hjs,hs];simp)];exact⟨e1,rfl⟩)
  | false =>
   simp only[Bool.not_false,cond_true,atIs hcl,hci,fx,fj,wy h xb ja,wy h jb xa,obS]
   have q1:persp n le (ea E x) (eb E x) (ea E j) (eb E j)=eup n le E x j:=rfl
   have q2:persp n le (ea E j) (eb E j) (ea E x) (eb E x)=eup n le E j x:=rfl
   rw[q1,q2,←fj]
   have hl:T.2.length≤64:=by omega
   by_cases hu:(eup n le E x j||eup n le E j x)=true
   ·have hn:stp (eup n le E) x T j=(T.1.set j true,T.2++[j]):=by unfold stp;rw[if_pos ⟨by rw[List.getElem?_eq_getElem hjs,hs],hu⟩]
    have hcs:lineOf E (T.2++[j])=lineOf E T.2++[E[j]]:=by
     simp only[lineOf,List.map_append,List.map_cons,List.map_nil]
     rw[List.getD_eq_getElem?_getD,List.getElem?_eq_getElem hj]
     rfl
    have hkn:knows E (mput K2 .bool mp' E[j] true) (T.1.set j true):=by
     intro k hkl
     rw[wiz]
     have hks:k<T.1.length:=by omega
     by_cases hkj:k=j
     ·subst hkj
      rw[if_pos rfl,List.getD_eq_getElem?_getD,List.getElem?_set_self hjs]
     ·rw[if_neg (fun e=>hkj ((List.getElem_inj hnd).1 e)),e1 k hkl,List.getD_eq_getElem?_getD,List.getD_eq_getElem?_getD,List.getElem?_set_ne (Ne.symm hkj)]
    cases h1:eup n le E x j with
    | true =>
     simp only[cond_true]
     rw[app1 (by omega),obS]
     exact ih _ _ (by rw[hstep,hn];exact⟨hkn,hcs.symm⟩)
    | false =>
     rw[h1,Bool.false_or]at hu
     simp only[cond_false,hu,cond_true]
     rw[app1 (by omega),obS]
     exact ih _ _ (by rw[hstep,hn];exact⟨hkn,hcs.symm⟩)
   ·have hn:stp (eup n le E) x T j=T:=by unfold stp;rw[if_neg (fun h=>hu h.2)]
    simp only[Bool.or_eq_true,not_or,Bool.not_eq_true]at hu
    rw[hu.1,hu.2,cond_false,cond_false]
    exact ih _ _ (by rw[hstep,hn];exact⟨e1,rfl⟩)
 ·intro rc mp' l ⟨e1,e2⟩
  unfold wef
  rw[cdf (by omega),zt,e2]
  exact hres _ e1
theorem w9r {E:List P2}{s:List Bool}{mp:MP}(hm:E.length≤1000) (hs:s.length=E.length) (hk:knows E mp s):wt big mp [] E (E.length:Int) (0:Int)=some ((pick E s E.length,true,()),()):=by
 refine xdp E.length (fun j o=>o=pick E s j) (by omega) ?_ ?_ 0 (by omega) _ rfl
 ·intro rc j o hj ho ih
  have hjs:j<s.length:=by omega
  have hp:=wkh E s j
  have hkj:Option.getD (mget (.pair I (.pair I .unit)) .bool mp E[j]) false=s[j]:=(hk j hj).trans (by rw[List.getD_eq_getElem?_getD,List.getElem?_eq_getElem hjs];rfl)
  unfold weg
  simp only[Int.toNat_natCast]
  rw[cdt (by omega),atIs hj,wr1 (by omega),hkj]
  cases hc:s[j] with
  | true =>
   rw[cond_true,app1 (by rw[ho];omega),obS]
   exact ih _ (by rw[ho,wpi hj hjs,hc];rfl)
  | false=>exact ih _ (by rw[ho,wpi hj hjs,hc];rfl)
 ·intro rc o ho
  unfold weg
  rw[cdf (by omega),zu,ho]
theorem w9q (h:LatP n le) (h8:n≤8){S:BS}{mp:MP}(hS:BOk (edg n le n).length S) (hk:knows (edg n le n) mp S.1){L:Nat}(hL:L≤(edg n le n).length) (h1:(bfs (eup n le (edg n le n)) (edg n le n).length S L).2.length≤L) (h2:∀i,i<L→i<(bfs (eup n le (edg n le n)) (edg n le n).length S i).2.length) :
  wnq big (some (lat n le)) mp (lineOf (edg n le n) S.2) (0:Int)=some ((pick (edg n le n) (bfs (eup n le (edg n le n)) (edg n le n).length S L).1 (edg n le n).length,true,()),()):=by
 have hm:=wu n le n
 have b3:n*n≤8*8:=Nat.mul_le_mul h8 h8
 refine xgd L (fun i mp' l=>knows (edg n le n) mp' (bfs (eup n le (edg n le n)) (edg n le n).length S i).1∧l=lineOf (edg n le n) (bfs (eup n le (edg n le n)) (edg n le n).length S i).2) (by omega) ?_ ?_ 0 (by omega) _ _ ⟨hk,rfl⟩
 ·intro rc i mp' l hi ⟨e1,e2⟩ ih
  have hT:=wiw (u:=eup n le (edg n le n)) hS i
  have hlt:=h2 i hi
  have hll:l.length=(bfs (eup n le (edg n le n)) (edg n le n).length S i).2.length:=by rw[e2];simp[lineOf]
  unfold weh
  rw[cdt (by omega),obS,lat1,y6 (by omega),obS,e2]
  refine xd4 h h8 hT e1 (List.getElem?_eq_getElem hlt) fun mp2 hk2 => ?_
  rw[wr1 (by omega)]
  refine ih _ _ ?_
  have:bfs (eup n le (edg n le n)) (edg n le n).length S (i+1)=insK (eup n le (edg n le n)) ((bfs (eup n le (edg n le n)) (edg n le n).length S i).2[i]) (bfs (eup n le (edg n le n)) (edg n le n).length S i) (edg n le n).length:=by
   rw[bfs,List.getElem?_eq_getElem hlt]
  rw[this]
  exact⟨hk2,rfl⟩
 ·intro rc mp' l ⟨e1,e2⟩
  have hT:=wiw (u:=eup n le (edg n le n)) hS L
  have hll:l.length=(bfs (eup n le (edg n le n)) (edg n le n).length S L).2.length:=by rw[e2];simp[lineOf]
  unfold weh
  rw[cdf (by omega),yt,obS,lat1,y6 (by omega),obS,w9r (by omega) hT.1 e1]
end
abbrev Cu:=List Int×Int×Int×Unit
def COk (k:Nat) (c:Cu):Prop:=0≤c.2.1∧c.2.1+k≤4611686018427387904∧c.1.length≤65536∧∀x∈c.1,0≤x∧x≤255
theorem and255 (x:Int):∃n:Nat,n≤255∧bitI .and .u64 x 255=(n:Int):=by
 refine⟨(BitVec.ofInt IntKind.u64.bits x &&& BitVec.ofInt IntKind.u64.bits 255).toNat, ?_, ?_⟩
 ·rw[BitVec.toNat_and]
  exact Nat.le_trans Nat.and_le_right (by decide)
 ·have h:(BitVec.ofInt IntKind.u64.bits x &&& BitVec.ofInt IntKind.u64.bits 255).toNat≤255:=by
   rw[BitVec.toNat_and]
   exact Nat.le_trans Nat.and_le_right (by decide)
  unfold bitI
  exact IntWalk.u64_in _ (by omega)
theorem wt7 {k:Nat}{c:Cu}(h:COk (k+1) c):∃v c',V1 c=some (v,(c',()))∧0≤v∧v≤255∧COk k c':=by
 obtain⟨h0,h1,h2,h3⟩:=h
 obtain⟨l,a,s,u⟩:=c
 simp only at h0 h1 h2 h3
 have hw:IntKind.i64.wrap (a+1)=a+1:=wr (by omega) (by omega)
 have key:∀s':Int,COk k (l,a+1,s',u):=fun s'=>⟨by show 0≤a+1;omega,by show a+1+k≤_;omega,h2,h3⟩
 have tail:∀s':Int,∃v c',((shrI IntKind.u64 s' (40:Int)).bind fun xq=>some (IntKind.i64.wrap (bitI .and IntKind.u64 xq (255:Int)),((l,a+1,s',u),())))=some (v,(c',()))∧0≤v∧v≤255∧COk k c':=by
  intro s'
  obtain⟨n,hn,e⟩:=and255 (s'.fdiv (2 ^ min (40:Int).toNat IntKind.u64.bits))
  unfold shrI
  rw[if_neg (by omega),obS,e,wr (by omega) (by omega)]
  exact⟨_,_,rfl,by omega,by omega,key s'⟩
 unfold V1 V1_s
 dsimp only
 rw[hw]
 by_cases ha:a<(l.length:Int)
 ·rw[cdt ha]
  have hal:a.toNat<l.length:=by omega
  have e:atI l a=some l[a.toNat]:=by
   have:=jf l a.toNat hal
   rwa [show((a.toNat:Nat):Int)=a by omega]at this
  have hb:=h3 _ (List.getElem_mem hal)
  rw[e,obS]
  by_cases c:a+1≤(l.length:Int)
  ·rw[cdt c,wr (by omega) (by omega)]
   exact⟨_,_,rfl,hb.1,hb.2,key _⟩
  ·rw[cdf c]
   exact tail _
 ·rw[cdf ha]
  by_cases c:a+1≤(l.length:Int)
  ·rw[cdt c]
   exact⟨_,_,rfl,by omega,by omega,key _⟩
  ·rw[cdf c]
   exact tail _
theorem COk.mono {k j:Nat}{c:Cu}(h:COk k c) (hj:j≤k):COk j c:=by
 obtain⟨h0,h1,h2,h3⟩:=h
 exact⟨h0,by omega,h2,h3⟩
theorem wup {a n:Int}(ha:0≤a) (hn:0<n):∃v,remI a n=some v∧0≤v∧v<n:=by
 refine⟨a.tmod n, ?_,Int.tmod_nonneg n ha,Int.tmod_lt_of_pos a hn⟩
 unfold remI
 rw[if_neg (by omega)]
theorem we {k:Nat}{c:Cu}(h:COk (k+2) c) (n:Int):∃v c',V2 c n=some (v,(c',()))∧0≤v∧(1≤n→v<n)∧COk k c':=by
 unfold V2 V2_s
 by_cases h1:n≤1
 ·rw[cdt h1]
  exact⟨_,_,rfl,by omega,by omega,h.mono (by omega)⟩
 ·obtain⟨v,c1,e1,a1,a2,k1⟩:=wt7 (k:=k+1) h
  rw[cdf h1,e1,obS]
  by_cases h2:200<n
  ·obtain⟨v2,c2,e2,b1,b2,k2⟩:=wt7 k1
   rw[cdt h2]
   dsimp only
   rw[e2,obS]
   dsimp only
   rw[wr (n:=v*256) (by omega) (by omega),wr (by omega) (by omega)]
   obtain⟨z,ez,z0,z1⟩:=wup (a:=v*256+v2) (n:=n) (by omega) (by omega)
   rw[ez,obS]
   exact⟨_,_,rfl,z0,fun _=>z1,k2⟩
  ·rw[cdf h2]
   dsimp only
   obtain⟨z,ez,z0,z1⟩:=wup (a:=v) (n:=n) a1 (by omega)
   rw[ez,obS]
   exact⟨_,_,rfl,z0,fun _=>z1,k1.mono (by omega)⟩
theorem xh {k:Nat}{c:Cu}(h:COk (k+2) c) (n:Int):∃b c',V3 c n=some (b,(c',()))∧COk k c':=by
 obtain⟨v,c1,e1,_,_,k1⟩:=we h n
 unfold V3 V3_s
 rw[e1,obS]
 exact⟨_,_,rfl,k1⟩
theorem yx {k:Nat}{c:Cu}(h:COk (k+2) c){l:List Int}(hl:l≠[]):∃v c',V4 c l=some (v,(c',()))∧v∈l∧COk k c':=by
 obtain⟨v,c1,e1,h0,h1,k1⟩:=we h (l.length:Int)
 have hp:=List.length_pos_iff.2 hl
 have hv:=h1 (by omega)
 have hvl:v.toNat<l.length:=by omega
 have e:atI l v=some l[v.toNat]:=by
  have:=jf l v.toNat hvl
  rwa [show((v.toNat:Nat):Int)=v by omega]at this
 unfold V4 V4_s
 rw[e1,obS]
 dsimp only
 rw[e,obS]
 exact⟨_,_,rfl,List.getElem_mem hvl,k1⟩
def Codes (code:List Int):Prop:=code.length≤65536∧∀x∈code,0≤x∧x≤255
theorem Codes.start {code:List Int}(h:Codes code):COk 10000 (code,(0:Int),(0:Int),()):=⟨Int.le_refl _,by show(0:Int)+(10000:Nat)≤_;omega,h.1,h.2⟩
abbrev PTd:=List (List Int)×Unit
def DrP (m:Nat) (p:PTd):Prop:=p.1.length≤m∧∀r∈p.1,r.length≤m
theorem wt9 {n:Int}(h1 : -1000≤n) (h2:n≤1000){l:List Int}(hl:l.length≤1000):∃b,V7 big n l=some (b,())∧(b=true→∀x∈l,0≤x∧x<n):=by
 unfold V7 V7_s
 refine xgv (Q:=fun r=>∃b,r=some (b,())∧(b=true→∀x∈l,0≤x∧x<n)) l.length (fun i=>∀x∈l.take i,0≤x∧x<n) (by omega) (fun rc i hi hI hr => ?_) (fun rc hI => ?_) 0 (by omega) (by simp)
 ·unfold wnd
  rw[cdt (by omega),jf l i hi,obS,wwt,obS,wr (by omega) (by omega)]
  by_cases c:0≤l[i]∧l[i]≤n-1
  ·rw[decide_eq_true c]
   simp only[Bool.not_true,cond_false]
   rw[wr (by omega) (by omega)]
   refine hr fun x hx => ?_
   rw[List.take_succ_eq_append_getElem hi,List.mem_append,List.mem_singleton]at hx
   rcases hx with hx|rfl
   ·exact hI x hx
   ·omega
  ·rw[decide_eq_false c]
   simp only[Bool.not_false,cond_true]
   exact⟨_,rfl,fun h=>by cases h⟩
 ·unfold wnd wjp
  rw[cdf (by omega)]
  refine⟨_,rfl,fun _ => ?_⟩
  have hI:∀x∈l.take l.length,0≤x∧x<n:=hI
  rwa [List.take_of_length_le (Nat.le_refl _)]at hI
theorem wul {n:Nat}(hn:n≤1000){l:List Int}(hl:l.length≤1000):∃b,V8 big l (n:Int)=some (b,())∧(b=true→l.length=n∧∀x∈l,0≤x∧x<n):=by
 unfold V8 V8_s
 by_cases h:(l.length:Int)≠(n:Int)
 ·rw[cdt h]
  exact⟨_,rfl,fun h=>by cases h⟩
 ·rw[cdf h]
  have hln:l.length=n:=by omega
  obtain⟨b,e,hb⟩:=wt9 (n:=(n:Int)) (by omega) (by omega) hl
  rw[e,obS]
  cases b with
  | false=>exact⟨_,rfl,fun h=>by cases h⟩
  | true =>
   have hb:=hb rfl
   simp only[Bool.not_true,cond_false]
   rw[ug false n (by omega),obS,obS,cdt (by omega)]
   refine xgw (Q:=fun r=>∃b,r=some (b,())∧(b=true→l.length=n∧∀x∈l,0≤x∧x<n)) n (fun i s=>s.length=n) (by omega) (fun rc i s hi hI hr => ?_) (fun rc s hI => ?_) 0 (by omega) _ (by simp)
   ·unfold wni
    have hil:i<l.length:=by omega
    have hx:=hb _ (List.getElem_mem hil)
    have hxl:l[i].toNat<s.length:=by rw[hI];omega
    have ea:atI s l[i]=some s[l[i].toNat]:=by
     have:=jf s l[i].toNat hxl
     rwa [show((l[i].toNat:Nat):Int)=l[i] by omega]at this
    rw[cdt (by omega),jf l i hil,obS,ea,obS,List.getElem?_eq_getElem hxl,obS]
    cases s[l[i].toNat] with
    | true=>exact⟨_,rfl,fun h=>by cases h⟩
    | false =>
     rw[cond_false,obS,ea,obS,List.getElem?_eq_getElem hxl,obS,wr (by omega) (by omega)]
     exact hr _ (by simpa using hI)
   ·unfold wni wjq
    rw[cdf (by omega)]
    exact⟨_,rfl,fun _=>⟨hln,hb⟩⟩
theorem woa {k n:Nat}(hn:n≤1000){c:Cu}(h:COk (k+2*n+6) c):∃l c',V5 big c (n:Int)=some (l,(c',()))∧l.length≤n+1∧COk k c':=by
 unfold V5 V5_s
 refine xgu (Q:=fun r=>∃l c',r=some (l,(c',()))∧l.length≤n+1∧COk k c') n (fun i c l=>l.length=i∧COk (k+2*(n-i)+6) c) (by omega) (fun rc i c l hi hI hr => ?_) (fun rc c l hI => ?_) 0 (by omega) _ _ ⟨rfl,by simpa using h⟩
 ·obtain⟨hl,hc⟩:=hI
  unfold wmj
  obtain⟨v,c',e,v0,v1,hc'⟩:=we (k:=k+2*(n-(i+1))+6) (hc.mono (by omega)) ((l.length:Int)+1)
  have hv:=v1 (by omega)
  rw[cdt (by omega),wr (n:=(l.length:Int)+1) (by omega) (by omega),e,obS]
  dsimp only
  have s1:slI l 0 v=some ((l.drop 0).take (v-0).toNat):=by unfold slI;rw[if_pos (by omega)];rfl
  have s2:slI l v (l.length:Int)=some ((l.drop v.toNat).take ((l.length:Int)-v).toNat):=by unfold slI;rw[if_pos (by omega)]
  rw[s1,obS,jk (by simp;omega),obS,jk (by simp;omega),obS,s2,obS,jk (by simp;omega),obS,wr (by omega) (by omega)]
  refine hr _ _ ⟨?_,hc'⟩
  simp
  omega
 ·obtain⟨hl,hc⟩:=hI
  unfold wmj wjj
  rw[cdf (by omega)]
  obtain⟨v,c',e,v0,v1,hc'⟩:=we (k:=k+4) (hc.mono (by omega)) 24
  rw[e,obS]
  dsimp only
  by_cases h0:v=0
  ·rw[cdt h0,jk (by simp;omega),obS]
   exact⟨_,_,rfl,by simp[hl],hc'.mono (by omega)⟩
  ·rw[cdf h0]
   by_cases h1:v=1
   ·rw[cdt h1]
    by_cases h2:(0:Int)<n
    ·rw[cdt h2]
     obtain⟨v2,c2,e2,a0,a1,hc2⟩:=we (k:=k+2) (hc'.mono (by omega)) (n:Int)
     have ha:=a1 (by omega)
     obtain⟨v3,c3,e3,_,hc3⟩:=yx (k:=k) hc2 (l:=[(0:Int), -1,(n:Int)]) (by simp)
     have hvl:v2.toNat<l.length:=by omega
     have ea:atI l v2=some l[v2.toNat]:=by
      have:=jf l v2.toNat hvl
      rwa [show((v2.toNat:Nat):Int)=v2 by omega]at this
     rw[e2,obS]
     dsimp only
     rw[e3,obS]
     dsimp only
     rw[ea,obS,List.getElem?_eq_getElem hvl,obS]
     exact⟨_,_,rfl,by simp[hl],hc3⟩
    ·rw[cdf h2]
     exact⟨_,_,rfl,by omega,hc'.mono (by omega)⟩
   ·rw[cdf h1]
    exact⟨_,_,rfl,by omega,hc'.mono (by omega)⟩
def MX (n:Nat) (m:List (List Bool)):Prop:=m.length=n∧(∀r∈m,r.length=n)∧∀i,i<n→∃r,m[i]? = some r∧r[i]? = some true
theorem MX.set {n:Nat}{m:List (List Bool)}(h:MX n m){x y:Nat}{r:List Bool}(hr:m[x]? = some r){v:Bool}(hv:x=y→v=true):MX n (m.set x (r.set y v)):=by
 obtain⟨h1,h2,h3⟩:=h
 have hx:=(List.getElem?_eq_some_iff.1 hr).1
 refine⟨by simpa using h1,fun q hq => ?_,fun i hi => ?_⟩
 ·rcases List.mem_or_eq_of_mem_set hq with hq|rfl
  ·exact h2 q hq
  ·rw[List.length_set];exact h2 r (List.mem_of_getElem? hr)
 ·obtain⟨q,q1,q2⟩:=h3 i hi
  by_cases e:x=i
  ·subst e
   rw[hr]at q1
   cases q1
   refine⟨_,by rw[List.getElem?_set_self hx], ?_⟩
   by_cases e:y=x
   ·subst e
    have hl:y<r.length:=(List.getElem?_eq_some_iff.1 q2).1
    rw[List.getElem?_set_self hl,hv rfl]
   ·rw[List.getElem?_set_ne e];exact q2
  ·exact⟨q,by rw[List.getElem?_set_ne e];exact q1,q2⟩
theorem MX.at {n:Nat}{m:List (List Bool)}(h:MX n m){x y:Nat}(hx:x<n) (hy:y<n):∃r v,m[x]? = some r∧atI m (x:Int)=some r∧r[y]? = some v∧atI r (y:Int)=some v∧(x=y→v=true):=by
 obtain⟨h1,h2,h3⟩:=h
 have hl:x<m.length:=by omega
 have hr:=h2 _ (List.getElem_mem hl)
 have hyl:y<(m[x]).length:=by omega
 refine⟨m[x],(m[x])[y],List.getElem?_eq_getElem hl,jf m x hl,List.getElem?_eq_getElem hyl,jf _ y hyl,fun e => ?_⟩
 subst e
 obtain⟨q,q1,q2⟩:=h3 x hx
 rw[List.getElem?_eq_getElem hl]at q1
 cases q1
 rw[List.getElem?_eq_getElem hyl]at q2
 exact Option.some.inj q2
def Fr (n:Nat) (r:Option (PTd×Unit)):Prop:=∃p:PTd,r=some (p,())∧p.1.length=n∧∀q∈p.1,1≤q.length∧q.length≤n
theorem w8f {n:Nat}(hn:n≤100){t4:PTd}{m:List (List Bool)}(hm:MX n m):Fr n (xl big (n:Int) t4 m ([],()) (0:Int)):=by
 refine xgj (Q:=Fr n) n (fun i p=>p.1.length=i∧∀q∈p.1,1≤q.length∧q.length≤n) (by omega) (fun rc i p hi hI hr => ?_) (fun rc p hI => ?_) 0 (by omega) _ ⟨rfl,by simp⟩
 ·obtain⟨hI1,hI2⟩:=hI
  unfold wep
  rw[cdt (by omega)]
  refine xgk (Q:=Fr n) n (fun j b=>b.length≤j∧(i<j→1≤b.length)) (by omega) (fun rc2 j b hj hJ hr2 => ?_) (fun rc2 b hJ => ?_) 0 (by omega) _ ⟨by simp,by omega⟩
  ·unfold wiv
   obtain⟨r,v,e1,e2,e3,e4,e5⟩:=hm.at hj hi
   rw[cdt (by omega),e2,obS,Int.toNat_natCast,e1,obS,obS,e4,obS,obS,Int.toNat_natCast,e3,obS]
   cases v with
   | true =>
    rw[cond_true,jk (by simp;omega),obS,wr (by omega) (by omega)]
    exact hr2 _ ⟨by simp;omega,fun _=>by simp⟩
   | false =>
    rw[cond_false,wr (by omega) (by omega)]
    refine hr2 _ ⟨by omega,fun h=>hJ.2 ?_⟩
    rcases Nat.lt_or_ge i j with h'|h'
    ·exact h'
    ·have:j=i:=by omega
     exact absurd (e5 this) (by simp)
  ·unfold wiv wem
   rw[cdf (by omega),jk (by simp;omega),obS,wr (by omega) (by omega)]
   refine hr _ ⟨by simp[hI1],fun q hq => ?_⟩
   rcases List.mem_append.1 hq with hq|hq
   ·exact hI2 q hq
   ·rw[List.mem_singleton]at hq
    subst hq
    exact⟨hJ.2 hi,hJ.1⟩
 ·unfold wep yw
  rw[cdf (by omega)]
  exact⟨_,rfl,hI.1,hI.2⟩
theorem w0g {n:Nat}(hn:n≤100){t4:PTd}{m:List (List Bool)}(hm:MX n m):Fr n (wau big (n:Int) t4 m (0:Int)):=by
 refine xgg (Q:=Fr n) n (fun _ m=>MX n m) (by omega) (fun rc z m hz hm hr => ?_) (fun rc m hm => ?_) 0 (by omega) _ hm
 ·unfold wen
  rw[cdt (by omega)]
  refine xgh (Q:=Fr n) n (fun _ m=>MX n m) (by omega) (fun rc x m hx hm hr2 => ?_) (fun rc m hm => ?_) 0 (by omega) _ hm
  ·unfold weo
   rw[cdt (by omega)]
   refine xgi (Q:=Fr n) n (fun _ m=>MX n m) (by omega) (fun rc y m hy hm hr3 => ?_) (fun rc m hm => ?_) 0 (by omega) _ hm
   ·unfold wiu
    obtain⟨r,v,e1,e2,e3,e4,e5⟩:=hm.at hx hy
    obtain⟨r',v',f1,f2,f3,f4,f5⟩:=hm.at hx hz
    rw[e1]at f1
    cases f1
    obtain⟨s,u,g1,g2,g3,g4,g5⟩:=hm.at hz hy
    simp only[Int.toNat_natCast,cdt (show(y:Int)<n by omega),e1,e2,e3,e4,f3,f4,g1,g2,g3,g4,obS]
    rw[wr (by omega) (by omega),show(y:Int)+1=((y+1:Nat):Int) by omega]
    cases v with
    | true =>
     rw[cond_true]
     exact hr3 _ (hm.set e1 fun _=>rfl)
    | false =>
     have hxy:x≠y:=fun e=>by have:=e5 e;cases this
     rw[cond_false]
     cases v' with
     | true=>rw[cond_true];exact hr3 _ (hm.set e1 fun e=>absurd e hxy)
     | false=>rw[cond_false];exact hr3 _ (hm.set e1 fun e=>absurd e hxy)
   ·unfold wiu wel
    rw[cdf (by omega),wr (by omega) (by omega)]
    exact hr2 _ hm
  ·unfold weo yv
   rw[cdf (by omega),wr (by omega) (by omega)]
   exact hr _ hm
 ·unfold wen yu
  rw[cdf (by omega)]
  exact w8f hn hm
theorem wuc {n:Nat}(hn:n≤100){ps:List (Int×(Int×Unit))}(hl:ps.length≤100000) (hp:∀p∈ps,(0≤p.1∧p.1<n)∧0≤p.2.1∧p.2.1<n):Fr n (V9 big (n:Int) ps):=by
 unfold V9 V9_s
 refine xgx (Q:=Fr n) n (fun i m=>m.length=i∧(∀r∈m,r.length=n)∧∀j,j<i→∃r,m[j]? = some r∧r[j]? = some true) (by omega) (fun rc i m hi hI hr => ?_) (fun rc m hI => ?_) 0 (by omega) _ ⟨rfl,by simp,by omega⟩
 ·obtain⟨h1,h2,h3⟩:=hI
  unfold wn3
  have hil:i<(List.replicate n false).length:=by simpa using hi
  rw[cdt (by omega),ug false n (by omega),obS,obS,cdt (by omega),jf _ i hil,obS,Int.toNat_natCast,List.getElem?_eq_getElem hil,obS,jk (by simp;omega),obS,wr (by omega) (by omega)]
  refine hr _ ⟨by simp[h1],fun r hr => ?_,fun j hj => ?_⟩
  ·rcases List.mem_append.1 hr with hr|hr
   ·exact h2 r hr
   ·rw[List.mem_singleton]at hr;rw[hr];simp
  ·by_cases e:j<i
   ·obtain⟨r,r1,r2⟩:=h3 j e
    exact⟨r,by rw[List.getElem?_append_left (by omega)];exact r1,r2⟩
   ·have e:j=i:=by omega
    subst e
    refine⟨_,by rw[List.getElem?_append_right (by omega),h1,Nat.sub_self];rfl, ?_⟩
    rw[List.getElem?_set_self hil]
 ·unfold wn3 wju
  rw[cdf (by omega)]
  refine xgy (Q:=Fr n) ps.length (fun _ m=>MX n m) (by omega) (fun rc i m hi hm hr => ?_) (fun rc m hm => ?_) 0 (by omega) _ hI
  ·unfold wn4
   obtain⟨⟨a0,a1⟩,b0,b1⟩:=hp _ (List.getElem_mem hi)
   generalize hq:ps[i]=q at a0 a1 b0 b1
   obtain⟨x,y,u⟩:=q
   simp only at a0 a1 b0 b1
   obtain⟨x,rfl⟩:∃x':Nat,x=(x':Int):=⟨x.toNat,by omega⟩
   obtain⟨y,rfl⟩:∃y':Nat,y=(y':Int):=⟨y.toNat,by omega⟩
   obtain⟨r,v,e1,e2,e3,e4,e5⟩:=hm.at (x:=x) (y:=y) (by omega) (by omega)
   have ea:atI ps (i:Int)=some ((x:Int),((y:Int),u)):=by rw[jf ps i hi,hq]
   simp only[Int.toNat_natCast,cdt (show(i:Int)<ps.length by omega),ea,e1,e2,e3,e4,obS]
   rw[wr (by omega) (by omega)]
   exact hr _ (hm.set e1 fun _=>rfl)
  ·unfold wn4 wjv
   rw[cdf (by omega)]
   exact w0g hn hm
theorem xeb {l:List Int}(hl:l.length≤1000000) (n:Int):∃l',V10 big l n=some (l',())∧l'.length≤l.length+1:=by
 have done:∀i:Nat,i≤l.length→∃l',zz l n (i:Int)=some (l',())∧l'.length≤l.length+1:=by
  intro i hi
  unfold zz
  have s1:slI l 0 (i:Int)=some ((l.drop 0).take i):=by unfold slI;rw[if_pos (by omega)];simp
  have s2:slI l (i:Int) (l.length:Int)=some ((l.drop i).take (l.length-i)):=by unfold slI;rw[if_pos (by omega),show((l.length:Int)-(i:Int)).toNat=l.length-i by omega,Int.toNat_natCast]
  have tail:∃l',((slI l 0 (i:Int)).bind fun xq8=>(appI [] xq8).bind fun xq9=>(appI xq9 [n]).bind fun xq10=>(slI l (i:Int) (l.length:Int)).bind fun xq11=>(appI xq10 xq11).bind fun xq12=>some (xq12,(())))=some (l',())∧l'.length≤l.length+1:=by
   rw[s1,obS,jk (by simp;omega),obS,jk (by simp;omega),obS,s2,obS,jk (by simp;omega),obS]
   exact⟨_,rfl,by simp;omega⟩
  by_cases h:i<l.length
  ·rw[cdt (by omega),jf l i h,obS]
   by_cases c:l[i]=n
   ·rw[cdt c];exact⟨l,rfl,by omega⟩
   ·rw[cdf c];exact tail
  ·rw[cdf (by omega)];exact tail
 unfold V10 wwz
 refine xed (Q:=fun r=>∃l',r=some (l',())∧l'.length≤l.length+1) l.length (fun _=>True) (by omega) (fun rc i hi _ hr => ?_) (fun rc _ => ?_) 0 (by omega) trivial
 ·unfold wfe
  rw[cdt (by omega),jf l i hi,obS]
  by_cases c:l[i]<n
  ·rw[cdt c,wr (by omega) (by omega)];exact hr trivial
  ·rw[cdf c];exact done i (by omega)
 ·unfold wfe
  rw[cdf (by omega)]
  exact done _ (by omega)
def Dq (m k:Nat) (r:Option (PTd×(Cu×Unit))):Prop:=∃p c',r=some (p,(c',()))∧DrP m p∧COk k c'
theorem w0o {k:Nat}{t2:PTd}{p:PTd}{c:Cu}(hp:p.1.length≤11) (hr:∀r∈p.1,r.length≤12) (hc:COk (k+2*(12-p.1.length)+2) c):Dq 12 k (wh big c t2 p):=by
 refine xbe (Q:=Dq 12 k) (fun _ p=>12-p.1.length) (fun c p=>p.1.length≤11∧(∀r∈p.1,r.length≤12)∧COk (k+2*(12-p.1.length)+2) c) (fun rc c p hI hrec => ?_) c p (by omega) ⟨hp,hr,hc⟩
 obtain⟨h1,h2,h3⟩:=hI
 unfold wof wbh
 obtain⟨v,c',e,v0,v1,hc'⟩:=we (k:=k+2*(12-p.1.length)) h3 2
 have hv:=v1 (by omega)
 rw[e,obS]
 dsimp only
 rw[wr (by omega) (by omega)]
 by_cases c:(p.1.length:Int)<10+v
 ·rw[cdt c,jk (by simp;omega),obS]
  refine hrec _ _ ⟨by simp;omega,fun r hr => ?_, ?_⟩ (by simp;omega)
  ·rcases List.mem_append.1 hr with hr|hr
   ·exact h2 r hr
   ·rw[List.mem_singleton]at hr;rw[hr];simp
  ·simp only[List.length_append,List.length_singleton]
   exact hc'.mono (by omega)
 ·rw[cdf c]
  exact⟨_,_,rfl,⟨by omega,h2⟩,hc'.mono (by omega)⟩
theorem wi0 {k n:Nat}(hn:n≤7){t2:PTd}{c:Cu}{ps:List (Int×(Int×Unit))}(hl:ps.length≤1000) (hp:∀p∈ps,(0≤p.1∧p.1<n)∧0≤p.2.1∧p.2.1<n) (hc:COk (k+40) c) :
  Dq 12 k (xt (wh big) c t2 (n:Int) ps):=by
 obtain⟨p,e,p1,p2⟩:=wuc (n:=n) (by omega) (by omega) hp
 have hd:DrP 12 p:=⟨by omega,fun r hr=>by have:=p2 r hr;omega⟩
 unfold xt
 rw[e,obS]
 by_cases h0:(n:Int)=0
 ·rw[cdt h0]
  exact⟨_,_,rfl,hd,hc.mono (by omega)⟩
 ·rw[cdf h0]
  obtain⟨b,c1,e1,hc1⟩:=xh (k:=k+38) hc 16
  rw[e1,obS]
  cases b with
  | false=>exact⟨_,_,rfl,hd,hc1.mono (by omega)⟩
  | true =>
   simp only[Bool.not_true,cond_false]
   obtain⟨x,c2,e2,x0,x1,hc2⟩:=we (k:=k+36) hc1 (n:Int)
   have hx:=x1 (by omega)
   obtain⟨v,c3,e3,_,_,hc3⟩:=we (k:=k+34) hc2 4
   rw[e2,obS]
   dsimp only
   rw[e3,obS]
   dsimp only
   have hxl:x.toNat<p.1.length:=by omega
   have ea:atI p.1 x=some p.1[x.toNat]:=by
    have:=jf p.1 x.toNat hxl
    rwa [show((x.toNat:Nat):Int)=x by omega]at this
   have eb:p.1[x.toNat]? = some p.1[x.toNat]:=List.getElem?_eq_getElem hxl
   have hrow:=p2 _ (List.getElem_mem hxl)
   have upd:∀r:List Int,r.length≤12→DrP 12 (p.1.set x.toNat r,p.2):=fun r hr=>⟨by simp;omega,fun q hq=>by
    rcases List.mem_or_eq_of_mem_set hq with hq|rfl
    ·exact hd.2 q hq
    ·exact hr⟩
   simp only[ea,eb,obS]
   by_cases c0:v=0
   ·rw[cdt c0]
    have s1:slI p.1[x.toNat] (1:Int) (p.1[x.toNat].length:Int)=some ((p.1[x.toNat].drop 1).take (p.1[x.toNat].length-1)):=by unfold slI;rw[if_pos (by omega),show((p.1[x.toNat].length:Int)-1).toNat=p.1[x.toNat].length-1 by omega];rfl
    rw[s1,obS]
    exact⟨_,_,rfl,upd _ (by simp;omega),hc3.mono (by omega)⟩
   ·rw[cdf c0]
    by_cases c1:v=1
    ·rw[cdt c1,jk (by simp;omega),obS]
     exact⟨_,_,rfl,upd _ (by simp;omega),hc3.mono (by omega)⟩
    ·rw[cdf c1]
     by_cases c2':v=2
     ·rw[cdt c2']
      obtain⟨y,c4,e4,_,_,hc4⟩:=we (k:=k+32) hc3 (n:Int)
      obtain⟨l',e5,hl'⟩:=xeb (l:=p.1[x.toNat]) (by omega) y
      rw[e4,obS]
      dsimp only
      rw[e5,obS]
      exact⟨_,_,rfl,upd _ (by simp only;omega),hc4.mono (by omega)⟩
     ·rw[cdf c2']
      by_cases c3':v=3
      ·rw[cdt c3']
       exact w0o (by omega) (fun r hr=>by have:=p2 r hr;omega) (hc3.mono (by omega))
      ·rw[cdf c3']
       exact⟨_,_,rfl,hd,hc3.mono (by omega)⟩
theorem wod {n:Nat}{names:List Int}(hl:names.length=n) (hn:∀x∈names,0≤x∧x<n){x:Int}(h0:0≤x) (h1:x<n):∃v,atI names x=some v∧names[x.toNat]? = some v∧0≤v∧v<n:=by
 have hx:x.toNat<names.length:=by omega
 refine⟨names[x.toNat], ?_,List.getElem?_eq_getElem hx,hn _ (List.getElem_mem hx)⟩
 have:=jf names x.toNat hx
 rwa [show((x.toNat:Nat):Int)=x by omega]at this
theorem w8s {k:Nat}{c:Cu}(hc:COk (k+300) c):Dq 12 k (V11 big c):=by
 unfold V11 ww3
 obtain⟨n,c0,e,hn,hc0⟩:=yx (k:=k+298) hc (l:=[(0:Int),1,2,3,4,4,5,5,6,7]) (by simp)
 rw[e,obS]
 dsimp only
 obtain⟨n,rfl⟩:∃m:Nat,n=(m:Int):=⟨n.toNat,by simp at hn;omega⟩
 have hn7:n≤7:=by simp at hn;omega
 refine xee (Q:=Dq 12 k) n (fun i c ps=>ps.length≤i*n∧(∀p∈ps,(0≤p.1∧p.1<n)∧0≤p.2.1∧p.2.1<n)∧COk (k+100+2*(n*(n-i))) c) (by omega) (fun rc i c ps hi hI hr => ?_) (fun rc c ps hI => ?_) 0 (by omega) _ _ ⟨by simp,by simp,hc0.mono (by have:n*(n-0)≤7*7:=Nat.mul_le_mul hn7 (by omega);omega)⟩
 ·obtain⟨h1,h2,h3⟩:=hI
  unfold wbk
  rw[cdt (by omega),wr (by omega) (by omega),show(i:Int)+1=((i+1:Nat):Int) by omega]
  have hmul:n*(n-i)=n*(n-(i+1))+n:=by
   rw[show n-i=(n-(i+1))+1 by omega,Nat.mul_succ]
  have hmul2:(i+1)*n=i*n+n:=Nat.succ_mul i n
  refine xef (Q:=Dq 12 k) n (fun j c ps=>ps.length≤i*n+j∧(∀p∈ps,(0≤p.1∧p.1<n)∧0≤p.2.1∧p.2.1<n)∧COk (k+100+2*(n*(n-(i+1)))+2*(n-j)) c) (by omega) (fun rc2 j c ps hj hJ hr2 => ?_) (fun rc2 c ps hJ => ?_) (i+1) (by omega) _ _ ⟨by omega,h2,h3.mono (by omega)⟩
  ·obtain⟨j1,j2,j3⟩:=hJ
   unfold wfh
   obtain⟨b,c',e,hc'⟩:=xh (k:=k+100+2*(n*(n-(i+1)))+2*(n-(j+1))) (j3.mono (by omega)) 3
   have hin:i*n≤7*7:=Nat.mul_le_mul (by omega) hn7
   rw[cdt (by omega),e,obS,wr (by omega) (by omega)]
   cases b with
   | true =>
    rw[cond_true,jk (by simp;omega),obS]
    refine hr2 _ _ ⟨by simp;omega,fun p hp => ?_,hc'⟩
    rcases List.mem_append.1 hp with hp|hp
    ·exact j2 p hp
    ·rw[List.mem_singleton]at hp
     rw[hp]
     exact⟨⟨by simp,by simp;omega⟩,by simp,by simp;omega⟩
   | false =>
    rw[cond_false]
    exact hr2 _ _ ⟨by omega,j2,hc'⟩
  ·obtain⟨j1,j2,j3⟩:=hJ
   unfold wfh wbi
   rw[cdf (by omega),wr (by omega) (by omega)]
   exact hr _ _ ⟨by omega,j2,j3.mono (by omega)⟩
 ·obtain⟨h1,h2,h3⟩:=hI
  have hnn:n*n≤7*7:=Nat.mul_le_mul hn7 hn7
  unfold wbk ya
  rw[cdf (by omega)]
  obtain⟨names,c1,e1,hl1,hc1⟩:=woa (k:=k+60) (n:=n) (by omega) (h3.mono (by omega))
  obtain⟨b,e2,hb⟩:=wul (n:=n) (by omega) (l:=names) (by omega)
  rw[e1,obS]
  dsimp only
  rw[e2,obS]
  cases b with
  | false =>
   rw[cond_false]
   exact wi0 hn7 (by omega) h2 (hc1.mono (by omega))
  | true =>
   obtain⟨hb1,hb2⟩:=hb rfl
   obtain⟨b,c2,e3,hc2⟩:=xh (k:=k+58) hc1 2
   rw[cond_true,e3,obS]
   cases b with
   | false =>
    rw[cond_false]
    exact wi0 hn7 (by omega) h2 (hc2.mono (by omega))
   | true =>
    rw[cond_true]
    refine xbd (Q:=Dq 12 k) ps.length (fun _ qs=>qs.length=ps.length∧∀p∈qs,(0≤p.1∧p.1<n)∧0≤p.2.1∧p.2.1<n) (by omega) (fun rc2 i qs hi hI hr => ?_) (fun rc2 qs hI => ?_) 0 (by omega) _ ⟨rfl,h2⟩
    ·obtain⟨i1,i2⟩:=hI
     have hil:i<qs.length:=by omega
     obtain⟨⟨a0,a1⟩,b0,b1⟩:=i2 _ (List.getElem_mem hil)
     obtain⟨x,x1,x2,x3,x4⟩:=wod hb1 hb2 a0 a1
     obtain⟨y,y1,y2,y3,y4⟩:=wod hb1 hb2 b0 b1
     unfold wbj
     simp only[Int.toNat_natCast,cdt (show(i:Int)<qs.length by omega),jf qs i hil,List.getElem?_eq_getElem hil,x1,x2,y1,y2,obS]
     rw[wr (by omega) (by omega)]
     refine hr _ ⟨by simpa using i1,fun p hp => ?_⟩
     rcases List.mem_or_eq_of_mem_set hp with hp|rfl
     ·exact i2 p hp
     ·exact⟨⟨x3,x4⟩,y3,y4⟩
    ·obtain⟨i1,i2⟩:=hI
     unfold wbj
     rw[cdf (by omega)]
     exact wi0 hn7 (by omega) i2 (hc2.mono (by omega))
def okKnown (k:Nat):Bool:=match V13 (k:Int) with
 | some (p,())=>decide (p.1.length≤9)&&p.1.all (fun r=>decide (r.length≤9))&&(match V18 big p with
  | some (ps,())=>decide (ps.length≤100)&&ps.all fun q=>decide (0≤q.1)&&decide (q.1<(p.1.length:Int))&&decide (0≤q.2.1)&&decide (q.2.1<(p.1.length:Int))
  | none=>false)
 | none=>false
theorem wux:(List.range 12).all okKnown=true:=by kernel_rfl
theorem w8k {k:Int}(h0:0≤k) (h1:k<12):∃p ps,V13 k=some (p,())∧DrP 9 p∧V18 big p=some (ps,())∧ps.length≤100∧∀q∈ps,(0≤q.1∧q.1<p.1.length)∧0≤q.2.1∧q.2.1<p.1.length:=by
 have h:=List.all_eq_true.1 wux k.toNat (List.mem_range.2 (by omega))
 unfold okKnown at h
 rw[show((k.toNat:Nat):Int)=k by omega]at h
 split at h
 case h_2=>cases h
 rename_i p e
 simp only[Bool.and_eq_true,decide_eq_true_eq,List.all_eq_true]at h
 obtain⟨⟨h1,h2⟩,h3⟩:=h
 split at h3
 case h_2=>cases h3
 rename_i ps e2
 simp only[Bool.and_eq_true,decide_eq_true_eq,List.all_eq_true]at h3
 exact⟨p,ps,e,⟨h1,h2⟩,e2,h3.1,fun q hq=>by
  obtain⟨⟨⟨a,b⟩,c⟩,d⟩:=h3.2 q hq
  exact⟨⟨a,b⟩,c,d⟩⟩
theorem wuw {k:Nat}{c:Cu}(hc:COk (k+400) c):Dq 12 k (V19 big c):=by
 unfold V19 wxb
 obtain⟨b,c1,e1,hc1⟩:=xh (k:=k+398) hc 10
 rw[e1,obS]
 cases b with
 | true =>
  rw[cond_true]
  obtain⟨p,c2,e2,hp,hc2⟩:=w8s (k:=k+98) hc1
  rw[e2,obS]
  exact⟨_,_,rfl,hp,hc2.mono (by omega)⟩
 | false =>
  rw[cond_false]
  obtain⟨v,c2,e2,v0,v1,hc2⟩:=we (k:=k+396) hc1 12
  obtain⟨p,ps,e3,hp,e4,hl,hps⟩:=w8k v0 (v1 (by omega))
  have hp':DrP 12 p:=⟨by have:=hp.1;omega,fun r hr=>by have:=hp.2 r hr;omega⟩
  have hn:=hp.1
  obtain⟨names,c3,e5,hl1,hc3⟩:=woa (k:=k+300) (n:=p.1.length) (by omega) (hc2.mono (by omega))
  obtain⟨b,e6,hb⟩:=wul (n:=p.1.length) (by omega) (l:=names) (by omega)
  rw[e2,obS]
  dsimp only
  rw[e3,obS]
  dsimp only
  rw[e5,obS]
  dsimp only
  rw[e6,obS]
  cases b with
  | false=>exact⟨_,_,rfl,hp',hc3.mono (by omega)⟩
  | true =>
   obtain⟨hb1,hb2⟩:=hb rfl
   obtain⟨b,c4,e7,hc4⟩:=xh (k:=k+298) hc3 2
   rw[cond_true,e7,obS]
   cases b with
   | false=>exact⟨_,_,rfl,hp',hc4.mono (by omega)⟩
   | true =>
    rw[cond_true,e4,obS]
    refine xek (Q:=Dq 12 k) ps.length (fun _ qs=>qs.length=ps.length∧∀q∈qs,(0≤q.1∧q.1<p.1.length)∧0≤q.2.1∧q.2.1<p.1.length) (by omega) (fun rc2 i qs hi hI hr => ?_) (fun rc2 qs hI => ?_) 0 (by omega) _ ⟨rfl,hps⟩
    ·obtain⟨i1,i2⟩:=hI
     have hil:i<qs.length:=by omega
     obtain⟨⟨a0,a1⟩,b0,b1⟩:=i2 _ (List.getElem_mem hil)
     obtain⟨x,x1,x2,x3,x4⟩:=wod hb1 hb2 a0 a1
     obtain⟨y,y1,y2,y3,y4⟩:=wod hb1 hb2 b0 b1
     unfold wfq
     simp only[Int.toNat_natCast,cdt (show(i:Int)<qs.length by omega),jf qs i hil,List.getElem?_eq_getElem hil,x1,x2,y1,y2,obS]
     rw[wr (by omega) (by omega)]
     refine hr _ ⟨by simpa using i1,fun q hq => ?_⟩
     rcases List.mem_or_eq_of_mem_set hq with hq|rfl
     ·exact i2 q hq
     ·exact⟨⟨x3,x4⟩,y3,y4⟩
    ·obtain⟨i1,i2⟩:=hI
     unfold wfq wbt
     obtain⟨p',e8,p1,p2⟩:=wuc (n:=p.1.length) (by omega) (by omega) i2
     rw[cdf (by omega),e8,obS]
     exact⟨_,_,rfl,⟨by show p'.1.length≤12;omega,fun r hr=>by have:=p2 r hr;omega⟩,hc4.mono (by omega)⟩
theorem wj7 {k:Nat}{c:Cu}(hc:COk (k+4) c){p:PTd}(hp:p.1.length≤1000):∃v c',V96 c p=some (v,(c',())) ∧ -1≤v∧v≤p.1.length∧COk k c':=by
 unfold V96 xau
 by_cases h:(p.1.length:Int)=0
 ·obtain⟨v,c1,e,hv,hc1⟩:=yx (k:=k+2) hc (l:=[(-1:Int),(p.1.length:Int)]) (by simp)
  rw[cdt h,e,obS]
  refine⟨_,_,rfl, ?_, ?_,hc1.mono (by omega)⟩<;>(simp at hv;simp only;omega)
 ·obtain⟨b,c1,e,hc1⟩:=xh (k:=k+2) hc 24
  rw[cdf h,e,obS]
  cases b with
  | true =>
   obtain⟨v,c2,e,hv,hc2⟩:=yx (k:=k) hc1 (l:=[(-1:Int),(p.1.length:Int)]) (by simp)
   rw[cond_true,e,obS]
   refine⟨_,_,rfl, ?_, ?_,hc2⟩<;>(simp at hv;simp only;omega)
  | false =>
   obtain⟨v,c2,e,v0,v1,hc2⟩:=we (k:=k) hc1 (p.1.length:Int)
   have:=v1 (by omega)
   rw[cond_false,e,obS]
   exact⟨_,_,rfl,by simp only;omega,by simp only;omega,hc2⟩
theorem w9u (a b:List Int) (h:a.length≤400000000000):V87 big a b=some (decide (a=b),()):=by
 unfold V87 wzr
 by_cases hl:a.length=b.length
 ·rw[cdf (by omega)]
  refine xf6 a.length (fun i=>a.take i=b.take i) (by omega) (fun rc i hi hI hr => ?_) (fun rc hI => ?_) 0 (by omega) (by simp)
  ·unfold wie
   rw[cdt (by omega),jf a i hi,obS,jf b i (by omega),obS]
   by_cases e:a[i]=b[i]
   ·rw[cdf (by simp[e]),wr (by omega) (by omega),show(i:Int)+1=((i+1:Nat):Int) by omega]
    refine hr ?_
    show a.take (i+1)=b.take (i+1)
    rw[List.take_succ_eq_append_getElem hi,List.take_succ_eq_append_getElem (show i<b.length by omega),e]
    have hI:a.take i=b.take i:=hI
    rw[hI]
   ·rw[cdt e]
    have:a≠b:=fun c=>by subst c;exact e rfl
    simp[this]
  ·unfold wie wd5
   have hI:a.take a.length=b.take a.length:=hI
   rw[List.take_of_length_le (Nat.le_refl _),List.take_of_length_le (by omega)]at hI
   rw[cdf (by omega)]
   simp[hI]
 ·have:a≠b:=fun c=>hl (by rw[c])
  rw[cdt (by omega)]
  simp[this]
theorem w9m {code:List Int}(hw:Wf (.pair (.sl (.int .u8)) .unit) (code,())) (h:code.length≤65536):Codes code:=by
 refine⟨h,fun x hx => ?_⟩
 have:=hw.1.2 x hx
 have h2:(Lit.int .u8 x).wf=true:=this
 simp only[Lit.wf,Bool.and_eq_true,decide_eq_true_eq]at h2
 have e1:IntKind.u8.min=0:=rfl
 have e2:IntKind.u8.max=255:=rfl
 rw[e1,e2]at h2
 exact h2
def Wd.dual:Wd→Wd
 | .v n => .v n
 | .op g a b => .op (-3-g) a.dual b.dual
theorem cmp_mem {n:Nat}{le:Nat→Nat→Bool}{x y:Nat}:y∈comp n le x↔y<n∧mt n le y x=bt n le∧mt n (du le) y x=tp n le:=by
 unfold comp rel
 rw[fl_mem,Bool.and_eq_true,decide_eq_true_eq,decide_eq_true_eq]
theorem xg1 {n:Nat}{le:Nat→Nat→Bool}(h:LatP n le){x:Nat}(hx:x<n) (e:le x (bt n le)=true):x=bt n le:=h.as hx (wqc h) e (xa4 h hx)
theorem xg4 {n:Nat}{le:Nat→Nat→Bool}(h:LatP n le){x:Nat}(hx:x<n) (e:le (tp n le) x=true):x=tp n le:=h.as hx (xg5 h) (xg2 h hx) e
theorem cenA {n:Nat}{le:Nat→Nat→Bool}(h:LatP n le){x y w:Nat}(hx:x<n) (hy:y<n) (hw:w<n) (hc:Cen n le x y){u:Nat}(hu:u<n) (h1:le (mt n le w x) u=true) (h2:le (mt n le w y) u=true):le w u=true:=by
 have:=(hc w hw).1
 rw[←this]
 exact jg h (h.mlt hw hx) (h.mlt hw hy) hu h1 h2
theorem cenBm {n:Nat}{le:Nat→Nat→Bool}(h:LatP n le){x y w:Nat}(hx:x<n) (hy:y<n) (hw:w<n) (hc:Cen n le x y){u:Nat}(hu:u<n) (h1:le u (mt n (du le) w x)=true) (h2:le u (mt n (du le) w y)=true):le u w=true:=by
 have:=(hc w hw).2
 rw[←this]
 exact h.mg (jlt h hw hx) (jlt h hw hy) hu h1 h2
theorem xgl {n:Nat}{le:Nat→Nat→Bool}(h:LatP n le){x y:Nat}(hx:x<n) (hy:y<n) (hA:∀w u,w<n→u<n→le (mt n le w x) u=true→le (mt n le w y) u=true→le w u=true)
  (hB:∀w u,w<n→u<n→le u (mt n (du le) w x)=true→le u (mt n (du le) w y)=true→le u w=true):Cen n le x y:=fun z hz=>by
 have a1:=h.mlt hz hx
 have a2:=h.mlt hz hy
 have b1:=jlt h hz hx
 have b2:=jlt h hz hy
 exact⟨h.as (jlt h a1 a2) hz (jg h a1 a2 hz (h.m1 hz hx) (h.m1 hz hy)) (hA z _ hz (jlt h a1 a2) (j1 h a1 a2) (j2 h a1 a2)),
  h.as (h.mlt b1 b2) hz (hB z _ hz (h.mlt b1 b2) (h.m1 b1 b2) (h.m2 b1 b2)) (h.mg b1 b2 hz (j1 h hz hx) (j1 h hz hy))⟩
theorem Cen.dual {n:Nat}{le:Nat→Nat→Bool}{x y:Nat}(hc:Cen n le x y):Cen n (du le) x y:=fun z hz=>⟨(hc z hz).2,(hc z hz).1⟩
theorem comp_dual {n:Nat}{le:Nat→Nat→Bool}{x y:Nat}:y∈comp n (du le) x↔y∈comp n le x:=by
 rw[cmp_mem,cmp_mem]
 exact⟨fun⟨a,b,c⟩=>⟨a,c,b⟩,fun⟨a,b,c⟩=>⟨a,c,b⟩⟩
structure CP (n:Nat) (le:Nat→Nat→Bool) (x y:Nat):Prop where
 lx:x<n
 c:y∈comp n le x
 z:Cen n le x y
theorem CP.ly {n:Nat}{le:Nat→Nat→Bool}{x y:Nat}(p:CP n le x y):y<n:=(cmp_mem.1 p.c).1
theorem CP.dual {n:Nat}{le:Nat→Nat→Bool}{x y:Nat}(p:CP n le x y):CP n (du le) x y:=⟨p.lx,comp_dual.2 p.c,p.z.dual⟩
theorem CP.meet {n:Nat}{le:Nat→Nat→Bool}(h:LatP n le){x x' a a':Nat}(p:CP n le x x') (q:CP n le a a'):CP n le (mt n le x a) (mt n (du le) x' a'):=by
 have hx:=p.lx
 have hx':=p.ly
 have ha:=q.lx
 have ha':=q.ly
 have lm:=h.mlt hx ha
 have lj:=jlt h hx' ha'
 obtain⟨_,px1,px2⟩:=cmp_mem.1 p.c
 obtain⟨_,qa1,qa2⟩:=cmp_mem.1 q.c
 refine⟨lm,cmp_mem.2 ⟨lj, ?_, ?_⟩,xgl h lm lj ?_ ?_⟩
 ·have k:=h.mlt lj lm
  refine xg1 h k ?_
  have k1:=h.m1 lj lm
  have k2:=h.tr k lm hx (h.m2 lj lm) (h.m1 hx ha)
  have k3:=h.tr k lm ha (h.m2 lj lm) (h.m2 hx ha)
  have k4:=cenBm h ha ha' hx' q.z k (h.tr k ha (jlt h hx' ha) k3 (j2 h hx' ha)) k1
  rw[←px1]
  exact h.mg hx' hx k k4 k2
 ·have k:=jlt h lj lm
  refine xg4 h k ?_
  rw[←px2]
  refine jg h hx' hx k (h.tr hx' lj k (j1 h hx' ha') (j1 h lj lm)) ?_
  refine cenA h ha ha' hx q.z k (j2 h lj lm) ?_
  exact h.tr (h.mlt hx ha') ha' k (h.m2 hx ha') (h.tr ha' lj k (j2 h hx' ha') (j1 h lj lm))
 ·intro w u hw hu e1 e2
  have wx:=h.mlt hw hx
  have wj:=h.mlt hw lj
  refine cenA h hx hx' hw p.z hu (cenA h ha ha' wx q.z hu ?_ ?_) ?_
  ·have k:=h.mlt wx ha
   have k1:=h.tr k wx hw (h.m1 wx ha) (h.m1 hw hx)
   have k2:=h.tr k wx hx (h.m1 wx ha) (h.m2 hw hx)
   exact h.tr k (h.mlt hw lm) hu (h.mg hw lm k k1 (h.mg hx ha k k2 (h.m2 wx ha))) e1
  ·have k:=h.mlt wx ha'
   have k1:=h.tr k wx hw (h.m1 wx ha') (h.m1 hw hx)
   exact h.tr k wj hu (h.mg hw lj k k1 (h.tr k ha' lj (h.m2 wx ha') (j2 h hx' ha'))) e2
  ·have k:=h.mlt hw hx'
   exact h.tr k wj hu (h.mg hw lj k (h.m1 hw hx') (h.tr k hx' lj (h.m2 hw hx') (j1 h hx' ha'))) e2
 ·intro w u hw hu e1 e2
  have uz:=h.mlt hu hx
  have uz':=h.mlt hu hx'
  have wm:=jlt h hw lm
  have wj:=jlt h hw lj
  refine cenA h hx hx' hu p.z hw (cenA h ha ha' uz q.z hw ?_ ?_) ?_
  ·have k:=h.mlt uz ha
   have k0:=h.tr k uz hu (h.m1 uz ha) (h.m1 hu hx)
   have k1:=h.tr k uz hx (h.m1 uz ha) (h.m2 hu hx)
   have k2:=h.m2 uz ha
   have wx':=jlt h hw hx'
   have k3:le (mt n le (mt n le u x) a) (mt n (du le) w x')=true:=by
    refine cenBm h ha ha' wx' q.z k (h.tr k ha (jlt h wx' ha) k2 (j2 h wx' ha)) ?_
    have t:=jlt h wx' ha'
    refine h.tr k wj t (h.tr k hu wj k0 e2) (jg h hw lj t (h.tr hw wx' t (j1 h hw hx') (j1 h wx' ha')) (jg h hx' ha' t (h.tr hx' wx' t (j2 h hw hx') (j1 h wx' ha')) (j2 h wx' ha')))
   exact cenBm h hx hx' hw p.z k (h.tr k hx (jlt h hw hx) k1 (j2 h hw hx)) k3
  ·have k:=h.mlt uz ha'
   have k0:=h.tr k uz hu (h.m1 uz ha') (h.m1 hu hx)
   have wa:=jlt h hw ha
   exact cenBm h ha ha' hw q.z k (h.tr k wm wa (h.tr k hu wm k0 e1) (jg h hw lm wa (j1 h hw ha) (h.tr lm ha wa (h.m2 hx ha) (j2 h hw ha)))) (h.tr k ha' (jlt h hw ha') (h.m2 uz ha') (j2 h hw ha'))
  ·have wx:=jlt h hw hx
   exact cenBm h hx hx' hw p.z uz' (h.tr uz' wm wx (h.tr uz' hu wm (h.m1 hu hx') e1) (jg h hw lm wx (j1 h hw hx) (h.tr lm hx wx (h.m1 hx ha) (j2 h hw hx)))) (h.tr uz' hx' (jlt h hw hx') (h.m2 hu hx') (j2 h hw hx'))
theorem CP.join {n:Nat}{le:Nat→Nat→Bool}(h:LatP n le){x x' a a':Nat}(p:CP n le x x') (q:CP n le a a'):CP n le (mt n (du le) x a) (mt n le x' a') :=
 (CP.meet h.du p.dual q.dual).dual
theorem wt8 {code:List Int}(hc:Codes code):∃p c,V19 big (code,((0:Int),((0:Int),())))=some (p,(c,()))∧DrP 12 p∧COk 9600 c:=wuw (k:=9600) hc.start
theorem DrP.rows12 {p:PT}(h:DrP 12 p):∀r∈p.1,r.length≤4294967296:=fun r hr=>by have:=h.2 r hr;omega
noncomputable def hv (n:Nat) (H:Nat→Bool) (E:Nat→Prop):List Bool:=mkR n fun z=>H z||tv (E z)
def blkF (P:Nat→Nat) (i r:Nat):List Nat:=fl i fun y=>decide (P y=r)
def plcF (P:Nat→Nat) (i x:Nat):Int:=if x<i∧P x=x then(rk (rootB P) x:Int) else 0
theorem xg (P:Nat→Nat) (i r:Nat):blkF P (i+1) r=if P i=r then blkF P i r++[i] else blkF P i r:=by
 unfold blkF
 rw[qd]
 by_cases e:P i=r<;>simp[e]
theorem wpa {P:Nat→Nat}{n i:Nat}(h:Pt n P) (hi:i<n) (e:P i=i):blkF P i i=[]:=by
 unfold blkF
 rw[List.eq_nil_iff_forall_not_mem]
 intro y hy
 obtain⟨h1,h2⟩:=fl_mem.1 hy
 have:=h.lo y (by omega)
 rw[decide_eq_true_eq]at h2
 omega
theorem wn9 {α β:Type}{f g:α→β}{a:α}:∀{l:List α}{k:Nat},l.Nodup→l[k]? = some a→(∀b,b≠a→f b=g b)→(l.map f).set k (g a)=l.map g
 | [],k,_,h,_=>by simp at h
 | b::l,0,hn,h,hg=>by
  simp only[List.getElem?_cons_zero,Option.some.injEq]at h
  subst h
  rw[List.map_cons,List.set_cons_zero,List.map_cons]
  congr 1
  refine List.map_congr_left fun c hc=>hg c fun e => ?_
  subst e
  exact(List.nodup_cons.1 hn).1 hc
 | b::l,k+1,hn,h,hg=>by
  simp only[List.getElem?_cons_succ]at h
  have hb:b≠a:=fun e=>(List.nodup_cons.1 hn).1 (e▸List.mem_of_getElem? h)
  rw[List.map_cons,List.set_cons_succ,wn9 (List.nodup_cons.1 hn).2 h hg,List.map_cons,hg b hb]
theorem wwl {n:Nat}{P:Nat→Nat}(h:Pt n P):∀i,i≤n→blkL (ptL n P) i=some (mkR n (plcF P i),(fl i (rootB P)).map fun r=>cs (blkF P i r))
 | 0,_=>by
  unfold blkL
  rw[wd,jhx]
  refine congrArg some (Prod.ext (jo fun x _ => ?_) rfl)
  unfold plcF
  rw[if_neg (by omega)]
 | i+1,hi=>by
  have hin:i<n:=by omega
  rw[blkL,wwl h i (by omega),obS]
  unfold ptL
  rw[jr hin,obS]
  have hnd:=wub i (rootB P)
  unfold blkStep
  by_cases e:P i=i
  ·rw[if_pos (by omega)]
   have hp:(mkR n (plcF P i)).set i (((fl i (rootB P)).map fun r=>cs (blkF P i r)).length:Int)=mkR n (plcF P (i+1)):=by
    rw[qw]
    refine jo fun x hx => ?_
    unfold plcF
    by_cases c:x=i
    ·subst c
     rw[if_pos rfl,if_pos ⟨by omega,e⟩,List.length_map];rfl
    ·rw[if_neg c]
     by_cases c2:x<i∧P x=x
     ·rw[if_pos c2,if_pos ⟨by omega,c2.2⟩]
     ·rw[if_neg c2,if_neg fun q=>c2 ⟨by omega,q.2⟩]
   simp only[hp,e,jd hin,obS]
   have hv:plcF P (i+1) i=((fl i (rootB P)).length:Int):=by
    unfold plcF;rw[if_pos ⟨by omega,e⟩];rfl
   have hg:((fl i (rootB P)).map (fun r=>cs (blkF P i r))++[[]])[(fl i (rootB P)).length]? = some ([]:List Int):=by
    rw[List.getElem?_append_right (by rw[List.length_map];exact Nat.le_refl _),List.length_map,Nat.sub_self];rfl
   rw[hv,jx,hg,obS,Int.toNat_natCast]
   refine congrArg some (Prod.ext rfl ?_)
   show((fl i (rootB P)).map (fun r=>cs (blkF P i r))++[[]]).set (fl i (rootB P)).length ([]++[(i:Int)])=_
   rw[List.set_append_right _ _ (by rw[List.length_map];exact Nat.le_refl _),List.length_map,Nat.sub_self,qd,if_pos (decide_eq_true e),List.map_append]
   congr 1
   ·refine List.map_congr_left fun r hr => ?_
    have hr':=(fl_mem.1 hr).1
    rw[xg,if_neg (by omega)]
   ·show [[(i:Int)]]=[cs (blkF P (i+1) i)]
    rw[xg,if_pos e,wpa h hin e];rfl
  ·have hlo:=h.lo i hin
   have hr0:P i<i:=by omega
   have hid:=h.id i hin
   rw[if_neg (by omega)]
   simp only[jd (h.lt hin),obS]
   have hv:plcF P i (P i)=(rk (rootB P) (P i):Int):=by unfold plcF;rw[if_pos ⟨hr0,hid⟩]
   obtain⟨k1,k2⟩:=xa9 (R:=rootB P) hr0 (decide_eq_true hid)
   have hk:(fl i (rootB P))[rk (rootB P) (P i)]? = some (P i):=by
    rw[List.getElem?_eq_getElem k1]
    unfold rt at k2
    rw[List.getD_eq_getElem?_getD,List.getElem?_eq_getElem k1]at k2
    exact congrArg some k2
   have hg:((fl i (rootB P)).map fun r=>cs (blkF P i r))[rk (rootB P) (P i)]? = some (cs (blkF P i (P i))):=by rw[List.getElem?_map,hk];rfl
   rw[hv,jx,hg,obS,Int.toNat_natCast]
   refine congrArg some (Prod.ext (jo fun x hx => ?_) ?_)
   ·unfold plcF
    by_cases c2:x<i∧P x=x
    ·rw[if_pos c2,if_pos ⟨by omega,c2.2⟩]
    ·rw[if_neg c2,if_neg fun q=>c2 ⟨by
      have:x≠i:=fun w=>e (w▸q.2)
      omega,q.2⟩]
   ·show((fl i (rootB P)).map fun r=>cs (blkF P i r)).set (rk (rootB P) (P i)) (cs (blkF P i (P i))++[(i:Int)])=_
    rw[qd,if_neg (by rw[decide_eq_true_eq];exact e)]
    have:=wn9 (f:=fun r=>cs (blkF P i r)) (g:=fun r=>cs (blkF P (i+1) r)) hnd hk (fun b hb=>by
     show cs (blkF P i b)=cs (blkF P (i+1) b)
     rw[xg,if_neg fun w=>hb w.symm])
    rw[←this]
    congr 1
    rw[xg,if_pos rfl,qa];rfl
def blksL (n:Nat) (P:Nat→Nat):List (List Int):=(fl n (rootB P)).map fun r=>cs (blkF P n r)
theorem wbb {n:Nat}{P:Nat→Nat}(h:Pt n P) (hn:n≤1048576):vn (ptL n P)=some (blksL n P,()):=by
 unfold vn
 rw[wd,if_pos (by omega),wwl h n (Nat.le_refl n),obS];rfl
theorem wfb {n:Nat}{P:Nat→Nat}(h:Pt n P) (hn:n≤1048576):V78 big (ptL n P)=some (blksL n P,()):=by
 unfold V78 wzl
 have g:∀z,z<n→atI (ptL n P) (z:Int)=some ((P z:Nat):Int):=fun z hz=>jd hz
 refine xf1 n (fun i l=>l=(fl i (rootB P)).map fun r=>cs (blkF P n r)) (by omega) ?_ ?_ 0 (by omega) _ rfl
 ·rintro rc i l hi rfl ih
  have hfl:=jh i (rootB P)
  unfold wd2
  rw[wd,cdt (by omega),g i hi,obS]
  by_cases e:P i=i
  ·rw[cdf (by omega)]
   refine xf2 n (fun j b=>i≤j∧b=cs (blkF P j i)) (by omega) ?_ ?_ i (by omega) _ ⟨Nat.le_refl _,by rw[wpa h hi e];rfl⟩
   ·rintro rc2 j b hj ⟨hij,rfl⟩ ih2
    have hbl:=jh j fun y=>decide (P y=i)
    unfold wh8
    rw[wd,cdt (by omega),g j hj,obS,wr1 (by omega)]
    by_cases c:P j=i
    ·rw[cdt (by omega),app1 (by rw[cs_len];unfold blkF;omega),obS]
     exact ih2 _ ⟨by omega,by rw[xg,if_pos c,qa];rfl⟩
    ·rw[cdf (by omega)]
     exact ih2 _ ⟨by omega,by rw[xg,if_neg c]⟩
   ·rintro rc2 b ⟨_,rfl⟩
    unfold wh8
    rw[wd,cdf (by omega),wd1,app1 (by rw[List.length_map];omega),obS,wr1 (by omega)]
    exact ih _ (by rw[qd,if_pos (decide_eq_true e),List.map_append];rfl)
  ·rw[cdt (by omega),wr1 (by omega)]
   exact ih _ (by rw[qd,if_neg (by rw[decide_eq_true_eq];exact e)])
 ·rintro rc l rfl
  unfold wd2
  rw[wd,cdf (by omega),yq];rfl
theorem wws {n:Nat}{le:Nat→Nat→Bool}(h:LatP n le){S:List Nat}(hS:∀s∈S,s<n):∀k,k≤S.length→IsGlb n (du le) (S.take k) (jnf n le (S.take k))
 | 0,_=>⟨wqc h,by simp,fun z hz _=>xa4 h hz⟩
 | k+1,hk=>by
  have ih:=wws h hS k (by omega)
  have hkl:k<S.length:=by omega
  have hx:=hS _ (List.getElem_mem hkl)
  rw[List.take_succ_eq_append_getElem hkl,wuf]
  refine⟨h.du.mlt ih.lt hx,fun s hs => ?_,fun z hz hs=>h.du.mg ih.lt hx hz (ih.gr z hz fun s q=>hs s (List.mem_append_left _ q)) (hs S[k] (List.mem_append_right _ (List.mem_singleton.2 rfl)))⟩
  rcases List.mem_append.1 hs with q|q
  ·exact h.du.tr (h.du.mlt ih.lt hx) ih.lt (hS s (List.mem_of_mem_take q)) (h.du.m1 ih.lt hx) (ih.lo s q)
  ·rw[List.mem_singleton]at q;rw[q];exact h.du.m2 ih.lt hx
theorem xgn {n:Nat}{le:Nat→Nat→Bool}(h:LatP n le){S:List Nat}(hS:∀s∈S,s<n):gb n (du le) S=jnf n le S:=by
 have:=wws h hS S.length (Nat.le_refl _)
 rw[List.take_length]at this
 exact wj1 h.du this
def bintL (n:Nat) (le:Nat→Nat→Bool) (P:Nat→Nat) (R:List Nat):List P2:=R.map fun r=>((gb n le (blkF P n r):Int),(gb n (du le) (blkF P n r):Int),())
theorem w6 {n:Nat}{P:Nat→Nat}{r:Nat}:∀s∈blkF P n r,s<n:=fun s hs=>(fl_mem.1 hs).1
theorem wo8 {n:Nat}{le:Nat→Nat→Bool}{P:Nat→Nat}(h:LatP n le){R:List Nat}(hR:R.length≤1048576) :
  wm4 big (some (lat n le)) [] (R.map fun r=>cs (blkF P n r)) ((R.map fun r=>cs (blkF P n r)).length:Int) 0=some ((bintL n le P R,true,()),()):=by
 have hlen:(R.map fun r=>cs (blkF P n r)).length=R.length:=List.length_map _
 have h10:=h.le10
 refine xfz R.length (fun i l=>l=bintL n le P (R.take i)) (by omega) ?_ ?_ 0 (by omega) _ rfl
 ·rintro rc i l hi rfl ih
  have hg:(R.map fun r=>cs (blkF P n r))[i]? = some (cs (blkF P n R[i])):=by rw[List.getElem?_map,List.getElem?_eq_getElem hi];rfl
  have hbl:=jh n fun y=>decide (P y=R[i])
  have hl:(blkF P n R[i]).length≤4294967296:=by unfold blkF;omega
  unfold wh3
  rw[cdt (by omega)]
  simp only[jx,Int.toNat_natCast,hg,obS,w0m h (S:=blkF P n R[i]) w6 hl,w0j h (S:=blkF P n R[i]) w6 hl]
  rw[app1 (by unfold bintL;rw[List.length_map,List.length_take];omega),obS,wr1 (by omega)]
  refine ih _ ?_
  unfold bintL
  rw[List.take_succ_eq_append_getElem hi,List.map_append,←xgn h (S:=blkF P n R[i]) w6];rfl
 ·rintro rc l rfl
  unfold wh3
  rw[cdf (by omega),wdz,List.take_length]
theorem wo9 {n:Nat}{le:Nat→Nat→Bool}{P:Nat→Nat}(h:LatP n le){R:List Nat}(hR:R.length≤1048576) :
  wna big (pos n le) [] (R.map fun r=>cs (blkF P n r)) 0=some ((bintL n le P R,true,()),()):=by
 have hlen:(R.map fun r=>cs (blkF P n r)).length=R.length:=List.length_map _
 have h10:=h.le10
 refine xf3 R.length (fun i l=>l=bintL n le P (R.take i)) (by omega) ?_ ?_ 0 (by omega) _ rfl
 ·rintro rc i l hi rfl ih
  have hg:(R.map fun r=>cs (blkF P n r))[i]? = some (cs (blkF P n R[i])):=by rw[List.getElem?_map,List.getElem?_eq_getElem hi];rfl
  have hbl:=jh n fun y=>decide (P y=R[i])
  have hl:(blkF P n R[i]).length≤4294967296:=by unfold blkF;omega
  unfold wia
  rw[cdt (by omega)]
  simp only[jx,Int.toNat_natCast,hg,obS,specBoundL h (S:=blkF P n R[i]) w6 hl,xp (le:=le) (show n≤1048576 by omega),specBoundL h.du (S:=blkF P n R[i]) w6 hl]
  rw[app1 (by unfold bintL;rw[List.length_map,List.length_take];omega),obS,wr1 (by omega)]
  refine ih _ ?_
  unfold bintL
  rw[List.take_succ_eq_append_getElem hi,List.map_append];rfl
 ·rintro rc l rfl
  unfold wia
  rw[cdf (by omega),wd3,List.take_length]
theorem wix (p:PT) (c:List Int) (hx:∀r∈p.1,r.length≤4294967296) (hc:c.length≤1048576):∃r:List P2×Bool×Unit,V79 big p c=some (r,())∧V75 big p c=some (r,())∧r.1.length≤1000:=by
 unfold V79 wp6 V75 wjo
 rcases w7 hx with⟨n,le,e,h,h8,h1,h2⟩|⟨h1,l,h2⟩
 ·subst e
  rw[h1,h2]
  simp only[obS,Bool.not_true,cond_false,wz h,y7 h,y9 h hc,wkg h hc]
  by_cases hC:CongL n (latF n le) c
  ·obtain⟨P,hP,rfl,hg⟩:=hC
   have hR:=jh n (rootB P)
   simp only[tv_t (show CongL n (latF n le) (ptL n P) from⟨P,hP,rfl,hg⟩),Bool.not_true,cond_false,wbb hP (show n≤1048576 by omega),wfb hP (show n≤1048576 by omega),obS]
   refine⟨_,wo9 h (by omega),wo8 h (by omega), ?_⟩
   unfold bintL
   rw[List.length_map];omega
  ·rw[tv_f hC]
   exact⟨_,rfl,rfl,by simp⟩
 ·rw[h1,h2]
  exact⟨_,rfl,rfl,by simp⟩
theorem wn5 (l:List Int) (hl:l.length≤1048576):∃v,V42 big l=some (v,()):=by
 unfold V42 wx8
 refine xe7 (Q:=fun r=>∃v,r=some (v,())) l.length (fun _ _=>True) (by omega) (fun rc i o hi _ hr => ?_) (fun rc o _ => ?_) 0 (by omega) _ trivial
 ·unfold wgu
  rw[cdt (by omega),jf l i hi,obS,wr1 (by omega)]
  by_cases c:l[i]=(i:Int)
  ·rw[cdt c];exact hr _ trivial
  ·rw[cdf c];exact hr _ trivial
 ·unfold wgu
  rw[cdf (by omega)];exact⟨_,rfl⟩
def PutQ (n:Nat) (ls:List (List Int)) (r:Option (List (List Int)×Unit)):Prop:=∃o,r=some (o,())∧(∀x∈o,PartL n x)∧ls.length≤o.length∧o.length≤ls.length+1
theorem wuo {n:Nat}{ls:List (List Int)}{l:List Int}(hn:n≤1000) (hls:ls.length≤1048576) (he:∀x∈ls,PartL n x) (hl:PartL n l):PutQ n ls (V45 big ls l):=by
 have hlen:∀{x},PartL n x→x.length=n:=fun⟨P,_,e⟩=>by rw[e,wd]
 have fin:∀k:Nat,k≤ls.length→PutQ n ls (wae ls l (k:Int)):=fun k hk=>by
  have ins:PutQ n ls ((slI ls 0 (k:Int)).bind fun a=>(appI [] a).bind fun b=>(appI b [l]).bind fun c=>(slI ls (k:Int) ls.length).bind fun d=>(appI c d).bind fun e=>some (e,())):=by
   have t:=qi ls 0 k (by omega) hk
   rw[Nat.sub_zero,List.drop_zero]at t
   rw[show slI ls 0 (k:Int)=_ from t,obS,jk (by simp;omega),obS,List.nil_append,app1 (by simp;omega),obS,qi ls k ls.length hk (Nat.le_refl _),obS,List.take_of_length_le (show(ls.drop k).length≤ls.length-k by simp),jk (by simp;omega),obS]
   refine⟨_,rfl,fun x hx => ?_,by simp;omega,by simp;omega⟩
   rcases List.mem_append.1 hx with hx|hx
   ·rcases List.mem_append.1 hx with hx|hx
    ·exact he x (List.mem_of_mem_take hx)
    ·rw[List.mem_singleton.1 hx];exact hl
   ·exact he x (List.mem_of_mem_drop hx)
  unfold wae
  by_cases c:k<ls.length
  ·have hk2:=hlen (he _ (List.getElem_mem c))
   rw[cdt (by omega),jf ls k c,obS,wpf _ _ (by omega),obS]
   by_cases d:ls[k]=l
   ·rw[cdt d];exact⟨ls,rfl,he,by omega,by omega⟩
   ·rw[cdf d];exact ins
  ·rw[cdf (by omega)];exact ins
 unfold V45 wye
 refine xfa (Q:=PutQ n ls) ls.length (fun _=>True) (by omega) (fun rc i hi _ hr => ?_) (fun rc _ => ?_) 0 (by omega) trivial
 ·have h1:=hlen hl
  have h2:=hlen (he _ (List.getElem_mem hi))
  obtain⟨v,e1⟩:=wn5 l (by omega)
  obtain⟨w,e2⟩:=wn5 ls[i] (by omega)
  unfold wg0
  rw[cdt (by omega),jf ls i hi,obS,e2,obS,e1,obS,obS,obS,w8m _ _ (by omega) (by omega),obS,wr1 (by omega)]
  by_cases c:v<w
  ·rw[cdt c];exact hr trivial
  ·rw[cdf c,e2,obS,obS]
   dsimp only
   by_cases d:w=v
   ·rw[cdt d]
    cases lx ls[i] l
    ·exact fin i (by omega)
    ·exact hr trivial
   ·rw[cdf d];exact fin i (by omega)
 ·unfold wg0
  rw[cdf (by omega)];exact fin _ (Nat.le_refl _)
theorem w8j {n:Nat}{a b:List Int}(hn:n≤1000) (ha:PartL n a) (hb:PartL n b):∃r,V46 big a b=some (r,())∧PartL n r:=by
 obtain⟨P,hP,rfl⟩:=ha
 obtain⟨Q,hQ,rfl⟩:=hb
 unfold V46 wyg
 rw[wuh _ (by rw[wd];omega),obS]
 refine xfb (Q:=fun r=>∃o,r=some (o,())∧PartL n o) n (fun _ o=>PartL n o) (by omega) (fun rc i o hi ho hr => ?_) (fun rc o ho => ?_) 0 (by omega) _ ⟨P,hP,rfl⟩
 ·obtain⟨R,hR,rfl⟩:=ho
  have hq:atI (ptL n Q) (i:Int)=some ((Q i:Nat):Int):=jd hi
  unfold wg3
  rw[wd,cdt (by omega),hq,obS,wa1 (by omega) hi (hQ.lt hi),obS,wr1 (by omega)]
  exact hr _ ⟨_,we2 hR hi (hQ.lt hi),rfl⟩
 ·unfold wg3
  rw[wd,cdf (by omega)]
  exact⟨o,rfl,ho⟩
theorem w9t {n:Nat}{fs:List (Nat→Nat→Nat)}(h10:n≤10) (hn:0<n) (hfl:fs.length≤10) (ho:Opn n fs){x y:Nat}(hx:x<n) (hy:y<n):∃r,V41 (algL n fs) (x:Int) (y:Int)=some (r,())∧PartL n r:=by
 obtain⟨O,e,hO⟩:=wuq (fs:=fs) h10 hn hfl ho (we2 (xa7 n) hx hy)
 unfold V41 w91
 rw[show(algL n fs).1=(n:Int) from rfl,xr (by omega),obS,wa1 (by omega) hx hy,obS,e,obS]
 exact⟨_,rfl,O,hO.pt,rfl⟩
def MostQ (n:Nat) (r:Option (List (List Int)×Unit)):Prop:=∃o,r=some (o,())∧(∀x∈o,PartL n x)∧0<o.length∧o.length≤201
def MostI (n:Nat) (out line:List (List Int)):Prop:=(∀x∈out,PartL n x)∧(∀x∈line,PartL n x)∧0<line.length∧line.length≤out.length∧out.length≤201
theorem w9s {n:Nat}{fs:List (Nat→Nat→Nat)}(h10:n≤10) (hn:0<n) (hfl:fs.length≤10) (ho:Opn n fs):MostQ n (V47 big (algL n fs) 200):=by
 have fin:∀{o l},MostI n o l→MostQ n (xe o):=fun {o l} ⟨a,_,b,c,d⟩=>⟨o,rfl,a,by omega,d⟩
 unfold V47 wyk
 refine xfc (Q:=MostQ n) n (fun i G=>(∀x∈G,PartL n x)∧G.length≤10*i) (by omega) (fun rc i G hi hG hr => ?_) (fun rc G hG => ?_) 0 (by omega) _ ⟨by simp,by simp⟩
 ·unfold wcy
  rw[show(algL n fs).1=(n:Int) from rfl,cdt (by omega)]
  refine xfd (Q:=MostQ n) i (fun j F=>(∀x∈F,PartL n x)∧F.length≤10*i+j) (by omega) (fun rc2 j F hj hF hr2 => ?_) (fun rc2 F hF => ?_) 0 (by omega) _ ⟨hG.1,by have:=hG.2;omega⟩
  ·obtain⟨f1,f2⟩:=hF
   obtain⟨r,e,hr3⟩:=w9t (fs:=fs) h10 hn hfl ho hi (show j<n by omega)
   obtain⟨o,e2,o1,_,o2⟩:=wuo (by omega) (by omega) f1 hr3
   unfold wg6
   rw[cdt (by omega),e,obS,e2,obS,wr1 (by omega)]
   dsimp only
   exact hr2 _ ⟨o1,by omega⟩
  ·obtain⟨f1,f2⟩:=hF
   unfold wg6 wcw
   rw[cdf (by omega),wr1 (by omega)]
   exact hr _ ⟨f1,by omega⟩
 ·obtain⟨g1,g2⟩:=hG
  have hid:PartL n (ptL n fun x=>x):=⟨_,xa7 n,rfl⟩
  unfold wcy yi
  rw[show(algL n fs).1=(n:Int) from rfl,cdf (by omega),xr (by omega),obS,obS]
  refine xck (Q:=MostQ n) 201 (fun _ o l=>MostI n o l) (by omega) (fun rc i o l hi hI hr => ?_) (fun rc o l hI => ?_) 0 (by omega) _ _ ⟨by simpa using hid,by simpa using hid,by simp,by simp,by simp⟩
  ·unfold zk
   by_cases c:i<l.length
   ·rw[cdt (by omega)]
    by_cases d:(o.length:Int)≤200
    ·rw[cdt d]
     refine xcl (Q:=MostQ n) G.length (fun _ o2 l2=>MostI n o2 l2∧l.length≤l2.length) (by omega) (fun rc2 j o2 l2 hj hI2 hr2 => ?_) (fun rc2 o2 l2 hI2 => ?_) 0 (by omega) _ _ ⟨hI,Nat.le_refl _⟩
     ·obtain⟨hM,hle⟩:=hI2
      have hM2:=hM
      obtain⟨a1,a2,a3,a4,a5⟩:=hM
      unfold wcx
      rw[cdt (by omega),wr1 (by omega)]
      by_cases q:(o2.length:Int)≤200
      ·have hi2:i<l2.length:=by omega
       obtain⟨x,e1,hx⟩:=w8j (by omega) (a2 _ (List.getElem_mem hi2)) (g1 _ (List.getElem_mem hj))
       obtain⟨o3,e2,b1,b2,b3⟩:=wuo (by omega) (by omega) a1 hx
       rw[cdt q,jf l2 i hi2,obS,Int.toNat_natCast,List.getElem?_eq_getElem hi2,obS,jf G j hj,obS,e1,obS,e2,obS]
       dsimp only
       by_cases w:(o2.length:Int)<o3.length
       ·rw[cdt w,app1 (by omega),obS]
        refine hr2 _ _ ⟨⟨b1,fun y hy => ?_,by simp,by simp;omega,by omega⟩,by simp;omega⟩
        rcases List.mem_append.1 hy with hy|hy
        ·exact a2 y hy
        ·rw[List.mem_singleton.1 hy];exact hx
       ·rw[cdf w]
        exact hr2 _ _ ⟨hM2,hle⟩
      ·rw[cdf q]
       unfold xy
       rw[wr1 (by omega)]
       exact hr _ _ hM2
     ·unfold wcx xy
      rw[cdf (by omega),wr1 (by omega)]
      exact hr _ _ hI2.1
    ·rw[cdf d]
     exact fin hI
   ·rw[cdf (by omega)]
    exact fin hI
  ·unfold zk
   rw[cdf (by have:=hI.2.2.2;omega)]
   exact fin hI
theorem w8u {p:List Int}(hp:p.length≤1000){x y:Int}(hx:0≤x∧x<p.length) (hy:0≤y∧y<p.length):∃q,V34 big p x y=some (q,())∧q.length=p.length:=by
 obtain⟨i,rfl⟩:=Int.eq_ofNat_of_zero_le hx.1
 obtain⟨j,rfl⟩:=Int.eq_ofNat_of_zero_le hy.1
 have hi:i<p.length:=by omega
 have hj:j<p.length:=by omega
 unfold V34 wpw V32 wpv V31 wpu
 rw[jf p i hi,jf p j hj]
 simp only[obS]
 have main:∀lo hi':Int,∃q,wgh big p lo hi' [] (0:Int)=some (q,())∧q.length=p.length:=fun lo hi'=>by
  refine xe0 (Q:=fun r=>∃q,r=some (q,())∧q.length=p.length) p.length (fun i o=>o.length=i) (by omega) (fun rc i o hi hI hr => ?_) (fun rc o hI => ?_) 0 (by omega) _ rfl
  ·unfold xj
   rw[cdt (by omega),jf p i hi,obS,app1 (by omega),wr1 (by omega)]
   by_cases e:p[i]=hi'
   ·rw[cdt e,obS]
    exact hr _ (by simp[hI])
   ·rw[cdf e,obS,app1 (by omega),obS]
    exact hr _ (by simp[hI])
  ·unfold xj w5
   rw[cdf (by omega)]
   exact⟨o,rfl,hI⟩
 by_cases c1:p[i]<p[j]
 ·rw[cdt c1,cdf (show ¬p[j]<p[i] by omega),obS,obS]
  exact main _ _
 ·rw[cdf c1,obS]
  by_cases c2:p[j]<p[i]
  ·rw[cdt c2,obS]
   exact main _ _
  ·rw[cdf c2,obS]
   exact main _ _
theorem wph {k:Nat}{c:Cu}(hc:COk (k+30) c){n:Int}(hn:n≤1000):∃p c',V35 big c n=some (p,(c',()))∧p.length≤10∧COk k c':=by
 unfold V35 wxy
 obtain⟨m,e0,hm⟩:∃m:Nat,((V31 n (0:Int)).bind fun rq1=>V32 rq1.1 (9:Int))=some ((m:Int),())∧m≤9:=by
  unfold V31 wpu V32 wpv
  by_cases h:0<n
  ·rw[cdt h,obS]
   dsimp only
   by_cases h2:n<9
   ·rw[cdt h2]
    exact⟨n.toNat,by rw[show((n.toNat:Nat):Int)=n by omega],by omega⟩
   ·rw[cdf h2]
    exact⟨9,rfl,by omega⟩
  ·rw[cdf h]
   exact⟨0,rfl,by omega⟩
 obtain⟨v1,e1,e2⟩:=Option.bind_eq_some_iff.1 e0
 rw[e1,obS,e2,obS]
 obtain⟨v,c1,e3,hv0,hv1,hc1⟩:=we (k:=k+28) hc 4
 have hv:=hv1 (by omega)
 rw[xr (by omega),obS,e3,obS]
 refine xe1 (Q:=fun r=>∃p c',r=some (p,(c',()))∧p.length≤10∧COk k c') (fun _ _ v=>v.toNat) (fun c p v=>p.length≤9∧v<4∧COk (k+6+4*v.toNat) c) (fun rc c p v hI hr => ?_) c1 _ v (by omega) ⟨by rw[wd];exact hm,hv,hc1.mono (by omega)⟩
 obtain⟨hp,hv4,hc2⟩:=hI
 have fin:∃p' c',wch c p=some (p',(c',()))∧p'.length≤10∧COk k c':=by
  unfold wch
  obtain⟨w,c3,e4,hw0,hw1,hc3⟩:=we (k:=k+4) (hc2.mono (by omega)) 24
  rw[e4,obS]
  dsimp only
  by_cases h0:w=0
  ·rw[cdt h0,app1 (by omega),obS]
   exact⟨_,_,rfl,by simp;omega,hc3.mono (by omega)⟩
  ·rw[cdf h0]
   by_cases h1:w=1
   ·rw[cdt h1]
    by_cases hl:(0:Int)<p.length
    ·obtain⟨z,c4,e5,hz0,hz1,hc4⟩:=we (k:=k+2) hc3 (p.length:Int)
     have hz:=hz1 (by omega)
     rw[cdt hl,e5,obS]
     dsimp only
     obtain⟨u,c5,e6,_,hc5⟩:=yx (k:=k) hc4 (l:=[(-1:Int),(p.length:Int),IntKind.i64.wrap ((p.length:Int)-(1:Int)),(0:Int)]) (by simp)
     rw[e6,obS]
     obtain⟨i,rfl⟩:=Int.eq_ofNat_of_zero_le hz0
     rw[jf p i (by omega),obS,Int.toNat_natCast,List.getElem?_eq_getElem (by omega),obS]
     exact⟨_,_,rfl,by rw[List.length_set];omega,hc5⟩
    ·rw[cdf hl]
     exact⟨_,_,rfl,by omega,hc3.mono (by omega)⟩
   ·rw[cdf h1]
    exact⟨_,_,rfl,by omega,hc3.mono (by omega)⟩
 unfold wrl
 by_cases h:0<v
 ·rw[cdt h]
  by_cases h2:(1:Int)<p.length
  ·obtain⟨x,c3,e4,hx0,hx1,hc3⟩:=we (k:=k+6+4*(v-1).toNat+2) (hc2.mono (by omega)) (p.length:Int)
   have hx:=hx1 (by omega)
   obtain⟨y,c4,e5,hy0,hy1,hc4⟩:=we (k:=k+6+4*(v-1).toNat) hc3 (p.length:Int)
   have hy:=hy1 (by omega)
   obtain⟨q,e6,hq⟩:=w8u (p:=p) (by omega) ⟨hx0,hx⟩ ⟨hy0,hy⟩
   rw[cdt h2,e4,obS]
   dsimp only
   rw[e5,obS]
   dsimp only
   rw[e6,obS,wr (by omega) (by omega)]
   exact hr _ _ _ ⟨by show q.length≤9;omega,by omega,hc4⟩ (by omega)
  ·rw[cdf h2]
   exact fin
 ·rw[cdf h]
  exact fin
theorem w8d {n:Nat}{le:Nat→Nat→Bool}(h:LatP n le) (h8:n≤8){k:Nat}{c:Cu}(hc:COk (k+40) c):∃p c',V48 c (latAlg n le)=some (p,(c',()))∧p.length≤10∧COk k c':=by
 have h10:=h.le10
 have h0:=h.lat.ne
 have ho:=wo1 h
 have hfl:(latF n le).length≤10:=by simp
 unfold V48 w92
 rw[show latAlg n le=algL n (latF n le) from rfl,w8l h8 h0 (by simp) ho,obS]
 dsimp only
 obtain⟨b,c1,e1,hc1⟩:=xh (k:=k+38) hc 5
 rw[Bool.not_true,cond_false,e1,obS]
 cases b with
 | true =>
  obtain⟨p,c2,e2,hp,hc2⟩:=wph (k:=k) (hc1.mono (by omega)) (n:=(n:Int)) (by omega)
  rw[cond_true,show(algL n (latF n le)).1=(n:Int) from rfl,e2,obS]
  exact⟨_,_,rfl,hp,hc2⟩
 | false =>
  obtain⟨o,e0,o1,o2,o3⟩:=w9s (fs:=latF n le) h10 h0 hfl ho
  rw[cond_false,e0,obS]
  obtain⟨v,c2,e2,hv0,hv1,hc2⟩:=we (k:=k) (hc1.mono (by omega)) (o.length:Int)
  have hv:=hv1 (by omega)
  obtain⟨i,rfl⟩:=Int.eq_ofNat_of_zero_le hv0
  have hi:i<o.length:=by omega
  obtain⟨P,_,eP⟩:=o1 _ (List.getElem_mem hi)
  have hlen:o[i].length=n:=by rw[eP,wd]
  dsimp only
  rw[e2,obS,jf _ i hi,obS,wuh _ (by omega),obS]
  exact⟨_,_,rfl,by dsimp only;omega,hc2⟩
theorem w9n {code:List Int}(hc:Codes code):∃p c,V51 code=some ((p,c,()),())∧DrP 12 p∧c.length≤10:=by
 obtain⟨p,c1,e1,hp,hc1⟩:=wt8 hc
 have hpl:=hp.1
 unfold V51 w95 V50 w94 V49 w93
 rw[e1,obS]
 dsimp only
 rcases w7 hp.rows12 with⟨n,le,e,h,h8,h1,h2⟩|⟨h1,l,h2⟩
 ·subst e
  obtain⟨q,c2,e2,hq,_⟩:=w8d (k:=9000) h h8 (hc1.mono (by omega))
  rw[h1,obS]
  dsimp only
  rw[cond_true,wz h,obS,e2,obS,obS]
  exact⟨_,_,rfl,hp,hq⟩
 ·obtain⟨q,c2,e2,hq,_⟩:=wph (k:=9000) (hc1.mono (by omega)) (n:=(p.1.length:Int)) (by omega)
  rw[h1,obS]
  dsimp only
  rw[cond_false,e2,obS,obS]
  exact⟨_,_,rfl,hp,hq⟩
theorem wn6 {k:Nat}{c:Cu}(hc:COk (k+20) c){p:PT}(hp:DrP 12 p):∃e c',V97 c p=some (e,(c',()))∧COk k c':=by
 have hpl:=hp.1
 have pts:∀{c:Cu},COk (k+8) c→∃x y c1 c2,V96 c p=some (x,(c1,()))∧V96 c1 p=some (y,(c2,()))∧COk k c2:=fun hc=>by
  obtain⟨x,c1,e1,_,_,h1⟩:=wj7 (k:=k+4) hc (p:=p) (by omega)
  obtain⟨y,c2,e2,_,_,h2⟩:=wj7 (k:=k) h1 (p:=p) (by omega)
  exact⟨x,y,c1,c2,e1,e2,h2⟩
 unfold V97 xav
 rcases w8q hp.rows12 with⟨n,le,e,h10,ho,h1,_⟩|⟨h1,_⟩
 ·subst e
  obtain⟨b,c1,e1,hc1⟩:=xh (k:=k+18) hc 10
  rw[h1,obS]
  dsimp only
  rw[cond_true,e1,obS]
  dsimp only
  obtain⟨x,y,c2,c3,e2,e3,h3⟩:=pts (hc1.mono (by omega))
  cases b with
  | true =>
   rw[Bool.not_true,cond_false,e2,obS]
   dsimp only
   rw[e3,obS]
   exact⟨_,_,rfl,h3⟩
  | false =>
   rw[Bool.not_false,cond_true,wi1 (le:=le) (show n≤1000 by omega),obS]
   dsimp only
   by_cases hl:(0:Int)<(edg n le n).length
   ·obtain⟨v,c4,e4,hv0,hv1,hc4⟩:=we (k:=k+16) hc1 ((edg n le n).length:Int)
    have hv:=hv1 (by omega)
    obtain⟨i,rfl⟩:=Int.eq_ofNat_of_zero_le hv0
    rw[cdt hl,e4,obS]
    dsimp only
    rw[jf _ i (by omega),obS,Int.toNat_natCast,List.getElem?_eq_getElem (by omega),obS]
    exact⟨_,_,rfl,hc4.mono (by omega)⟩
   ·rw[cdf hl,e2,obS]
    dsimp only
    rw[e3,obS]
    exact⟨_,_,rfl,h3⟩
 ·obtain⟨x,y,c2,c3,e2,e3,h3⟩:=pts (hc.mono (by omega))
  rw[h1,obS]
  dsimp only
  rw[cond_false,e2,obS]
  dsimp only
  rw[e3,obS]
  exact⟨_,_,rfl,h3⟩
theorem w0f {code:List Int}(hc:Codes code):∃p x y u v,V98 code=some ((p,x,y,u,v,()),())∧DrP 12 p:=by
 obtain⟨p,c1,e1,hp,hc1⟩:=wt8 hc
 obtain⟨a,c2,e2,hc2⟩:=wn6 (k:=9500) (hc1.mono (by omega)) hp
 obtain⟨b,c3,e3,_⟩:=wn6 (k:=9400) (hc2.mono (by omega)) hp
 unfold V98 xaw
 rw[e1,obS]
 dsimp only
 rw[e2,obS]
 dsimp only
 rw[e3,obS]
 exact⟨_,_,_,_,_,rfl,hp⟩
theorem latcg {n:Nat}{le:Nat→Nat→Bool}{P:Nat→Nat}(hg:Cg n (latF n le) P){x y z:Nat}(hx:x<n) (hy:y<n) (hz:z<n) (e:P y=P z):P (mt n le x y)=P (mt n le x z)∧P (mt n (du le) x y)=P (mt n (du le) x z):=by
 have m1:mt n le∈latF n le:=by simp
 have m2:mt n (du le)∈latF n le:=by simp
 constructor
 ·rw[(wa6 hg m1 hx hy).1,(wa6 hg m1 hx hz).1,e]
 ·rw[(wa6 hg m2 hx hy).1,(wa6 hg m2 hx hz).1,e]
theorem blk_mem {n:Nat}{P:Nat→Nat}{r y:Nat}:y∈blkF P n r↔y<n∧P y=r:=by
 unfold blkF;rw[fl_mem,decide_eq_true_eq]
theorem wwm {n:Nat}{le:Nat→Nat→Bool}{P:Nat→Nat}(h:LatP n le) (hg:Cg n (latF n le) P){r:Nat}(hr:r<n) (hrr:P r=r):gb n le (blkF P n r)∈blkF P n r:=by
 have hmem:r∈blkF P n r:=blk_mem.2 ⟨hr,hrr⟩
 refine wua h (S:=blkF P n r) w6 (fun s hs y hy => ?_) _ (fun e=>by rw[e]at hmem;cases hmem) fun t ht=>ht
 obtain⟨s1,s2⟩:=blk_mem.1 hs
 obtain⟨y1,y2⟩:=blk_mem.1 hy
 refine blk_mem.2 ⟨h.mlt s1 y1, ?_⟩
 rw[(latcg hg s1 y1 s1 (y2.trans s2.symm)).1,xd9 h s1,s2]
theorem xgz {n:Nat}{le:Nat→Nat→Bool}{P:Nat→Nat}(hg:Cg n (latF n le) P):Cg n (latF n (du le)) P:=fun f hf=>hg f (by
 simp only[List.mem_cons,List.not_mem_nil,or_false]at hf ⊢
 exact hf.symm)
theorem xd1 {n:Nat}{le:Nat→Nat→Bool}{P:Nat→Nat}(h:LatP n le) (hg:Cg n (latF n le) P){r:Nat}(hr:r<n) (hrr:P r=r) :
  le (gb n le (blkF P n r)) (gb n (du le) (blkF P n r))=true∧(fl n fun z=>le (gb n le (blkF P n r)) z&&le z (gb n (du le) (blkF P n r)))=blkF P n r:=by
 have hmem:r∈blkF P n r:=blk_mem.2 ⟨hr,hrr⟩
 have hlo:=h.gbs (S:=blkF P n r) w6
 have hhi:=h.du.gbs (S:=blkF P n r) w6
 have l1:=blk_mem.1 (wwm h hg hr hrr)
 have l2:=blk_mem.1 (wwm h.du (xgz hg) hr hrr)
 generalize gb n le (blkF P n r)=lo at *
 generalize gb n (du le) (blkF P n r)=hi at *
 refine⟨h.tr hlo.lt hr hhi.lt (hlo.lo r hmem) (hhi.lo r hmem), ?_⟩
 unfold blkF
 refine vd fun y hy => ?_
 rw[Bool.eq_iff_iff,Bool.and_eq_true,decide_eq_true_eq]
 constructor
 ·rintro⟨h1,h2⟩
  have e1:mt n le y hi=y:=h.as (h.mlt hy hhi.lt) hy (h.m1 hy hhi.lt) (h.mg hy hhi.lt hy (h.ord.refl y hy) h2)
  have e2:mt n le y lo=lo:=h.as (h.mlt hy hlo.lt) hlo.lt (h.m2 hy hlo.lt) (h.mg hy hlo.lt hlo.lt h1 (h.ord.refl lo hlo.lt))
  rw[←e1,(latcg hg hy hhi.lt hlo.lt (l2.2.trans l1.2.symm)).1,e2,l1.2]
 ·intro e
  have:=blk_mem.2 ⟨hy,e⟩
  exact⟨hlo.lo y this,hhi.lo y this⟩
theorem wo0 {n:Nat}{le:Nat→Nat→Bool}(h:LatP n le){x y:Nat}(hx:x<n) (hy:y<n) (hxy:le x y=true):V86 (pos n le) (x:Int) (y:Int)=some ((cs (fl n fun z=>le x z&&le z y),true,()),()):=by
 have h10:=h.le10
 have hh:([(x:Int),(y:Int)]).all (inB n)=true:=by simp[inB];omega
 unfold V86 xan
 rw[wfa h,obS]
 dsimp only
 rw[Bool.not_true,cond_false,obS,lat1,w8g _ (by simp),obS,hh]
 dsimp only
 rw[Bool.not_true,cond_false,obS,lat1,jd hx,obS,jd hy,obS,hxy,Bool.not_true,cond_false,obS,lat1]
 unfold V85 xam
 rw[wa3 (mkR_len n _) (by omega) (P:=fun z=>le x z&&le z y)]
 ·rfl
 ·intro z hz
  unfold V83 xal
  simp only[obS,jd hx,jd hy,jd hz]
  cases le x z<;>rfl
theorem wus {u:Nat→Nat→Bool}{x k i:Nat}{S:BS}(h:S.1[i]? = some true):(stp u x S k).1[i]? = some true:=by
 unfold stp
 split
 ·rename_i hc
  by_cases e:k=i
  ·subst e;rw[h]at hc;simp at hc
  ·show(S.1.set k true)[i]? = some true
   rw[List.getElem?_set_ne e];exact h
 ·exact h
theorem wpe {u:Nat→Nat→Bool}{x i:Nat}{S:BS}(h:S.1[i]? = some true):∀k,(insK u x S k).1[i]? = some true
 | 0=>h
 | k+1=>wus (wpe h k)
theorem wt5 {u:Nat→Nat→Bool}{m i:Nat}{S:BS}{a:Nat}(h:(bfs u m S a).1[i]? = some true):∀d,(bfs u m S (a+d)).1[i]? = some true
 | 0=>h
 | d+1=>by
  have ih:=wt5 h d
  show(bfs u m S (a+d+1)).1[i]? = some true
  unfold bfs
  split
  ·exact wpe ih m
  ·exact ih
theorem wue {u:Nat→Nat→Bool}{m x i:Nat}{S:BS}(hS:BOk m S) (hu:(u x i||u i x)=true):∀k,k≤m→i<k→(insK u x S k).1[i]? = some true
 | 0,_,hi=>by omega
 | k+1,hk,hi=>by
  by_cases e:i=k
  ·subst e
   have hok:=wj2 (u:=u) (x:=x) hS i (by omega)
   unfold insK stp
   split
   ·rename_i hc
    have hl:i<(insK u x S i).1.length:=by rw[hok.1];omega
    show((insK u x S i).1.set i true)[i]? = some true
    rw[List.getElem?_set_self hl]
   ·rename_i hc
    have hl:i<(insK u x S i).1.length:=by rw[hok.1];omega
    rw[List.getElem?_eq_getElem hl]at hc ⊢
    cases hv:(insK u x S i).1[i] with
    | true=>rfl
    | false=>rw[hv]at hc;exact absurd ⟨rfl,hu⟩ hc
  ·exact wus (wue hS hu k (by omega) (by omega))
theorem w9j {u:Nat→Nat→Bool}{m j i L:Nat}(hj:j<m) (hi:i<m) (hu:(u j i||u i j)=true) (hL:(bfs u m (start m j) L).2.length≤L):(bfs u m (start m j) L).1[i]? = some true:=by
 have h1:(bfs u m (start m j) 1).1[i]? = some true:=by
  have hok:=wur hj
  show(bfs u m (start m j) (0+1)).1[i]? = some true
  unfold bfs
  have e:(bfs u m (start m j) 0).2[0]? = some j:=rfl
  rw[e]
  exact wue hok hu m (Nat.le_refl _) hi
 cases L with
 | zero=>exact absurd hL (by show ¬1≤0;omega)
 | succ L =>
  have:=wt5 h1 L
  rwa [Nat.add_comm]at this
def SV (m:Nat) (V:Nat→Prop) (S:BS):Prop:=(∀x∈S.2,x<m∧V x)∧∀i,S.1[i]? = some true→i<m∧V i
theorem xg3 {u:Nat→Nat→Bool}{m x k:Nat}{V:Nat→Prop}{S:BS}(hu:∀x i,x<m→i<m→V x→(u x i||u i x)=true→V i) (hk:k<m) (hx:x<m∧V x) (h:SV m V S):SV m V (stp u x S k):=by
 unfold stp
 split
 ·rename_i hc
  have hv:=hu x k hx.1 hk hx.2 hc.2
  refine⟨fun y hy => ?_,fun i hi => ?_⟩
  ·rcases List.mem_append.1 hy with q|q
   ·exact h.1 y q
   ·rw[List.mem_singleton]at q;subst q;exact⟨hk,hv⟩
  ·have hi:(S.1.set k true)[i]? = some true:=hi
   by_cases e:k=i
   ·subst e;exact⟨hk,hv⟩
   ·rw[List.getElem?_set_ne e]at hi;exact h.2 i hi
 ·exact h
theorem w8h {u:Nat→Nat→Bool}{m x:Nat}{V:Nat→Prop}{S:BS}(hu:∀x i,x<m→i<m→V x→(u x i||u i x)=true→V i) (hx:x<m∧V x) (h:SV m V S):∀k,k≤m→SV m V (insK u x S k)
 | 0,_=>h
 | k+1,hk=>xg3 hu (by omega) hx (w8h hu hx h k (by omega))
theorem xa3 {u:Nat→Nat→Bool}{m:Nat}{V:Nat→Prop}{S:BS}(hu:∀x i,x<m→i<m→V x→(u x i||u i x)=true→V i) (h:SV m V S):∀i,SV m V (bfs u m S i)
 | 0=>h
 | i+1=>by
  have ih:=xa3 hu h i
  unfold bfs
  split
  ·rename_i x hx
   exact w8h hu (ih.1 x (List.mem_of_getElem? hx)) ih m (Nat.le_refl _)
  ·exact ih
theorem xec {m j:Nat}{V:Nat→Prop}(hj:j<m) (hv:V j):SV m V (start m j):=by
 refine⟨fun x hx => ?_,fun i hi => ?_⟩
 ·have:x=j:=by simpa [start] using hx
  subst this;exact⟨hj,hv⟩
 ·have hi:((List.replicate m false).set j true)[i]? = some true:=hi
  by_cases e:j=i
  ·subst e;exact⟨hj,hv⟩
  ·rw[List.getElem?_set_ne e,List.getElem?_replicate]at hi
   split at hi<;>simp at hi
theorem pick_mem {E:List P2}{s:List Bool}{k:Nat}{e:P2}:e∈pick E s k↔∃i,i<k∧s[i]? = some true∧E[i]? = some e:=by
 unfold pick
 rw[List.mem_filterMap]
 constructor
 ·rintro⟨i,hi,he⟩
  split at he
  ·rename_i hs
   exact⟨i,List.mem_range.1 hi,hs,he⟩
  ·cases he
 ·rintro⟨i,hi,hs,he⟩
  exact⟨i,List.mem_range.2 hi,by rw[if_pos hs];exact he⟩
theorem we0 {n:Nat}{le:Nat→Nat→Bool}(h:LatP n le) (h8:n≤8) (h2:V63 (pos n le)=some ((some (lat n le),true,()),())){a b:Nat}(ha:a<n) (hb:b<n) (hcv:cov n le a b=true) :
  ∃j0 L,(edg n le n)[j0]? = some ((a:Int),(b:Int),())∧(bfs (eup n le (edg n le n)) (edg n le n).length (start (edg n le n).length j0) L).2.length≤L ∧
   V95 big (pos n le) (a:Int) (b:Int)=some ((pick (edg n le n) (bfs (eup n le (edg n le n)) (edg n le n).length (start (edg n le n).length j0) L).1 (edg n le n).length,true,()),()):=by
 have hm:=wu n le n
 have b3:n*n≤8*8:=Nat.mul_le_mul h8 h8
 have hmem:(((a:Int),(b:Int),()):P2)∈edg n le n:=edgMem.2 ⟨a,b,ha,hb,hcv,rfl⟩
 obtain⟨j0,hj0,hje⟩:=List.getElem_of_mem hmem
 have hje? : (edg n le n)[j0]? = some ((a:Int),(b:Int),()):=by rw[List.getElem?_eq_getElem hj0,hje]
 have hst:=wur hj0
 obtain⟨L,q1,q2,q3⟩:=xd0 (u:=eup n le (edg n le n)) hst
 refine⟨j0,L,hje?,q2, ?_⟩
 have hc:(inB n (a:Int)&&inB n (b:Int)&&cov n le (a:Int).toNat (b:Int).toNat)=true:=by
  rw[wwr,wwr,Int.toNat_natCast,Int.toNat_natCast,hcv];simp[ha,hb]
 unfold V95 wz4
 rw[h2]
 simp only[obS,Bool.not_true,cond_false,wa9 (le:=le) (show n≤1048576 by omega),hc]
 have hk:knows (edg n le n) (mput K2 .bool [] ((a:Int),(b:Int),()) true) (start (edg n le n).length j0).1:=by
  intro i hi
  rw[wiz]
  unfold start
  rw[List.getD_eq_getElem?_getD]
  by_cases hij:i=j0
  ·subst hij
   rw[if_pos hje,List.getElem?_set_self (by simpa using hi)]
  ·rw[if_neg (fun e=>hij ((List.getElem_inj (wiy n le n)).1 (e.trans hje.symm))),List.getElem?_set_ne (Ne.symm hij),List.getElem?_replicate]
   simp[hi,mget]
 have hline:[(((a:Int),(b:Int),()):P2)]=lineOf (edg n le n) (start (edg n le n).length j0).2:=by
  simp only[start,lineOf,List.map_cons,List.map_nil]
  rw[List.getD_eq_getElem?_getD,hje?]
  rfl
 rw[hline,w9q h h8 hst hk q1 q2 q3]
theorem we7 {E:List P2}{i a b:Nat}(h:E[i]? = some ((a:Int),(b:Int),())):ea E i=a∧eb E i=b:=by
 unfold ea eb
 rw[List.getD_eq_getElem?_getD,h]
 simp
theorem w8p {n:Nat}{le:Nat→Nat→Bool}{P:Nat→Nat}(h:LatP n le) (hg:Cg n (latF n le) P){x i:Nat}(hx:x<(edg n le n).length) (hi:i<(edg n le n).length) (hv:P (ea (edg n le n) x)=P (eb (edg n le n) x))
  (hu:(eup n le (edg n le n) x i||eup n le (edg n le n) i x)=true):P (ea (edg n le n) i)=P (eb (edg n le n) i):=by
 obtain⟨_,a1,a2⟩:=wa8 hx
 obtain⟨_,b1,b2⟩:=wa8 hi
 have lx:le (ea (edg n le n) x) (eb (edg n le n) x)=true∧le (ea (edg n le n) i) (eb (edg n le n) i)=true:=by
  have key:∀k,k<(edg n le n).length→le (ea (edg n le n) k) (eb (edg n le n) k)=true:=fun k hk=>by
   obtain⟨a,b,ha,hb,hc,he⟩:=edgMem.1 (List.getElem_mem hk)
   have:=we7 (E:=edg n le n) (i:=k) (a:=a) (b:=b) (by rw[List.getElem?_eq_getElem hk,he])
   rw[this.1,this.2]
   have:=xgm hc
   unfold ls at this
   rw[Bool.and_eq_true]at this
   exact this.2
  exact⟨key x hx,key i hi⟩
 unfold eup persp at hu
 generalize ea (edg n le n) x=a at *
 generalize eb (edg n le n) x=b at *
 generalize ea (edg n le n) i=c at *
 generalize eb (edg n le n) i=d at *
 obtain⟨lab,lcd⟩:=lx
 rw[Bool.or_eq_true,Bool.and_eq_true,Bool.and_eq_true,decide_eq_true_eq,decide_eq_true_eq,decide_eq_true_eq,decide_eq_true_eq]at hu
 rcases hu with⟨e1,e2⟩|⟨e1,e2⟩
 ·have hac:le a c=true:=by rw[←e2];exact h.m2 a2 b1
  have:mt n (du le) c a=c:=h.as (jlt h b1 a1) b1 (jg h b1 a1 b1 (h.ord.refl c b1) hac) (j1 h b1 a1)
  have q:=(latcg hg b1 a1 a2 hv).2
  rw[this,xd8 (le:=du le) c b,e1]at q
  exact q
 ·have hdb:le d b=true:=by rw[←e1];exact j1 h b2 a1
  have:mt n le d b=d:=h.as (h.mlt b2 a2) b2 (h.m1 b2 a2) (h.mg b2 a2 b2 (h.ord.refl d b2) hdb)
  have q:=(latcg hg b2 a1 a2 hv).1
  rw[this,e2]at q
  exact q
theorem w8r (p:PT) (x y u v:Int) (hx:∀r∈p.1,r.length≤4294967296):∃b f:Bool,V99 p x y u v=some ((b,f,()),())∧V105 p x y u v=some ((b,f,()),()) ∧
  (f=true→b=true→∃n le,∃a c d e:Nat,p=pos n le∧LatP n le∧n≤8∧V63 p=some ((some (lat n le),true,()),())∧x=(a:Int)∧y=(c:Int)∧u=(d:Int)∧v=(e:Int)∧a<n∧c<n∧d<n∧e<n∧cov n le a c=true∧cov n le d e=true∧persp n le a c d e=true):=by
 obtain⟨⟨b,f,⟨⟩⟩,s1,i1⟩:=w0n p x y u v hx
 refine⟨b,f,i1,s1,fun hf hb => ?_⟩
 subst hf;subst hb
 unfold V99 wz5 at i1
 rcases w7 hx with⟨n,le,e,h,h8,h1,h2⟩|⟨h1,l,h2⟩
 ·subst e
  rw[h2]at i1
  simp only[obS,Bool.not_true,cond_false,wa9 (le:=le) (show n≤1048576 by omega)]at i1
  cases c1:inB n x&&inB n y&&cov n le x.toNat y.toNat with
  | false=>rw[c1]at i1;simp at i1
  | true =>
   cases c2:inB n u&&inB n v&&cov n le u.toNat v.toNat with
   | false=>rw[c1,c2]at i1;simp at i1
   | true =>
    rw[c1,c2]at i1
    simp only[Bool.and_eq_true]at c1 c2
    obtain⟨a,ha,rfl⟩:=wi c1.1.1
    obtain⟨c,hc,rfl⟩:=wi c1.1.2
    obtain⟨d,hd,rfl⟩:=wi c2.1.1
    obtain⟨e,he,rfl⟩:=wi c2.1.2
    simp only[Bool.not_true,cond_false,wy h hc hd,obS,Option.some.injEq,Prod.mk.injEq,and_true]at i1
    exact⟨n,le,a,c,d,e,rfl,h,h8,h2,rfl,rfl,rfl,rfl,ha,hc,hd,he,by simpa using c1.2,by simpa using c2.2,i1⟩
 ·rw[h2]at i1
  simp at i1
theorem wkc {code:List Int}(hc:Codes code):wn (wl big) code=some (true,()):=by
 obtain⟨p,x,y,u,v,e1,hp⟩:=w0f hc
 obtain⟨b,f,i1,s1,hv⟩:=w8r p x y u v hp.rows12
 unfold wn
 rw[e1,obS]
 dsimp only
 rw[i1,obS,s1,obS]
 dsimp only
 rw[bne_self_eq_false,cond_false,bne_self_eq_false,cond_false]
 cases f with
 | false=>rfl
 | true =>
  cases b with
  | false=>rfl
  | true =>
   obtain⟨n,le,a,c,d,e,rfl,h,h8,h2,rfl,rfl,rfl,rfl,ha,hc',hd,he,c1,c2,c3⟩:=hv rfl rfl
   obtain⟨j0,L,q1,q2,q3⟩:=we0 h h8 h2 ha hc' c1
   rw[cond_true,cond_true,q3,obS]
   dsimp only
   have hmem:(((d:Int),(e:Int),()):P2)∈edg n le n:=edgMem.2 ⟨d,e,hd,he,c2,rfl⟩
   obtain⟨i1,hi1,hie⟩:=List.getElem_of_mem hmem
   have hie? : (edg n le n)[i1]? = some ((d:Int),(e:Int),()):=by rw[List.getElem?_eq_getElem hi1,hie]
   have hj0:=(List.getElem?_eq_some_iff.1 q1).1
   have hu:eup n le (edg n le n) j0 i1=true:=by
    unfold eup
    rw[(we7 q1).1,(we7 q1).2,(we7 hie?).1,(we7 hie?).2];exact c3
   have hn:=w9j hj0 hi1 (u:=eup n le (edg n le n)) (by rw[hu];rfl) q2
   have hin:=pick_mem.2 ⟨i1,hi1,hn,hie?⟩
   have hlen:=wkh (edg n le n) (bfs (eup n le (edg n le n)) (edg n le n).length (start (edg n le n).length j0) L).1 (edg n le n).length
   have hm:=wu n le n
   have b3:n*n≤8*8:=Nat.mul_le_mul h8 h8
   generalize pick (edg n le n) (bfs (eup n le (edg n le n)) (edg n le n).length (start (edg n le n).length j0) L).1 (edg n le n).length=near at *
   refine xdz near.length (fun i b=>((d:Int),(e:Int),())∈near.take i→b=true) (by omega) (fun rc i b hi hI hr => ?_) (fun rc b hI => ?_) 0 (by omega) _ (by simp)
   ·unfold wex
    rw[cdt (by omega),wr1 (by omega)]
    cases b with
    | true=>exact hr true fun _=>rfl
    | false =>
     rw[cond_false,jf _ i hi,obS,Int.toNat_natCast,List.getElem?_eq_getElem hi,obS,y5]
     refine hr _ fun q => ?_
     rcases (uh hi).1 q with r|r
     ·exact absurd (hI r) (by simp)
     ·rw[←r];simp
   ·have hb:=hI (by rw[List.take_length];exact hin)
    subst hb
    unfold wex
    rw[cdf (by omega)]
    rfl
theorem wpo {n:Nat}{le:Nat→Nat→Bool}{P:Nat→Nat}(h:LatP n le) (h8:n≤8) (h1:V26 (pos n le)=some (true,())) (h2:V63 (pos n le)=some ((some (lat n le),true,()),())) (hP:Pt n P) (hg:Cg n (latF n le) P) :
  V91 big (pos n le) (ptL n P)=some ((colE P (edg n le n),true,()),())∧V92 big (pos n le) (ptL n P)=some ((colE P (edg n le n),true,()),()):=by
 have hc:(ptL n P).length≤1048576:=by rw[wd];omega
 have hlen:=wu n le n
 have b3:n*n≤8*8:=Nat.mul_le_mul h8 h8
 obtain⟨r1,r2⟩:=woy (P:=P) (E:=edg n le n) (show n≤1048576 by omega) (fun e he=>wwo (Nat.le_refl n) he) (by omega)
 unfold V92 wz0 V91 wzy
 rw[h1,h2]
 simp only[obS,Bool.not_true,cond_false,wz h,y7 h,y9 h hc,wkg h hc]
 simp only[tv_t (show CongL n (latF n le) (ptL n P) from⟨P,hP,rfl,hg⟩),Bool.not_true,cond_false,lat1,wi1 (le:=le) (show n≤1000 by omega),y6 (le:=le) (show n≤1000 by omega),obS,r1,r2]
 exact⟨trivial,trivial⟩
theorem w79 {code:List Int}(hc:Codes code){n:Nat}{le:Nat→Nat→Bool}{P:Nat→Nat}(h:LatP n le) (h8:n≤8) (h1:V26 (pos n le)=some (true,())) (h2:V63 (pos n le)=some ((some (lat n le),true,()),())) (hP:Pt n P) (hg:Cg n (latF n le) P) :
  x7 (x5 big) code (pos n le) (ptL n P)=some (true,()):=by
 obtain⟨v1,v2⟩:=wpo h h8 h1 h2 hP hg
 have hlen:=wu n le n
 have b3:n*n≤8*8:=Nat.mul_le_mul h8 h8
 have hcl:=wke P (edg n le n)
 unfold x7
 rw[v1,obS,v2,obS]
 dsimp only
 rw[bne_self_eq_false,cond_false,Bool.not_true,cond_false,cdf (by omega)]
 refine xdx (colE P (edg n le n)).length (fun _=>True) (by omega) (fun rc i hi hI hr => ?_) (fun rc hI => ?_) 0 (by omega) trivial
 ·have hm:=List.mem_filter.1 (List.getElem_mem hi)
  obtain⟨a,b,ha,hb,hcv,he⟩:=edgMem.1 hm.1
  have hPe:P a=P b:=by
   have:=hm.2
   rw[he]at this
   simpa using this
  obtain⟨j0,L,q1,q2,q3⟩:=we0 h h8 h2 ha hb hcv
  have hj0:=(List.getElem?_eq_some_iff.1 q1).1
  unfold zy
  rw[cdt (by omega)]
  simp only[jf _ i hi,obS,Int.toNat_natCast,List.getElem?_eq_getElem hi,y5,decide_true,Bool.not_true,cond_false]
  rw[he]
  dsimp only
  rw[q3,obS]
  dsimp only
  rw[Bool.not_true,cond_false]
  have hV:=xa3 (u:=eup n le (edg n le n)) (V:=fun i=>P (ea (edg n le n) i)=P (eb (edg n le n) i)) (fun x i hx hi hv hu=>w8p h hg hx hi hv hu) (xec hj0 (by rw[(we7 q1).1,(we7 q1).2];exact hPe)) L
  have hpl:=wkh (edg n le n) (bfs (eup n le (edg n le n)) (edg n le n).length (start (edg n le n).length j0) L).1 (edg n le n).length
  have hnear:∀e∈pick (edg n le n) (bfs (eup n le (edg n le n)) (edg n le n).length (start (edg n le n).length j0) L).1 (edg n le n).length,∃x y:Nat,x<n∧y<n∧P x=P y∧e=((x:Int),(y:Int),()):=fun e he=>by
   obtain⟨i,hi,hs,hE⟩:=pick_mem.1 he
   obtain⟨w1,w2⟩:=hV.2 i hs
   obtain⟨f1,f2,f3⟩:=wa8 hi
   rw[List.getElem?_eq_getElem hi]at hE
   exact⟨_,_,f2,f3,w2,(Option.some.inj hE).symm.trans f1⟩
  generalize pick (edg n le n) (bfs (eup n le (edg n le n)) (edg n le n).length (start (edg n le n).length j0) L).1 (edg n le n).length=near at *
  refine xdy near.length (fun _=>True) (by omega) (fun rc2 k hk _ hr2 => ?_) (fun rc2 _ => ?_) 0 (by omega) trivial
  ·obtain⟨x,y,hx,hy,hxy,hn⟩:=hnear _ (List.getElem_mem hk)
   unfold wew
   rw[cdt (by omega),jf _ k hk,obS,obS,hn]
   dsimp only
   rw[cdf (by omega),cdf (by omega),wd,cdf (by omega),cdf (by omega)]
   unfold ptL
   rw[jd hx,obS,jd hy,obS,cdf (by omega),wr1 (by omega)]
   exact hr2 trivial
  ·unfold wew zx
   rw[cdf (by omega),wr1 (by omega)]
   exact hr trivial
 ·unfold zy
  rw[cdf (by omega)]
  exact wkc hc
end Go.Proofs.YteanfidobhpchaaGreat
