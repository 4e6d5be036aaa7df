import Derived.Test.YteanfidobhpchaaPTab
import Derived.Test.YteanfidobhpchaaHIV
import Derived.KernelRfl
set_option linter.unusedVariables false
set_option linter.unusedSimpArgs false
namespace Go.Proofs.Yteanfidobhpchaa
open Go Go.Gx Go.Proofs
theorem wp7 (x a b:Int):V6 x a b=some (decide (a≤x∧x≤b),()):=by
 unfold V6 V6_s
 by_cases h:a≤x<;>simp[h]
def subst (l:Int) (s:List Int):List Int→List Int
 | []=>[]
 | x::xs=>if x=l then s++subst l s xs else x::subst l s xs
def risingB:List Int→Bool
 | x::y::r=>decide (x<y)&&risingB (y::r)
 | _=>true
def inB (n:Nat) (x:Int):Bool:=decide (0≤x∧x<n)
def isSetB (n:Nat) (s:List Int):Bool:=s.all (inB n)&&risingB s
theorem wgf (l:List Int) (i:Nat) (h:i<l.length) (h1:1≤i):risingB (l.drop (i-1))=(decide (l[i-1]<l[i])&&risingB (l.drop i)):=by
 rw[List.drop_eq_getElem_cons (show i-1<l.length by omega),show i-1+1=i by omega,List.drop_eq_getElem_cons h]
 rfl
theorem wjw (l:List Int) (i:Nat) (h:l.length≤i) (h1:1≤i):risingB (l.drop (i-1))=true:=by
 by_cases h2:l.length=i
 ·rw[List.drop_eq_getElem_cons (show i-1<l.length by omega),List.drop_eq_nil_of_le (by omega)]
  rfl
 ·rw[List.drop_eq_nil_of_le (by omega)]
  rfl
theorem wfm (N:Nat){m:Nat}:∀(n:Nat) (l:List Int) (i:Nat),l.length-i<n→i≤l.length→l.length≤1099511627776 →
  wa3 N wds n l 0 ((m:Int)-1) i=some ((l.drop i).all (inB m)&&risingB (l.drop (i-1)),())
 | 0,_,_,h,_,_=>by omega
 | n+1,l,i,h,hi,hb=>by
  simp only[wa3,wms]
  by_cases hlt:i<l.length
  ·have e:decide (0≤l[i]∧l[i]≤(m:Int)-1)=inB m l[i]:=by
    unfold inB;congr 1;exact propext ⟨fun h=>⟨h.1,by omega⟩,fun h=>⟨h.1,by omega⟩⟩
   rw[cdt (by omega),jf l i hlt,obS,wp7,obS,e,wr (n:=(i:Int)+1) (by omega) (by omega),wr (n:=(i:Int)-1) (by omega) (by omega)]
   rw[show((i:Int)+1)=((i+1:Nat):Int) by omega,wfm N n l (i+1) (by omega) (by omega) hb]
   rw[show i+1-1=i by omega]
   cases hin:inB m l[i] with
   | false =>
    rw[List.drop_eq_getElem_cons hlt,List.all_cons,hin]
    rfl
   | true =>
    simp only[Bool.not_true,cond_false]
    by_cases h0:0<i
    ·rw[cdt (by omega),show((i:Int)-1)=((i-1:Nat):Int) by omega,jf l (i-1) (by omega),obS,obS,wgf l i hlt h0]
     by_cases hle:l[i]≤l[i-1]
     ·rw[cdt hle,decide_eq_false (by omega)]
      simp
     ·rw[cdf hle,decide_eq_true (show l[i-1]<l[i] by omega),List.drop_eq_getElem_cons hlt,List.all_cons,hin]
      simp
    ·rw[cdf (by omega)]
     have:i=0:=by omega
     subst this
     rw[show(0:Nat)-1=0 from rfl,List.drop_eq_getElem_cons hlt,List.all_cons,hin]
     simp
  ·rw[cdf (by omega),List.drop_eq_nil_of_le (by omega)]
   by_cases h1:1≤i
   ·rw[wjw l i (by omega) h1];rfl
   ·have:l=[]:=List.eq_nil_of_length_eq_zero (by omega)
    subst this
    simp[risingB,wds]
theorem wom (N:Nat){m:Nat}:∀(n:Nat) (l:List Int) (i:Nat),l.length-i<n→i≤l.length→l.length≤1099511627776 →
  wdb N wl4 n (m:Int) l (l.length:Int) i=some ((l.drop i).all (inB m),())
 | 0,_,_,h,_,_=>by omega
 | n+1,l,i,h,hi,hb=>by
  simp only[wdb,wl5]
  by_cases hlt:i<l.length
  ·rw[cdt (by omega),jf l i hlt,obS,wr (n:=(i:Int)+1) (by omega) (by omega)]
   rw[show((i:Int)+1)=((i+1:Nat):Int) by omega,wom N n l (i+1) (by omega) (by omega) hb]
   rw[List.drop_eq_getElem_cons hlt,List.all_cons]
   unfold inB
   by_cases h0:l[i]<0
   ·rw[cdt h0,decide_eq_false (by omega)];rfl
   ·rw[cdf h0]
    by_cases h1:(m:Int)≤l[i]
    ·rw[cdt h1,decide_eq_false (by omega)];rfl
    ·rw[cdf h1,decide_eq_true (by omega)];rfl
  ·rw[cdf (by omega),List.drop_eq_nil_of_le (by omega)]
   rfl
theorem wqb (N:Nat):∀(n:Nat) (l:List Int) (i:Nat),l.length-i<n→1≤i→l.length≤1099511627776→i≤1099511627777 →
  wda N wl0 n l i=some (risingB (l.drop (i-1)),())
 | 0,_,_,h,_,_,_=>by omega
 | n+1,l,i,h,hi,hb,hi2=>by
  simp only[wda,wl1]
  by_cases hlt:i<l.length
  ·rw[cdt (by omega),wr (n:=(i:Int)-1) (by omega) (by omega),show((i:Int)-1)=((i-1:Nat):Int) by omega,jf l (i-1) (by omega),obS,jf l i hlt,obS,wr (n:=(i:Int)+1) (by omega) (by omega)]
   rw[show((i:Int)+1)=((i+1:Nat):Int) by omega,wqb N n l (i+1) (by omega) (by omega) hb (by omega),wgf l i hlt hi,show i+1-1=i by omega]
   by_cases hle:l[i]≤l[i-1]
   ·rw[cdt hle,decide_eq_false (by omega)];rfl
   ·rw[cdf hle,decide_eq_true (by omega)];rfl
  ·rw[cdf (by omega),wjw l i (by omega) hi]
   rfl
theorem wr1 {i:Nat}(h:i≤4611686018427387904):IntKind.i64.wrap ((i:Int)+1)=((i+1:Nat):Int):=by rw[wr (by omega) (by omega)];omega
abbrev PT:=List (List Int)×Unit
def pos (n:Nat) (le:Nat→Nat→Bool):PT:=(mkR n fun y=>cs (fl n fun x=>le x y),())
def leP (p:PT) (x y:Nat):Bool:=decide ((x:Int)∈p.1.getD y [])
structure Ord (n:Nat) (le:Nat→Nat→Bool):Prop where
 refl:∀x,x<n→le x x=true
 anti:∀x y,x<n→y<n→x≠y→le x y=true→le y x=false
 trans:∀x y z,x<n→y<n→z<n→le x y=true→le y z=true→le x z=true
structure Good (p:PT):Prop where
 len:p.1.length≤10
 rows:∀r∈p.1,isSetB p.1.length r=true
 ord:Ord p.1.length (leP p)
theorem wgj (l:List Int) (x:Int) (h:l.length≤4294967296):V14 big l x=some (decide (x∈l),()):=by
 unfold V14 wql
 refine w3e l.length (fun i=>x ∉ l.take i) (by omega) ?_ ?_ 0 (by omega) (by simp)
 ·intro rc i hi hv ih
  unfold wc2
  rw[cdt (by omega),jf l i hi,obS]
  by_cases hx:l[i]=x
  ·rw[cdt hx,decide_eq_true (hx▸List.getElem_mem hi)]
  ·rw[cdf hx,wr1 (by omega)]
   refine ih fun h => ?_
   rw[List.take_succ_eq_append_getElem hi,List.mem_append,List.mem_singleton]at h
   exact h.elim hv fun e=>hx e.symm
 ·intro rc hv
  unfold wc2
  rw[cdf (by omega),wab,decide_eq_false (by simpa using hv)]
theorem wor (S:List Nat) (x:Nat) (h:S.length≤4294967296):V14 big (cs S) (x:Int)=some (decide (x∈S),()):=by
 rw[wgj _ _ (by simpa using h)]
 simp only[cs_mem]
theorem wo2 (a b:List Int) (ha:a.length≤4294967296) (hb:b.length≤4294967296):V41 big a b=some (tv (∀x∈a,x∈b),()):=by
 unfold V41 wrb
 refine w3v a.length (fun i=>∀x∈a.take i,x∈b) (by omega) ?_ ?_ 0 (by omega) (by simp)
 ·intro rc i hi hv ih
  unfold wdu
  rw[cdt (by omega),jf a i hi,obS,wgj _ _ hb,obS]
  by_cases hx:a[i]∈b
  ·rw[decide_eq_true hx,wr1 (by omega)]
   exact ih ((qn hi).2 ⟨hv,hx⟩)
  ·rw[decide_eq_false hx,tv_f fun h=>hx (h _ (List.getElem_mem hi))]
   rfl
 ·intro rc hv
  unfold wdu
  rw[cdf (by omega),wa4,tv_t (by simpa using hv)]
theorem wks (n:Nat) (s:List Int) (hn:n≤1099511627776) (hs:s.length≤1099511627775):V40 big s 0 ((n:Int)-1)=some (isSetB n s,()):=by
 have hb:=jp
 unfold V40 wq9 wmq
 have:=wfm big (m:=n) big s 0 (by omega) (by omega) (by omega)
 rw[show wa3 big wds big s 0 ((n:Int)-1) 0=_ from this]
 rfl
theorem wkk (n:Nat) (s:List Int) (hs:s.length≤1099511627775):V25 big s (n:Int)=some (s.all (inB n),()):=by
 have hb:=jp
 unfold V25 wqv wl2
 have h1:=wom big (m:=n) big s 0 (by omega) (by omega) (by omega)
 rw[show(0:Int)=((0:Nat):Int) from rfl,h1]
 rfl
theorem wzu (s:List Int) (hs:s.length≤1099511627775):V24 big s=some (risingB s,()):=by
 have hb:=jp
 unfold V24 wqt wly
 have h2:=wqb big big s 1 (by omega) (by omega) (by omega) (by omega)
 rw[show(1:Int)=((1:Nat):Int) from rfl,h2]
 rfl
theorem wge:∀{l:List Int},risingB l=true→l.Pairwise (·<·)
 | [],_=>List.Pairwise.nil
 | [x],_=>by simp
 | x::y::r,h=>by
  simp only[risingB,Bool.and_eq_true,decide_eq_true_eq]at h
  have h2:=wge h.2
  refine List.pairwise_cons.2 ⟨fun z hz => ?_,h2⟩
  rcases List.mem_cons.1 hz with rfl|hz
  ·exact h.1
  ·have:=(List.pairwise_cons.1 h2).1 z hz
   omega
theorem wgc:∀{l:List Int},l.Pairwise (·<·)→risingB l=true
 | [],_=>rfl
 | [x],_=>rfl
 | x::y::r,h=>by
  have h1:=List.pairwise_cons.1 h
  simp only[risingB,Bool.and_eq_true,decide_eq_true_eq]
  exact⟨h1.1 y (by simp),wgc h1.2⟩
theorem wou:∀{l m:List Int},l.Pairwise (·<·)→m.Pairwise (·<·)→(∀x,x∈l↔x∈m)→l=m
 | [],[],_,_,_=>rfl
 | [],y::m,_,_,h=>by have:=(h y).2 (by simp);simp at this
 | x::l,[],_,_,h=>by have:=(h x).1 (by simp);simp at this
 | x::l,y::m,h1,h2,h=>by
  have p1:=List.pairwise_cons.1 h1
  have p2:=List.pairwise_cons.1 h2
  have e:x=y:=by
   rcases List.mem_cons.1 ((h x).1 (by simp)) with e|hx
   ·exact e
   ·rcases List.mem_cons.1 ((h y).2 (by simp)) with e|hy
    ·exact e.symm
    ·have:=p1.1 y hy
     have:=p2.1 x hx
     omega
  subst e
  congr 1
  refine wou p1.2 p2.2 fun z => ?_
  constructor
  ·intro hz
   rcases List.mem_cons.1 ((h z).1 (List.mem_cons_of_mem _ hz)) with e|hz2
   ·have:=p1.1 z hz;omega
   ·exact hz2
  ·intro hz
   rcases List.mem_cons.1 ((h z).2 (List.mem_cons_of_mem _ hz)) with e|hz2
   ·have:=p2.1 z hz;omega
   ·exact hz2
theorem wp6 (n:Nat) (P:Nat→Bool):(cs (fl n P)).Pairwise (·<·):=by
 unfold cs fl
 rw[List.pairwise_map]
 refine List.Pairwise.filter _ ?_
 have:=List.pairwise_lt_range (n:=n)
 exact this.imp fun h=>by omega
theorem wko {n:Nat}{l:List Int}(h:isSetB n l=true):l=cs (fl n fun x=>decide ((x:Int)∈l)):=by
 unfold isSetB at h
 rw[Bool.and_eq_true]at h
 refine wou (wge h.2) (wp6 _ _) fun x => ?_
 constructor
 ·intro hx
  have h1:=List.all_eq_true.1 h.1 x hx
  unfold inB at h1
  rw[decide_eq_true_eq]at h1
  have e:x=((x.toNat:Nat):Int):=by omega
  rw[e,cs_mem,fl_mem]
  refine⟨by omega,decide_eq_true ?_⟩
  rw[←e];exact hx
 ·intro hx
  unfold cs at hx
  obtain⟨y,hy,e⟩:=List.mem_map.1 hx
  have:=(fl_mem.1 hy).2
  rw[decide_eq_true_eq]at this
  exact e▸this
theorem w26 (n:Nat) (P:Nat→Bool):isSetB n (cs (fl n P))=true:=by
 unfold isSetB
 rw[Bool.and_eq_true]
 refine⟨List.all_eq_true.2 fun x hx => ?_,wgc (wp6 n P)⟩
 unfold cs at hx
 obtain⟨y,hy,e⟩:=List.mem_map.1 hx
 have:=(fl_mem.1 hy).1
 unfold inB
 exact decide_eq_true (by omega)
theorem wow {p:PT}(h:∀r∈p.1,isSetB p.1.length r=true):p=pos p.1.length (leP p):=by
 unfold pos
 refine Prod.ext ?_ rfl
 refine jb6 rfl fun i hi => ?_
 refine(wko (h _ (List.getElem_mem hi))).trans ?_
 refine congrArg cs (vd fun x hx => ?_)
 unfold leP
 simp[hi]
theorem wb (n:Nat) (le:Nat→Nat→Bool):(pos n le).1.length=n:=mkR_len n _
theorem wox (n:Nat) (le:Nat→Nat→Bool):∀r∈(pos n le).1,isSetB (pos n le).1.length r=true:=by
 intro r hr
 rw[wb]
 obtain⟨i,_,e⟩:=mkR_mem.1 hr
 exact e▸w26 _ _
theorem wp8 {n:Nat}{le:Nat→Nat→Bool}{x y:Nat}(hx:x<n) (hy:y<n):leP (pos n le) x y=le x y:=by
 unfold leP pos
 simp only[List.getD_eq_getElem?_getD,jr hy,Option.getD_some,cs_mem,fl_mem,hx,true_and,Bool.decide_eq_true]
theorem Ord.congr {n:Nat}{le le':Nat→Nat→Bool}(e:∀x y,x<n→y<n→le x y=le' x y) (h:Ord n le):Ord n le' where
 refl x hx:=by rw[←e x x hx hx];exact h.refl x hx
 anti x y hx hy hxy h1:=by rw[←e y x hy hx];rw[←e x y hx hy]at h1;exact h.anti x y hx hy hxy h1
 trans x y z hx hy hz h1 h2:=by
  rw[←e x z hx hz];rw[←e x y hx hy]at h1;rw[←e y z hy hz]at h2
  exact h.trans x y z hx hy hz h1 h2
theorem wzp {n:Nat}{le:Nat→Nat→Bool}:Good (pos n le)↔n≤10∧Ord n le:=by
 have e:∀x y,x<n→y<n→leP (pos n le) x y=le x y:=fun x y hx hy=>wp8 hx hy
 constructor
 ·intro h
  have h1:=h.len;have h2:=h.ord
  rw[wb]at h1 h2
  exact⟨h1,h2.congr e⟩
 ·intro h
  refine⟨by rw[wb];exact h.1,wox n le, ?_⟩
  rw[wb]
  exact h.2.congr fun x y hx hy=>(e x y hx hy).symm
theorem Good.form {p:PT}(h:Good p):p=pos p.1.length (leP p):=wow h.rows
theorem wgb {n:Nat}(h:n≤4294967296):V23 big (n:Int)=some (mkT n fun _ _=>false,()):=by
 unfold V23 wqr
 rw[jak h,obS,obS,cdt (by omega),mkR_len]
 refine w3i n (fun i o=>o=mkR n fun x=>if x<i then mkR n fun _=>false else []) (by omega) ?_ ?_ 0 (by omega) _ (by simp)
 ·intro rc i o hi hv ih
  unfold wc9
  rw[cdt (by omega),jak h,obS,obS,cdt (by omega),hv,jd hi,obS,Int.toNat_natCast,jr hi,obS,wr1 (by omega)]
  refine ih _ ?_
  rw[qw]
  refine jo fun x hx => ?_
  by_cases h1:x=i
  ·rw[if_pos h1,if_pos (by omega)]
  ·rw[if_neg h1]
   by_cases h2:x<i
   ·rw[if_pos h2,if_pos (by omega)]
   ·rw[if_neg h2,if_neg (by omega)]
 ·intro rc o hv
  unfold wc9
  rw[cdf (by omega),hv,waf]
  congr 2
  exact jo fun x hx=>by rw[if_pos hx]
theorem wsx {n:Nat}{le:Nat→Nat→Bool}(hn:n≤4294967296):V26 big (mkT n le)=some (tv (Ord n le),()):=by
 unfold V26 wqy
 rw[mkR_len]
 refine w3j n (fun i=>∀x,x<i→le x x=true∧(∀y,y<n→(x≠y→le x y=true→le y x=false)∧∀z,z<n→le x y=true→le y z=true→le x z=true)) (by omega) ?_ ?_ 0 (by omega) (by intro x hx;omega)
 ·intro rc i hi hv ih
  unfold wak
  rw[cdt (by omega),jd hi,obS,jd hi,obS,mkR_len]
  cases h0:le i i with
  | false =>
   rw[tv_f fun h=>by rw[h.refl i hi]at h0;cases h0]
   rfl
  | true =>
   rw[Bool.not_true,cond_false]
   refine w3k n (fun j=>∀y,y<j→(i≠y→le i y=true→le y i=false)∧∀z,z<n→le i y=true→le y z=true→le i z=true) (by omega) ?_ ?_ 0 (by omega) (by intro x hx;omega)
   ·intro rc2 j hj hv2 ih2
    have inn:(i≠j→le i j=true→le j i=false)→ye big rc2 (wu rc) (mkT n le) (i:Int) (j:Int) (n:Int) (i:Int) (n:Int) (j:Int) (n:Int) ((0:Nat):Int)=some (tv (Ord n le),()):=by
     intro hij
     refine w1l n (fun k=>∀z,z<k→le i j=true→le j z=true→le i z=true) (by omega) ?_ ?_ 0 (by omega) (by intro x hx;omega)
     ·intro rc3 k hk hv3 ih3
      unfold waj
      simp only[cdt (show(k:Int)<(n:Int) by omega),jd hi,jd hj,jd hk,obS,wr1 (show k≤4611686018427387904 by omega)]
      cases h1:le i j with
      | false=>exact ih3 (all_lt_succ.2 ⟨hv3,by intro h;rw[h1]at h;cases h⟩)
      | true =>
       cases h2:le j k with
       | false=>exact ih3 (all_lt_succ.2 ⟨hv3,by intro _ h;rw[h2]at h;cases h⟩)
       | true =>
        cases h3:le i k with
        | false =>
         rw[tv_f fun h=>by rw[h.trans i j k hi hj hk h1 h2]at h3;cases h3]
         rfl
        | true=>exact ih3 (all_lt_succ.2 ⟨hv3,fun _ _=>h3⟩)
     ·intro rc3 hv3
      unfold waj
      rw[cdf (by omega),yf,wr1 (by omega)]
      exact ih2 (all_lt_succ.2 ⟨hv2,hij,hv3⟩)
    unfold wal
    rw[cdt (by omega),jd hi,obS,jd hj,obS,jd hj,obS,jd hi,obS,mkR_len]
    by_cases hij:i=j
    ·rw[cdf (by omega)]
     exact inn fun h=>absurd hij h
    ·rw[cdt (by omega)]
     cases h1:le i j with
     | false=>exact inn fun _ h=>by rw[h1]at h;cases h
     | true =>
      cases h2:le j i with
      | false=>exact inn fun _ _=>h2
      | true =>
       rw[tv_f fun h=>by rw[h.anti i j hi hj hij h1]at h2;cases h2]
       rfl
   ·intro rc2 hv2
    unfold wal
    rw[cdf (by omega),wu,wr1 (by omega)]
    exact ih (all_lt_succ.2 ⟨hv,h0,hv2⟩)
 ·intro rc hv
  unfold wak
  rw[cdf (by omega),xf,tv_t]
  exact⟨fun x hx=>(hv x hx).1,fun x y hx hy=>((hv x hx).2 y hy).1,fun x y z hx hy hz=>((hv x hx).2 y hy).2 z hz⟩
theorem wqa {α:Type}{n:Nat}{f:Nat→Nat→α}{x y:Nat}{v:α}:(mkT n f).set x ((mkR n (f x)).set y v)=mkT n fun a b=>if a=x∧b=y then v else f a b:=by
 rw[qw]
 refine jo fun a ha => ?_
 by_cases h:a=x
 ·subst h
  rw[if_pos rfl,qw]
  exact jo fun b hb=>by simp
 ·rw[if_neg h]
  exact jo fun b hb=>by simp[h]
theorem wju (p:PT) (hl:p.1.length≤10) (hx:∀r∈p.1,r.length≤4294967296) :
  V27 big p=some (@ite _ (∀r∈p.1,isSetB p.1.length r=true) (Classical.propDecidable _) (mkT p.1.length (leP p),tv (Ord p.1.length (leP p)),()) ([],false,()),()):=by
 unfold V27 wku
 generalize hn:p.1.length=n
 rw[cdf (by omega),wgb (by omega),obS]
 refine w3l n (fun i o=>(∀j,j<i→∀(h:j<p.1.length),isSetB n p.1[j]=true)∧o=mkT n fun a b=>decide (b<i)&&leP p a b) (by omega) ?_ ?_ 0 (by omega) _ ⟨by intro j hj;omega,ju fun a b _ _=>by simp⟩
 ·intro rc i o hi hv ih
  obtain⟨hv1,hv2⟩:=hv
  unfold waq
  have hip:i<p.1.length:=by omega
  have hrow:=hx _ (List.getElem_mem hip)
  rw[cdt (by omega),jf _ i hip,obS,wzu _ (by omega),obS]
  cases h1:risingB p.1[i] with
  | false =>
   rw[if_neg fun h=>by have:=h _ (List.getElem_mem hip);unfold isSetB at this;rw[h1,Bool.and_false]at this;cases this]
   rfl
  | true =>
   rw[Bool.not_true,cond_false,wkk n _ (by omega),obS]
   cases h2:p.1[i].all (inB n) with
   | false =>
    rw[if_neg fun h=>by have:=h _ (List.getElem_mem hip);unfold isSetB at this;rw[h2,Bool.false_and]at this;cases this]
    rfl
   | true =>
    rw[Bool.not_true,cond_false]
    have hset:isSetB n p.1[i]=true:=by unfold isSetB;rw[h1,h2];rfl
    have hle:∀a,leP p a i=decide ((a:Int)∈p.1[i]):=by intro a;unfold leP;simp[hip]
    have hform:=wko hset
    have hS:∀a,a∈fl n (fun x=>decide ((x:Int)∈p.1[i]))↔a<n∧leP p a i=true:=by
     intro a;rw[fl_mem,hle]
    generalize fl n (fun x=>decide ((x:Int)∈p.1[i]))=S at hform hS
    rw[hform,cs_len]
    refine w1o S.length (fun k o=>o=mkT n fun a b=>if b<i then leP p a b else decide (b=i∧a∈S.take k)) ?_ ?_ ?_ 0 (by omega) _ ?_
    ·have:=congrArg List.length hform
     rw[cs_len]at this
     have:=hx _ (List.getElem_mem hip)
     omega
    ·intro rc2 k o2 hk hv3 ih2
     have hkn:S[k]<n:=((hS _).1 (List.getElem_mem hk)).1
     have hkS:S.length≤4294967296:=by have:=congrArg List.length hform;rw[cs_len]at this;omega
     unfold wap
     simp only[cdt (show(k:Int)<(S.length:Int) by omega),jn hk,obS,hv3,jd hkn,Int.toNat_natCast,jr hkn,jd hi,jr hi,wr1 (show k≤4611686018427387904 by omega)]
     refine ih2 _ ?_
     rw[wqa]
     refine ju fun a b _ _ => ?_
     by_cases hb:b<i
     ·rw[if_pos hb,if_pos hb,if_neg (by omega)]
     ·rw[if_neg hb,if_neg hb]
      simp only[uh hk]
      by_cases hbi:b=i
      ·by_cases ha:a=S[k]
       ·simp[hbi,ha]
       ·simp[hbi,ha]
      ·simp[hbi]
    ·intro rc2 o2 hv3
     unfold wap
     rw[cdf (by omega),yg,wr1 (by omega)]
     refine ih _ ⟨fun j hj hjp => ?_, ?_⟩
     ·rcases Nat.lt_or_ge j i with h|h
      ·exact hv1 j h hjp
      ·have:j=i:=by omega
       subst this;exact hset
     ·rw[hv3]
      refine ju fun a b ha _ => ?_
      by_cases hb:b<i
      ·rw[if_pos hb];simp[show b<i+1 by omega]
      ·rw[if_neg hb,List.take_length]
       by_cases hbi:b=i
       ·subst hbi
        rw[decide_eq_true (show b<b+1 by omega),Bool.true_and]
        cases h:leP p a b with
        | true=>exact decide_eq_true ⟨rfl,(hS a).2 ⟨ha,h⟩⟩
        | false=>exact decide_eq_false fun h3=>by rw[((hS a).1 h3.2).2]at h;cases h
       ·simp[hbi,show ¬b<i+1 by omega]
    ·rw[hv2]
     refine ju fun a b _ _ => ?_
     by_cases hb:b<i
     ·simp[hb]
     ·simp[hb]
 ·intro rc o hv
  obtain⟨hv1,hv2⟩:=hv
  unfold waq
  have ho:o=mkT n (leP p):=by rw[hv2];exact ju fun a b _ hb=>by simp[hb]
  rw[cdf (by omega),xg,ho,wsx (by omega),obS,if_pos]
  intro r hr
  obtain⟨j,hj,e⟩:=List.getElem_of_mem hr
  exact e▸hv1 j (by omega) hj
theorem wo6 (p:PT) (hl:¬p.1.length≤10):V27 big p=some (([],false,()),()):=by
 unfold V27 wku
 rw[cdt (by omega)]
theorem wsz (p:PT) (hx:∀r∈p.1,r.length≤4294967296) (h:¬Good p):∃T,V27 big p=some ((T,false,()),()):=by
 by_cases hl:p.1.length≤10
 ·rw[wju p hl hx]
  by_cases hr:∀r∈p.1,isSetB p.1.length r=true
  ·rw[if_pos hr,tv_f fun ho=>h ⟨hl,hr,ho⟩]
   exact⟨_,rfl⟩
  ·rw[if_neg hr]
   exact⟨_,rfl⟩
 ·exact⟨_,wo6 p hl⟩
theorem zw {n:Nat}{le:Nat→Nat→Bool}(hn:n≤10) (ho:Ord n le):V27 big (pos n le)=some ((mkT n le,true,()),()):=by
 have e:∀x y,x<n→y<n→leP (pos n le) x y=le x y:=fun x y hx hy=>wp8 hx hy
 rw[wju _ (by rw[wb];exact hn) ?_,if_pos (wox n le),wb,tv_t (ho.congr fun x y hx hy=>(e x y hx hy).symm)]
 ·congr 3
  exact ju fun x y hx hy=>e x y hx hy
 ·intro r hr
  obtain⟨i,_,h⟩:=mkR_mem.1 hr
  rw[←h,cs_len]
  have:=jh n fun x=>le x i
  omega
theorem xc {n x:Nat}{le:Nat→Nat→Bool}(hx:x<n):atI (pos n le).1 (x:Int)=some (cs (fl n fun a=>le a x)):=jd hx
theorem wk {n x y:Nat}{le:Nat→Nat→Bool}(hn:n≤4294967296) (hx:x<n) (hy:y<n):V15 (pos n le) (x:Int) (y:Int)=some (le x y,()):=by
 unfold V15 wzx
 have:=jh n fun a=>le a y
 rw[xc hy,obS,wor _ _ (by omega),obS]
 congr 2
 rw[Bool.eq_iff_iff,decide_eq_true_eq,fl_mem]
 simp[hx]
theorem wkr {n:Nat}{P Q:Nat→Bool}(hn:n≤4294967296):V41 big (cs (fl n P)) (cs (fl n Q))=some (tv (∀x,x<n→P x=true→Q x=true),()):=by
 have h1:=jh n P
 have h2:=jh n Q
 rw[wo2 _ _ (by rw[cs_len];omega) (by rw[cs_len];omega)]
 congr 2
 refine qp ⟨fun h x hx hp => ?_,fun h x hx => ?_⟩
 ·exact(fl_mem.1 (cs_mem.1 (h _ (cs_mem.2 (fl_mem.2 ⟨hx,hp⟩))))).2
 ·unfold cs at hx
  obtain⟨y,hy,e⟩:=List.mem_map.1 hx
  have:=fl_mem.1 hy
  rw[←e]
  exact cs_mem.2 (fl_mem.2 ⟨this.1,h y this.1 this.2⟩)
theorem wo0 (p:PT) (hx:∀r∈p.1,r.length≤4294967296):V42 big p=some (tv (Good p),()):=by
 unfold V42 wrf
 by_cases hl:p.1.length≤10
 ·generalize hn:p.1.length=n
  rw[cdf (by omega)]
  refine w3w n (fun i=>∀j,j<i→∀(h:j<p.1.length),isSetB n p.1[j]=true∧leP p j j=true) (by omega) ?_ ?_ 0 (by omega) (by intro j hj;omega)
  ·intro rc i hi hv ih
   have hip:i<p.1.length:=by omega
   have hrow:=hx _ (List.getElem_mem hip)
   have hle:∀a,leP p a i=decide ((a:Int)∈p.1[i]):=by intro a;unfold leP;simp[hip]
   unfold wdw
   rw[cdt (by omega),jf _ i hip,obS,wr (by omega) (by omega),wks n _ (by omega) (by omega),obS]
   cases h1:isSetB n p.1[i] with
   | false =>
    rw[tv_f fun h=>by have:=h.rows _ (List.getElem_mem hip);rw[hn,h1]at this;cases this]
    rfl
   | true =>
    rw[Bool.not_true,cond_false,obS,wgj _ _ hrow,obS,←hle]
    cases h2:leP p i i with
    | false =>
     rw[tv_f fun h=>by have:=h.ord.refl i hip;rw[h2]at this;cases this]
     rfl
    | true =>
     rw[Bool.not_true,cond_false,wr1 (by omega)]
     refine ih fun j hj hjp => ?_
     rcases Nat.lt_or_ge j i with h|h
     ·exact hv j h hjp
     ·have:j=i:=by omega
      subst this;exact⟨h1,h2⟩
  ·intro rc hv
   unfold wdw
   rw[cdf (by omega),wa7]
   have hrows:∀r∈p.1,isSetB p.1.length r=true:=by
    intro r hr
    obtain⟨j,hj,e⟩:=List.getElem_of_mem hr
    rw[hn]
    exact e▸(hv j (by omega) hj).1
   have hform:=wow hrows
   have hrefl:∀x,x<n→leP p x x=true:=fun x hxn=>(hv x hxn (by omega)).2
   generalize leP p=le at hform hrefl
   rw[hn]at hform
   subst hform
   rw[qp wzp]
   refine w11 n (fun i=>∀x,x<i→∀y,y<n→le y x=true→(y≠x→le x y=false)∧∀z,z<n→le z y=true→le z x=true) (by omega) ?_ ?_ 0 (by omega) (by intro j hj;omega)
   ·intro rc2 i hi hv2 ih2
    unfold yl
    rw[cdt (by omega)]
    have hS:∀a,a∈fl n (fun a=>le a i)↔a<n∧le a i=true:=fun a=>fl_mem
    have hSl:=jh n fun a=>le a i
    refine w12 (fl n fun a=>le a i).length (fun k=>∀y∈(fl n fun a=>le a i).take k,(y≠i→le i y=false)∧∀z,z<n→le z y=true→le z i=true) (by omega) ?_ ?_ 0 (by omega) (by simp)
    ·intro rc3 k hk hv3 ih3
     have hk2:=(hS _).1 (List.getElem_mem hk)
     have hk3:=jn hk
     have hk4:∀{P:Nat→Prop},(∀y∈(fl n fun a=>le a i).take (k+1),P y)↔_:=qn hk
     unfold wa8
     generalize (fl n fun a=>le a i)[k]=y at hk2 hk3 hk4
     have hkl:=jh n fun a=>le a y
     simp only[xc hi,obS,cs_len,cdt (show(k:Int)<((fl n fun a=>le a i).length:Int) by omega),hk3,xc hk2.1,wor (fl n fun a=>le a y) i (by omega),wkr (P:=fun a=>le a y) (Q:=fun a=>le a i) (show n≤4294967296 by omega),wr1 (show k≤4611686018427387904 by omega)]
     have e1:decide (i∈fl n fun a=>le a y)=le i y:=by
      rw[Bool.eq_iff_iff,decide_eq_true_eq,fl_mem];simp[hi]
     rw[e1]
     have key:(y≠i→le i y=false)→cond (!tv (∀x,x<n→le x y=true→le x i=true)) (some (false,())) (rc3 (pos n le) (n:Int) (i:Int) ((k+1:Nat):Int))=some (tv (n≤10∧Ord n le),()):=by
      intro h1
      by_cases h2:∀x,x<n→le x y=true→le x i=true
      ·rw[tv_t h2]
       exact ih3 (hk4.2 ⟨hv3,h1,h2⟩)
      ·rw[tv_f h2,tv_f fun h=>h2 fun x hxn h3=>h.2.trans _ _ _ hxn hk2.1 hi h3 hk2.2]
       rfl
     by_cases h1:y=i
     ·rw[cdf (by omega)]
      exact key fun h=>absurd h1 h
     ·rw[cdt (by omega)]
      cases h2:le i y with
      | true =>
       rw[tv_f (P:=n≤10∧Ord n le) fun h=>by rw[h.2.anti _ _ hk2.1 hi h1 hk2.2]at h2;cases h2]
       rfl
      | false =>
       rw[cond_false]
       exact key fun _=>h2
    ·intro rc3 hv3
     rw[List.take_length]at hv3
     unfold wa8
     rw[xc hi,obS,cs_len,cdf (by omega),yk,wr1 (by omega)]
     exact ih2 (all_lt_succ.2 ⟨hv2,fun y hy hyi=>hv3 y ((hS y).2 ⟨hy,hyi⟩)⟩)
   ·intro rc2 hv2
    unfold yl
    rw[cdf (by omega),wq,tv_t]
    refine⟨by rw[wb]at hl;exact hl,fun x hx=>hrefl x hx,fun x y hx hy hxy h=>((hv2 y hy x hx h).1 hxy),fun x y z hx hy hz h1 h2=>(hv2 z hz y hy h2).2 x hx h1⟩
 ·rw[cdt (by omega),tv_f fun h=>hl h.len]
abbrev du (le:Nat→Nat→Bool):Nat→Nat→Bool:=fun x y=>le y x
def low (n:Nat) (le:Nat→Nat→Bool) (S:List Nat):List Nat:=fl n fun z=>S.all fun s=>le z s
def grt (le:Nat→Nat→Bool) (L:List Nat):Int:=match L.find? fun x=>L.all fun y=>le y x with
 | some x=>(x:Int)
 | none => -1
def bnd (n:Nat) (le:Nat→Nat→Bool) (S:List Nat):Int:=grt le (low n le S)
structure IsGlb (n:Nat) (le:Nat→Nat→Bool) (S:List Nat) (m:Nat):Prop where
 lt:m<n
 lo:∀s∈S,le m s=true
 gr:∀z,z<n→(∀s∈S,le z s=true)→le z m=true
theorem low_mem {n:Nat}{le:Nat→Nat→Bool}{S:List Nat}{z:Nat}:z∈low n le S↔z<n∧∀s∈S,le z s=true:=by
 unfold low
 rw[fl_mem,List.all_eq_true]
theorem wjr {n:Nat}{le:Nat→Nat→Bool}{S:List Nat}(h:0≤bnd n le S):IsGlb n le S (bnd n le S).toNat:=by
 unfold bnd grt at *
 cases hf:(low n le S).find? fun x=>(low n le S).all fun y=>le y x with
 | none=>rw[hf]at h;exact absurd h (by decide)
 | some x =>
  have h1:=List.find?_some hf
  have h2:=low_mem.1 (List.mem_of_find?_eq_some hf)
  simp only[Int.toNat_natCast]
  exact⟨h2.1,h2.2,fun z hz hs=>List.all_eq_true.1 h1 z (low_mem.2 ⟨hz,hs⟩)⟩
theorem wsw {n:Nat}{le:Nat→Nat→Bool}(ho:Ord n le){S:List Nat}{m k:Nat}(h:IsGlb n le S m) (h2:IsGlb n le S k):m=k:=by
 by_cases e:m=k
 ·exact e
 ·have h3:=h.gr k h2.lt h2.lo
  have h4:=h2.gr m h.lt h.lo
  have:=ho.anti m k h.lt h2.lt e h4
  rw[this]at h3;cases h3
theorem ya {n:Nat}{le:Nat→Nat→Bool}(ho:Ord n le){S:List Nat}{m:Nat}(h:IsGlb n le S m):bnd n le S=(m:Int):=by
 have h0:0≤bnd n le S:=by
  unfold bnd grt
  cases hf:(low n le S).find? fun x=>(low n le S).all fun y=>le y x with
  | none =>
   have:=List.find?_eq_none.1 hf m (low_mem.2 ⟨h.lt,h.lo⟩)
   exact absurd (List.all_eq_true.2 fun y hy=>h.gr y (low_mem.1 hy).1 (low_mem.1 hy).2) this
  | some x=>simp
 have:=wsw ho (wjr h0) h
 omega
theorem wo1 {n:Nat}{le:Nat→Nat→Bool}{L:List Nat}(hL:∀x∈L,x<n) (hl:L.length≤4294967296):V28 big (mkT n le) (cs L)=some (grt le L,()):=by
 unfold V28 wq0
 rw[cs_len]
 refine w3m L.length (fun i=>∀x∈L.take i,¬(L.all fun y=>le y x)=true) (by omega) ?_ ?_ 0 (by omega) (by simp)
 ·intro rc i hi hv ih
  have hx:=hL _ (List.getElem_mem hi)
  have hh := @jf6 _ L (fun x=>L.all fun y=>le y x) i hi hv
  have hn:=fun h=>ih ((qn hi).2 ⟨hv,h⟩)
  unfold wat
  rw[cdt (by omega),jn hi,obS,cs_len]
  generalize L[i]=x at hx hh hn
  refine w3n L.length (fun k b=>b=(L.take k).all fun y=>le y x) (by omega) ?_ ?_ 0 (by omega) _ rfl
  ·intro rc2 k b hk hb ih2
   have hy:=hL _ (List.getElem_mem hk)
   have ht := @jdx _ L k hk fun y=>le y x
   have ha:=jn hk
   unfold wdf
   rw[cdt (by omega),ha,obS,wr1 (by omega)]
   generalize L[k]=y at hy ht
   cases b with
   | false=>exact ih2 _ (by rw[ht,←hb];rfl)
   | true =>
    rw[cond_true,jd hy,obS,jd hx,obS]
    exact ih2 _ (by rw[ht,←hb];rfl)
  ·intro rc2 b hb
   rw[List.take_length]at hb
   unfold wdf
   rw[cdf (by omega),was,hb]
   cases h:L.all fun y=>le y x with
   | true =>
    rw[cond_true]
    unfold grt
    rw[hh h]
   | false =>
    rw[cond_false,wr1 (by omega)]
    exact hn (by rw[h];simp)
 ·intro rc hv
  rw[List.take_length]at hv
  unfold wat
  rw[cdf (by omega),xh]
  unfold grt
  rw[List.find?_eq_none.2 hv]
theorem low2 {n:Nat}{le:Nat→Nat→Bool}{x y:Nat}:low n le [x,y]=fl n fun z=>le z x&&le z y:=by
 unfold low
 congr 1;funext z;simp
theorem ws2 {n:Nat}{le:Nat→Nat→Bool}(hn:n≤1048576){x y:Nat}(hx:x<n) (hy:y<n):V30 big (mkT n le) (mkT n le,(x:Int),(y:Int),())=some (cs (low n le [x,y]),()):=by
 unfold V30 wq1
 rw[mkR_len,low2]
 refine w3o n (fun i l=>l=cs (fl i fun z=>le z x&&le z y)) (by omega) ?_ ?_ 0 (by omega) _ rfl
 ·intro rc i l hi hv ih
  have hl:=jh i fun z=>le z x&&le z y
  unfold wdh V29 wz3
  simp only[cdt (show(i:Int)<(n:Int) by omega),jd hi,jd hx,jd hy,obS,wr1 (show i≤4611686018427387904 by omega)]
  cases h1:le i x with
  | false=>exact ih _ (by rw[hv];exact fl_f (P:=fun z=>le z x&&le z y) (by simp[h1]))
  | true =>
   simp only[cond_true,obS]
   cases h2:le i y with
   | false=>exact ih _ (by rw[hv];exact fl_f (P:=fun z=>le z x&&le z y) (by simp[h1,h2]))
   | true =>
    rw[cond_true,app1 (by rw[hv,cs_len];omega),obS]
    exact ih _ (by rw[hv];exact fl_t (P:=fun z=>le z x&&le z y) (by simp[h1,h2]))
 ·intro rc l hv
  unfold wdh
  rw[cdf (by omega),wau,hv]
theorem wy6 {n:Nat}{le:Nat→Nat→Bool}{S:List Nat}:∀x∈low n le S,x<n:=fun x hx=>(low_mem.1 hx).1
theorem wp9 {n:Nat}{le:Nat→Nat→Bool}{S:List Nat}:(low n le S).length≤n:=jh _ _
theorem w6 {n:Nat}{le:Nat→Nat→Bool}(hn:n≤1048576):V31 big (mkT n le)=some (@ite _ (∀x y,x<n→y<n→0≤bnd n le [x,y]) (Classical.propDecidable _) (mkT n fun x y=>bnd n le [x,y],true,()) ([],false,()),()):=by
 unfold V31 wq3
 rw[mkR_len]
 refine w3p n (fun i t=>t=(mkR i fun x=>mkR n fun y=>bnd n le [x,y])∧∀x,x<i→∀y,y<n→0≤bnd n le [x,y]) (by omega) ?_ ?_ 0 (by omega) _ ⟨rfl,by intro x hx;omega⟩
 ·intro rc i t hi hv ih
  unfold wax
  rw[cdt (by omega),mkR_len]
  refine w3q n (fun j r=>r=(mkR j fun y=>bnd n le [i,y])∧∀y,y<j→0≤bnd n le [i,y]) (by omega) ?_ ?_ 0 (by omega) _ ⟨rfl,by intro x hx;omega⟩
  ·intro rc2 j r hj hr ih2
   unfold wdk
   rw[cdt (by omega),ws2 hn hi hj,obS,wo1 wy6 (by have := @wp9 n le [i,j];omega),obS]
   show cond (decide (bnd n le [i,j]<0)) _ ((appI r [bnd n le [i,j]]).bind _)=_
   by_cases h:0≤bnd n le [i,j]
   ·rw[cdf (by omega),app1 (by rw[hr.1,mkR_len];omega),obS,wr1 (by omega)]
    exact ih2 _ ⟨by rw[hr.1];exact(jt j _).symm,all_lt_succ.2 ⟨hr.2,h⟩⟩
   ·rw[cdt (by omega),if_neg fun h2=>h (h2 i j hi hj)]
  ·intro rc2 r hr
   unfold wdk
   rw[cdf (by omega),waw,app1 (by rw[hv.1,mkR_len];omega),obS,wr1 (by omega)]
   refine ih _ ⟨?_,all_lt_succ.2 ⟨hv.2,hr.2⟩⟩
   rw[hv.1,hr.1]
   exact(jt i fun x=>mkR n fun y=>bnd n le [x,y]).symm
 ·intro rc t hv
  unfold wax
  rw[cdf (by omega),xi,if_pos fun x y hx hy=>hv.2 x hx y hy,hv.1]
theorem wp5 {n:Nat}{le:Nat→Nat→Bool}(hn:n≤1048576):V32 big (mkT n le)=some (mkT n (du le),()):=by
 unfold V32 wq4
 rw[mkR_len,wgb (by omega),obS]
 refine w3r n (fun i d=>d=mkT n fun a b=>decide (a<i)&&le b a) (by omega) ?_ ?_ 0 (by omega) _ (ju fun a b _ _=>by simp)
 ·intro rc i d hi hv ih
  unfold wa0
  rw[cdt (by omega),mkR_len]
  refine w3s n (fun j d=>d=mkT n fun a b=>(decide (a<i)||decide (a=i)&&decide (b<j))&&le b a) (by omega) ?_ ?_ 0 (by omega) _ (by rw[hv];exact ju fun a b _ _=>by simp)
  ·intro rc2 j d2 hj hv2 ih2
   unfold wdn
   generalize hf:(fun a b=>(decide (a<i)||decide (a=i)&&decide (b<j))&&le b a)=f at hv2
   simp only[cdt (show(j:Int)<(n:Int) by omega),hv2,jd hi,jr hi,obS,jd hj,jr hj,Int.toNat_natCast,wr1 (show j≤4611686018427387904 by omega)]
   refine ih2 _ ?_
   rw[wqa,←hf]
   refine ju fun a b _ _ => ?_
   by_cases h1:a=i
   ·subst h1
    by_cases h2:b=j
    ·subst h2;simp
    ·rw[if_neg fun h=>h2 h.2,show decide (b<j+1)=decide (b<j) from decide_eq_decide.2 (by omega)]
   ·rw[if_neg fun h=>h1 h.1];simp[h1]
  ·intro rc2 d2 hv2
   unfold wdn
   rw[cdf (by omega),waz,wr1 (by omega)]
   refine ih _ ?_
   rw[hv2]
   refine ju fun a b _ hb => ?_
   congr 1
   rw[decide_eq_true hb,Bool.and_true,←Bool.decide_or]
   exact decide_eq_decide.2 (by omega)
 ·intro rc d hv
  unfold wa0
  rw[cdf (by omega),xk,hv]
  congr 2
  exact ju fun a b ha _=>by simp[ha]
structure Lat (n:Nat) (le:Nat→Nat→Bool):Prop where
 ne:0<n
 meet:∀x y,x<n→y<n→0≤bnd n le [x,y]
 join:∀x y,x<n→y<n→0≤bnd n (du le) [x,y]
def mt (n:Nat) (le:Nat→Nat→Bool) (x y:Nat):Nat:=(bnd n le [x,y]).toNat
def gb (n:Nat) (le:Nat→Nat→Bool) (S:List Nat):Nat:=(bnd n le S).toNat
def lat (n:Nat) (le:Nat→Nat→Bool):List (List Bool)×List (List Int)×List (List Int)×Unit :=
 (mkT n le,mkT n (fun x y=>((mt n le x y:Nat):Int)),mkT n (fun x y=>((mt n (du le) x y:Nat):Int)),())
structure LatP (n:Nat) (le:Nat→Nat→Bool):Prop where
 le10:n≤10
 ord:Ord n le
 lat:Lat n le
theorem wc {n:Nat}{le:Nat→Nat→Bool}(h:LatP n le):V33 (pos n le)=some ((some (lat n le),true,()),()):=by
 have h10:=h.le10
 have h0:=h.lat.ne
 unfold V33 wkz
 simp only[zw h.le10 h.ord,obS,Bool.not_true,cond_false,mkR_len,cdf (show ¬((n:Int)=0) by omega),w6 (le:=le) (show n≤1048576 by omega),wp5 (le:=le) (show n≤1048576 by omega),w6 (le:=du le) (show n≤1048576 by omega)]
 rw[if_pos h.lat.meet,if_pos h.lat.join]
 simp only[cond_true]
 have e1:(mkT n fun x y=>bnd n le [x,y])=mkT n fun x y=>((mt n le x y:Nat):Int):=ju fun x y hx hy=>by
  have:=h.lat.meet x y hx hy
  unfold mt;omega
 have e2:(mkT n fun x y=>bnd n (du le) [x,y])=mkT n fun x y=>((mt n (du le) x y:Nat):Int):=ju fun x y hx hy=>by
  have:=h.lat.join x y hx hy
  unfold mt;omega
 rw[e1,e2]
 rfl
theorem wos {p:PT}(hx:∀r∈p.1,r.length≤4294967296) (h:¬(Good p∧Lat p.1.length (leP p))):∃l,V33 p=some ((l,false,()),()):=by
 by_cases hg:Good p
 ·have hf:=hg.form
  have ho:=hg.ord
  have h10:=hg.len
  replace h:¬Lat p.1.length (leP p):=fun hl=>h ⟨hg,hl⟩
  generalize p.1.length=n at *
  generalize leP p=le at *
  subst hf
  unfold V33 wkz
  simp only[zw h10 ho,obS,Bool.not_true,cond_false,mkR_len,w6 (le:=le) (show n≤1048576 by omega),wp5 (le:=le) (show n≤1048576 by omega),w6 (le:=du le) (show n≤1048576 by omega)]
  by_cases h0:n=0
  ·rw[cdt (by omega)]
   exact⟨_,rfl⟩
  ·rw[cdf (by omega)]
   by_cases h1:∀x y,x<n→y<n→0≤bnd n le [x,y]
   ·rw[if_pos h1]
    by_cases h2:∀x y,x<n→y<n→0≤bnd n (du le) [x,y]
    ·exact absurd ⟨by omega,h1,h2⟩ h
    ·rw[if_neg h2]
     exact⟨_,rfl⟩
   ·rw[if_neg h1]
    exact⟨_,rfl⟩
 ·obtain⟨T,hT⟩:=wsz p hx hg
  unfold V33 wkz
  rw[hT,obS]
  exact⟨_,rfl⟩
theorem w7 {n:Nat}{le:Nat→Nat→Bool}(hn:n≤1048576):V43 big (pos n le)=some (pos n (du le),()):=by
 unfold V43 wrg
 refine w3x n (fun i o=>o.1=mkR i fun y=>cs (fl n fun x=>le y x)) (by omega) ?_ ?_ 0 (by omega) _ rfl
 ·intro rc i o hi hv ih
  unfold wbb
  rw[wb,cdt (by omega)]
  refine w3y n (fun j l=>l=cs (fl j fun x=>le i x)) (by omega) ?_ ?_ 0 (by omega) _ rfl
  ·intro rc2 j l hj hl ih2
   have hlen:=jh j fun x=>le i x
   unfold wdz
   rw[wb,cdt (by omega),wk (by omega) hi hj,obS,wr1 (by omega)]
   cases h:le i j with
   | true =>
    rw[cond_true,app1 (by rw[hl,cs_len];omega),obS]
    exact ih2 _ (by rw[hl];exact fl_t (P:=fun x=>le i x) h)
   | false=>exact ih2 _ (by rw[hl];exact fl_f (P:=fun x=>le i x) h)
  ·intro rc2 l hl
   unfold wdz
   rw[wb,cdf (by omega),wba,app1 (by rw[hv,mkR_len];omega),obS,wr1 (by omega)]
   exact ih _ (by rw[hl];show o.1++_=_;rw[hv];exact(jt i fun y=>cs (fl n fun x=>le y x)).symm)
 ·intro rc o hv
  unfold wbb
  rw[wb,cdf (by omega),xl]
  unfold pos
  congr 2
  exact Prod.ext hv rfl
theorem wl {n:Nat}{le:Nat→Nat→Bool}(hn:n≤1048576){S:List Nat}(hS:∀s∈S,s<n) (hSl:S.length≤4294967296):V44 big (pos n le) (cs S)=some (bnd n le S,()):=by
 unfold V44 wri
 refine w3z n (fun i l=>l=cs (fl i fun z=>S.all fun s=>le z s)) (by omega) ?_ ?_ 0 (by omega) _ rfl
 ·intro rc i l hi hv ih
  have hlen:=jh i fun z=>S.all fun s=>le z s
  unfold wbg
  rw[wb,cdt (by omega)]
  refine w30 S.length (fun k b=>b=(S.take k).all fun s=>le i s) (by omega) ?_ ?_ 0 (by omega) _ rfl
  ·intro rc2 k b hk hb ih2
   have hs:=hS _ (List.getElem_mem hk)
   have ht := @jdx _ S k hk fun s=>le i s
   have ha:=jn hk
   unfold wd2
   rw[cs_len,cdt (by omega),ha,obS,wr1 (by omega)]
   generalize S[k]=s at hs ht
   rw[wk (by omega) hi hs,obS]
   cases b with
   | true=>exact ih2 _ (by rw[ht,←hb];rfl)
   | false=>exact ih2 _ (by rw[ht,←hb];rfl)
  ·intro rc2 b hb
   rw[List.take_length]at hb
   unfold wd2
   rw[cs_len,cdf (by omega),wbe,wr1 (by omega)]
   cases b with
   | true =>
    rw[cond_true,app1 (by rw[hv,cs_len];omega),obS]
    exact ih _ (by rw[hv];exact fl_t (P:=fun z=>S.all fun s=>le z s) hb.symm)
   | false=>exact ih _ (by rw[hv];exact fl_f (P:=fun z=>S.all fun s=>le z s) hb.symm)
 ·intro rc l hv
  unfold wbg
  rw[wb,cdf (by omega),xm]
  replace hv:l=cs (low n le S):=hv
  rw[hv]
  have hll := @wp9 n le S
  unfold bnd
  have hlt := @wy6 n le S
  have hfl:low n le S=fl n fun z=>S.all fun s=>le z s:=rfl
  have hw:∀x,x<n→V41 big (cs (low n le S)) (cs (fl n fun a=>le a x))=some ((low n le S).all fun y=>le y x,()):=by
   intro x hx
   rw[hfl,wkr (by omega),←hfl]
   congr 2
   exact jaz (by rw[List.all_eq_true];exact⟨fun h y hy hp=>h y (fl_mem.2 ⟨hy,hp⟩),fun h y hy=>h y (fl_mem.1 hy).1 (fl_mem.1 hy).2⟩)
  generalize low n le S=L at *
  refine w16 L.length (fun i=>∀x∈L.take i,¬(L.all fun y=>le y x)=true) (by omega) ?_ ?_ 0 (by omega) (by simp)
  ·intro rc2 i hi hv2 ih2
   have hx:=hlt _ (List.getElem_mem hi)
   have hh := @jf6 _ L (fun x=>L.all fun y=>le y x) i hi hv2
   have hn2:=fun h=>ih2 ((qn hi).2 ⟨hv2,h⟩)
   have ha:=jn hi
   have hg:=jy hi
   unfold wbf
   simp only[cs_len,cdt (show(i:Int)<(L.length:Int) by omega),ha,obS,Int.toNat_natCast,hg,wr1 (show i≤4611686018427387904 by omega)]
   generalize L[i]=x at hx hh hn2
   rw[xc hx,obS,hw x hx,obS]
   cases h:L.all fun y=>le y x with
   | true =>
    rw[cond_true]
    unfold grt
    rw[hh h]
   | false =>
    rw[cond_false]
    exact hn2 (by rw[h];simp)
  ·intro rc2 hv2
   rw[List.take_length]at hv2
   unfold wbf
   rw[cs_len,cdf (by omega),ym]
   unfold grt
   rw[List.find?_eq_none.2 hv2]
theorem wcr {n:Nat}{le:Nat→Nat→Bool}(x y:Nat):bnd n le [x,y]=bnd n le [y,x]:=by
 unfold bnd
 congr 1
 unfold low
 congr 1;funext z;simp[Bool.and_comm]
theorem Ord.du {n:Nat}{le:Nat→Nat→Bool}(h:Ord n le):Ord n (du le) where
 refl:=h.refl
 anti x y hx hy hxy h1:=by
  have h3:le y x=true:=h1
  show le x y=false
  by_cases h2:le x y=true
  ·rw[h.anti x y hx hy hxy h2]at h3;cases h3
  ·simpa using h2
 trans x y z hx hy hz h1 h2:=h.trans z y x hz hy hx h2 h1
theorem woe {n:Nat}{le:Nat→Nat→Bool}(ho:Ord n le){x:Nat}(hx:x<n):bnd n le [x,x]=(x:Int) :=
 ya ho ⟨hx,by simp[ho.refl x hx],fun z _ h=>h x (by simp)⟩
theorem wkp (p:PT) (hx:∀r∈p.1,r.length≤4294967296):V45 big p=some (tv (Good p∧Lat p.1.length (leP p)),()):=by
 unfold V45 wrj
 rw[wo0 p hx,obS]
 by_cases hg:Good p
 ·rw[tv_t hg]
  have e:(Good p∧Lat p.1.length (leP p))↔Lat p.1.length (leP p):=⟨fun h=>h.2,fun h=>⟨hg,h⟩⟩
  rw[qp e,Bool.not_true,cond_false]
  have hf:=hg.form
  have ho:=hg.ord
  have h10:=hg.len
  clear e hg hx
  generalize p.1.length=n at *
  generalize leP p=le at *
  subst hf
  by_cases h0:n=0
  ·rw[cdt (by omega),tv_f fun h=>by have:=h.ne;omega]
  ·rw[cdf (by omega),w7 (by omega),obS]
   have key:∀x y,x<n→y<n→(0≤bnd n le [x,y]↔0≤bnd n le [y,x]):=fun x y _ _=>by rw[wcr]
   refine w31 n (fun i=>∀x,x<i→∀y,y<x→0≤bnd n le [x,y]∧0≤bnd n (du le) [x,y]) (by omega) ?_ ?_ 0 (by omega) (by intro x hx;omega)
   ·intro rc i hi hv ih
    unfold wbj
    rw[wb,cdt (by omega)]
    refine w32 i (fun j=>∀y,y<j→0≤bnd n le [i,y]∧0≤bnd n (du le) [i,y]) (by omega) ?_ ?_ 0 (by omega) (by intro x hx;omega)
    ·intro rc2 j hj hv2 ih2
     unfold wd5
     have e:([(i:Int),(j:Int)]:List Int)=cs [i,j]:=rfl
     have hS:∀s∈[i,j],s<n:=by intro s hs;simp at hs;omega
     rw[cdt (by omega),e,wl (by omega) hS (by simp),obS,wl (le:=du le) (by omega) hS (by simp),obS]
     by_cases h1:0≤bnd n le [i,j]
     ·rw[cdf (by omega)]
      by_cases h2:0≤bnd n (du le) [i,j]
      ·rw[cdf (by omega),wr1 (by omega)]
       exact ih2 (all_lt_succ.2 ⟨hv2,h1,h2⟩)
      ·rw[cdt (by omega),tv_f fun h=>h2 (h.join i j hi (by omega))]
     ·rw[cdt (by omega),tv_f fun h=>h1 (h.meet i j hi (by omega))]
    ·intro rc2 hv2
     unfold wd5
     rw[cdf (by omega),wbi,wr1 (by omega)]
     exact ih (all_lt_succ.2 ⟨hv,hv2⟩)
   ·intro rc hv
    unfold wbj
    rw[wb,cdf (by omega),xn,tv_t]
    refine⟨by omega,fun x y hx hy => ?_,fun x y hx hy => ?_⟩
    ·rcases Nat.lt_trichotomy x y with h|h|h
     ·rw[wcr];exact(hv y hy x h).1
     ·subst h;rw[woe ho hx];omega
     ·exact(hv x hx y h).1
    ·rcases Nat.lt_trichotomy x y with h|h|h
     ·rw[wcr];exact(hv y hy x h).2
     ·subst h;rw[woe ho.du hx];omega
     ·exact(hv x hx y h).2
 ·rw[tv_f hg,tv_f fun h=>hg h.1]
  rfl
theorem wfk {p:PT}(hx:∀r∈p.1,r.length≤4294967296):(∃n le,p=pos n le∧LatP n le∧V45 big p=some (true,())∧V33 p=some ((some (lat n le),true,()),())) ∨
  (V45 big p=some (false,())∧∃l,V33 p=some ((l,false,()),())):=by
 by_cases h:Good p∧Lat p.1.length (leP p)
 ·have hl:LatP p.1.length (leP p):=⟨h.1.len,h.1.ord,h.2⟩
  refine .inl ⟨p.1.length,leP p,h.1.form,hl,by rw[wkp p hx,tv_t h], ?_⟩
  have:=wc hl
  rw[←h.1.form]at this
  exact this
 ·exact .inr ⟨by rw[wkp p hx,tv_f h],wos hx h⟩
theorem zq {n:Nat}{o:List (List Bool)}(ho:o.length=n) (hn:n≤1048576){c:((List (List Bool))×(Int×(Int×Unit)))}{P:Nat→Bool}(h:∀i,i<n→V35 (i:Int) c.1 c.2.1 c.2.2.1=some (P i,())):V36 big o c=some (cs (fl n P),()):=by
 unfold V36 wq5
 rw[ho]
 refine w3t n (fun i l=>l=cs (fl i P)) (by omega) ?_ ?_ 0 (by omega) _ rfl
 ·intro rc i l hi hv ih
  have hl:=jh i P
  unfold wdp
  rw[cdt (by omega),h i hi,obS,wr1 (by omega)]
  cases hp:P i with
  | true=>rw[cond_true,app1 (by rw[hv,cs_len];omega),obS];exact ih _ (by rw[hv];exact fl_t hp)
  | false=>exact ih _ (by rw[hv];exact fl_f hp)
 ·intro rc l hv
  unfold wdp
  rw[cdf (by omega),wa1,hv]
theorem x9 {n:Nat}{o:List (List Bool)}(ho:o.length=n) (hn:n≤1048576){c:((List (List Bool))×(Int×Unit))}{P:Nat→Bool}(h:∀i,i<n→V76 (i:Int) c.1 c.2.1=some (P i,())):V77 big o c=some (cs (fl n P),()):=by
 unfold V77 wr7
 rw[ho]
 refine w4l n (fun i l=>l=cs (fl i P)) (by omega) ?_ ?_ 0 (by omega) _ rfl
 ·intro rc i l hi hv ih
  have hl:=jh i P
  unfold we0
  rw[cdt (by omega),h i hi,obS,wr1 (by omega)]
  cases hp:P i with
  | true=>rw[cond_true,app1 (by rw[hv,cs_len];omega),obS];exact ih _ (by rw[hv];exact fl_t hp)
  | false=>exact ih _ (by rw[hv];exact fl_f hp)
 ·intro rc l hv
  unfold we0
  rw[cdf (by omega),wb6,hv]
def SmallP (p:PT):Prop:=p.1.length≤1048576∧∀r∈p.1,r.length≤1048576
theorem SmallP.rows {p:PT}(h:SmallP p):∀r∈p.1,r.length≤4294967296:=fun r hr=>by have:=h.2 r hr;omega
def ls (le:Nat→Nat→Bool) (x y:Nat):Bool:=decide (x≠y)&&le x y
def cov (n:Nat) (le:Nat→Nat→Bool) (x y:Nat):Bool:=ls le x y&&(List.range n).all fun z => !(ls le x z&&ls le z y)
theorem wj9 {n:Nat}{le:Nat→Nat→Bool}{x y:Nat}(hx:x<n) (hy:y<n):V63 (mkT n le) (x:Int) (y:Int)=some (ls le x y,()):=by
 unfold V63 w0i ls
 simp only[jd hx,jd hy,obS]
 by_cases h:x=y
 ·rw[cdf (by omega),decide_eq_false (by omega)];rfl
 ·rw[cdt (by omega),decide_eq_true h];rfl
theorem zx {n:Nat}{le:Nat→Nat→Bool}(hn:n≤4294967296){x y:Nat}(hx:x<n) (hy:y<n):V16 (pos n le) (x:Int) (y:Int)=some (ls le x y,()):=by
 unfold V16 wzy ls
 rw[wk hn hx hy,obS]
 by_cases h:x=y
 ·rw[cdf (by omega),decide_eq_false (by omega)];rfl
 ·rw[cdt (by omega),decide_eq_true h];rfl
theorem wlh {n:Nat}{le:Nat→Nat→Bool}{x y:Nat}(h:ls le x y=true) (h2:∀z,z<n→¬(ls le x z=true∧ls le z y=true)):cov n le x y=true:=by
 unfold cov
 rw[h,Bool.true_and,List.all_eq_true]
 intro z hz
 have:=h2 z (List.mem_range.1 hz)
 cases h3:ls le x z<;>cases h4:ls le z y<;>simp_all
theorem wst {n:Nat}{le:Nat→Nat→Bool}{x y z:Nat}(hz:z<n) (h1:ls le x z=true) (h2:ls le z y=true):cov n le x y=false:=by
 unfold cov
 rw[Bool.and_eq_false_iff]
 refine .inr (List.all_eq_false.2 ⟨z,List.mem_range.2 hz,by simp[h1,h2]⟩)
theorem x7 {n:Nat}{le:Nat→Nat→Bool}(hn:n≤1048576){x y:Nat}(hx:x<n) (hy:y<n):V64 big (mkT n le) (x:Int) (y:Int)=some (cov n le x y,()):=by
 unfold V64 wrv
 rw[wj9 hx hy,obS,mkR_len]
 cases h:ls le x y with
 | false=>simp[cov,h]
 | true =>
  rw[Bool.not_true,cond_false]
  refine w4c n (fun i=>∀z,z<i→¬(ls le x z=true∧ls le z y=true)) (by omega) ?_ ?_ 0 (by omega) (by intro z hz;omega)
  ·intro rc i hi hv ih
   unfold wel
   rw[cdt (by omega),wj9 hx hi,obS,wj9 hi hy,obS,wr1 (by omega)]
   cases h1:ls le x i with
   | false=>exact ih (all_lt_succ.2 ⟨hv,by simp[h1]⟩)
   | true =>
    cases h2:ls le i y with
    | false=>exact ih (all_lt_succ.2 ⟨hv,by simp[h2]⟩)
    | true=>rw[wst hi h1 h2];rfl
  ·intro rc hv
   unfold wel
   rw[cdf (by omega),wbu,wlh h hv]
theorem x8 {n:Nat}{le:Nat→Nat→Bool}(hn:n≤1048576){x y:Nat}(hx:x<n) (hy:y<n):V17 big (pos n le) (x:Int) (y:Int)=some (cov n le x y,()):=by
 unfold V17 wqn
 rw[zx (by omega) hx hy,obS]
 cases h:ls le x y with
 | false=>simp[cov,h]
 | true =>
  rw[Bool.not_true,cond_false]
  refine w3f n (fun i=>∀z,z<i→¬(ls le x z=true∧ls le z y=true)) (by omega) ?_ ?_ 0 (by omega) (by intro z hz;omega)
  ·intro rc i hi hv ih
   unfold wc4
   rw[wb,cdt (by omega),zx (by omega) hx hi,obS,zx (by omega) hi hy,obS,wr1 (by omega)]
   cases h1:ls le x i with
   | false=>exact ih (all_lt_succ.2 ⟨hv,by simp[h1]⟩)
   | true =>
    cases h2:ls le i y with
    | false=>exact ih (all_lt_succ.2 ⟨hv,by simp[h2]⟩)
    | true=>rw[wst hi h1 h2];rfl
  ·intro rc hv
   unfold wc4
   rw[wb,cdf (by omega),wac,wlh h hv]
theorem zp {n:Nat}{le:Nat→Nat→Bool}(s:List Int) (h:s.length≤4294967296):V34 (mkT n le) s=some (s.all (inB n),()):=by
 unfold V34 wz4
 rw[mkR_len,wkk n s (by omega)];rfl
theorem wkq {n:Nat}{le:Nat→Nat→Bool}(x:Int):V46 (pos n le) x=some (inB n x,()):=by
 unfold V46 wz7 inB
 rw[wb]
 by_cases h:0≤x
 ·rw[cdt h];simp[h]
 ·rw[cdf h];simp[h]
theorem wol {n:Nat}{x:Int}(h:inB n x=true):∃k:Nat,k<n∧x=(k:Int):=by
 unfold inB at h
 rw[decide_eq_true_eq]at h
 exact⟨x.toNat,by omega,by omega⟩
theorem LatP.du {n:Nat}{le:Nat→Nat→Bool}(h:LatP n le):LatP n (du le):=⟨h.le10,Ord.du h.ord,h.lat.ne,h.lat.join,h.lat.meet⟩
theorem LatP.glb {n:Nat}{le:Nat→Nat→Bool}(h:LatP n le){x y:Nat}(hx:x<n) (hy:y<n):IsGlb n le [x,y] (mt n le x y):=wjr (h.lat.meet x y hx hy)
theorem LatP.bnd2 {n:Nat}{le:Nat→Nat→Bool}(h:LatP n le){x y:Nat}(hx:x<n) (hy:y<n):bnd n le [x,y]=((mt n le x y:Nat):Int):=by
 have:=h.lat.meet x y hx hy
 unfold mt;omega
theorem LatP.mlt {n:Nat}{le:Nat→Nat→Bool}(h:LatP n le){x y:Nat}(hx:x<n) (hy:y<n):mt n le x y<n:=(h.glb hx hy).lt
theorem LatP.m1 {n:Nat}{le:Nat→Nat→Bool}(h:LatP n le){x y:Nat}(hx:x<n) (hy:y<n):le (mt n le x y) x=true:=(h.glb hx hy).lo x (by simp)
theorem LatP.m2 {n:Nat}{le:Nat→Nat→Bool}(h:LatP n le){x y:Nat}(hx:x<n) (hy:y<n):le (mt n le x y) y=true:=(h.glb hx hy).lo y (by simp)
theorem LatP.mg {n:Nat}{le:Nat→Nat→Bool}(h:LatP n le){x y z:Nat}(hx:x<n) (hy:y<n) (hz:z<n) (h1:le z x=true) (h2:le z y=true):le z (mt n le x y)=true :=
 (h.glb hx hy).gr z hz (by simp[h1,h2])
theorem LatP.tr {n:Nat}{le:Nat→Nat→Bool}(h:LatP n le){x y z:Nat}(hx:x<n) (hy:y<n) (hz:z<n) (h1:le x y=true) (h2:le y z=true):le x z=true:=h.ord.trans x y z hx hy hz h1 h2
theorem LatP.as {n:Nat}{le:Nat→Nat→Bool}(h:LatP n le){x y:Nat}(hx:x<n) (hy:y<n) (h1:le x y=true) (h2:le y x=true):x=y:=by
 by_cases e:x=y
 ·exact e
 ·rw[h.ord.anti x y hx hy e h1]at h2;cases h2
theorem wd {n:Nat}{le:Nat→Nat→Bool}(x y:Nat):mt n le x y=mt n le y x:=by unfold mt;rw[wcr]
theorem topEx {n:Nat}{le:Nat→Nat→Bool}(h:LatP n le):∃t,IsGlb n le [] t:=by
 have key:∀i,i≤n→∃t,t<n∧∀x,x<i→le x t=true:=by
  intro i
  induction i with
  | zero=>exact fun _=>⟨0,h.lat.ne,by intro x hx;omega⟩
  | succ i ih =>
   intro hi
   obtain⟨t,ht,h1⟩:=ih (by omega)
   have hin:i<n:=by omega
   refine⟨mt n (Yteanfidobhpchaa.du le) t i,h.du.mlt ht hin,all_lt_succ.2 ⟨fun x hx => ?_,h.du.m2 ht hin⟩⟩
   exact h.tr (by omega) ht (h.du.mlt ht hin) (h1 x hx) (h.du.m1 ht hin)
 obtain⟨t,ht,h1⟩:=key n (by omega)
 exact⟨t,ht,by simp,fun z hz _=>h1 z hz⟩
theorem glbEx {n:Nat}{le:Nat→Nat→Bool}(h:LatP n le):∀S:List Nat,(∀s∈S,s<n)→∃m,IsGlb n le S m
 | [],_=>topEx h
 | s::S,hS=>by
  obtain⟨m,hm⟩:=glbEx h S fun x hx=>hS x (by simp[hx])
  have hs:=hS s (by simp)
  refine⟨mt n le s m,h.mlt hs hm.lt,fun x hx => ?_,fun z hz hx => ?_⟩
  ·rcases List.mem_cons.1 hx with rfl|hx'
   ·exact h.m1 hs hm.lt
   ·exact h.tr (h.mlt hs hm.lt) hm.lt (hS x hx) (h.m2 hs hm.lt) (hm.lo x hx')
  ·exact h.mg hs hm.lt hz (hx s (by simp)) (hm.gr z hz fun x hx'=>hx x (by simp[hx']))
theorem LatP.gbs {n:Nat}{le:Nat→Nat→Bool}(h:LatP n le){S:List Nat}(hS:∀s∈S,s<n):IsGlb n le S (gb n le S):=by
 obtain⟨m,hm⟩:=glbEx h S hS
 unfold gb
 rw[ya h.ord hm]
 exact hm
theorem LatP.bnds {n:Nat}{le:Nat→Nat→Bool}(h:LatP n le){S:List Nat}(hS:∀s∈S,s<n):bnd n le S=((gb n le S:Nat):Int):=ya h.ord (h.gbs hS)
theorem w03 {n:Nat}{le:Nat→Nat→Bool}(h:LatP n le){S:List Nat}{m:Nat}(hm:IsGlb n le S m):gb n le S=m:=by
 unfold gb;rw[ya h.ord hm];rfl
theorem noneLt {n:Nat}:∀s∈([]:List Nat),s<n:=fun s hs=>by cases hs
theorem lat1 (n:Nat) (le:Nat→Nat→Bool):(lat n le).1=mkT n le:=rfl
theorem lat2 (n:Nat) (le:Nat→Nat→Bool):(lat n le).2.1=mkT n fun x y=>((mt n le x y:Nat):Int):=rfl
theorem lat3 (n:Nat) (le:Nat→Nat→Bool):(lat n le).2.2.1=mkT n fun x y=>((mt n (du le) x y:Nat):Int):=rfl
theorem w5 {n:Nat}{le:Nat→Nat→Bool}(h:LatP n le){x y:Nat}(hx:x<n) (hy:y<n):V48 (pos n le) (x:Int) (y:Int)=some (((mt n le x y:Nat):Int),()):=by
 have:=h.le10
 unfold V48 wz8
 rw[show([(x:Int),(y:Int)]:List Int)=cs [x,y] from rfl,wl (by omega) (by simp[hx,hy]) (by simp),obS,h.bnd2 hx hy]
theorem wz {n:Nat}{le:Nat→Nat→Bool}(h:LatP n le){x y:Nat}(hx:x<n) (hy:y<n):V49 (pos n le) (x:Int) (y:Int)=some (((mt n (du le) x y:Nat):Int),()):=by
 have:=h.le10
 unfold V49 wz9
 rw[w7 (by omega),obS,show([(x:Int),(y:Int)]:List Int)=cs [x,y] from rfl,wl (by omega) (by simp[hx,hy]) (by simp),obS,h.du.bnd2 hx hy]
theorem specBoundL {n:Nat}{le:Nat→Nat→Bool}(h:LatP n le){S:List Nat}(hS:∀s∈S,s<n) (hl:S.length≤4294967296):V44 big (pos n le) (cs S)=some (((gb n le S:Nat):Int),()):=by
 have:=h.le10
 rw[wl (by omega) hS hl,h.bnds hS]
theorem ws1 {n:Nat}{le:Nat→Nat→Bool}(h:LatP n le):V84 (pos n le)=some (((gb n le []:Nat):Int),()):=by
 unfold V84 w0r
 rw[show([]:List Int)=cs [] from rfl,specBoundL h noneLt (by simp)];rfl
theorem wcv {n:Nat}{le:Nat→Nat→Bool}(h:LatP n le):V83 (pos n le)=some (((gb n (du le) []:Nat):Int),()):=by
 have:=h.le10
 unfold V83 w0q
 rw[w7 (by omega),obS,show([]:List Int)=cs [] from rfl,specBoundL h.du noneLt (by simp)];rfl
theorem w44 {n:Nat}{le:Nat→Nat→Bool}(h:LatP n le):V75 big (some (lat n le))=some (((gb n le []:Nat):Int),()):=by
 have h10:=h.le10
 unfold V75 wr5
 rw[obS,lat1,mkR_len]
 refine w4k n (fun i t=>∃k:Nat,t=(k:Int)∧k<n∧∀x,x<i→le x k=true) (by omega) ?_ ?_ 0 (by omega) _ ⟨0,rfl,h.lat.ne,by intro x hx;omega⟩
 ·intro rc i t hi hv ih
  obtain⟨k,e,hk,h1⟩:=hv
  subst e
  unfold wey
  rw[cdt (by omega),obS,lat3,jd hk,obS,jd hi,obS,wr1 (by omega)]
  refine ih _ ⟨mt n (Yteanfidobhpchaa.du le) k i,rfl,h.du.mlt hk hi,all_lt_succ.2 ⟨fun x hx => ?_,h.du.m2 hk hi⟩⟩
  exact h.tr (by omega) hk (h.du.mlt hk hi) (h1 x hx) (h.du.m1 hk hi)
 ·intro rc t hv
  obtain⟨k,e,hk,h1⟩:=hv
  subst e
  unfold wey
  rw[cdf (by omega),wb5,w03 h ⟨hk,by simp,fun z hz _=>h1 z hz⟩]
theorem wyy {n:Nat}{le:Nat→Nat→Bool}(h:LatP n le):V74 big (some (lat n le))=some (((gb n (du le) []:Nat):Int),()):=by
 have h10:=h.le10
 unfold V74 wr3
 rw[obS,lat1,mkR_len]
 refine w4j n (fun i t=>∃k:Nat,t=(k:Int)∧k<n∧∀x,x<i→le k x=true) (by omega) ?_ ?_ 0 (by omega) _ ⟨0,rfl,h.lat.ne,by intro x hx;omega⟩
 ·intro rc i t hi hv ih
  obtain⟨k,e,hk,h1⟩:=hv
  subst e
  unfold wew
  rw[cdt (by omega),obS,lat2,jd hk,obS,jd hi,obS,wr1 (by omega)]
  refine ih _ ⟨mt n le k i,rfl,h.mlt hk hi,all_lt_succ.2 ⟨fun x hx => ?_,h.m2 hk hi⟩⟩
  exact h.tr (h.mlt hk hi) hk (by omega) (h.m1 hk hi) (h1 x hx)
 ·intro rc t hv
  obtain⟨k,e,hk,h1⟩:=hv
  subst e
  unfold wew
  rw[cdf (by omega),wb4,w03 h.du ⟨hk,by simp,fun z hz _=>h1 z hz⟩]
abbrev bt (n:Nat) (le:Nat→Nat→Bool):Nat:=gb n (du le) []
abbrev tp (n:Nat) (le:Nat→Nat→Bool):Nat:=gb n le []
theorem wjq {n:Nat}{le:Nat→Nat→Bool}(h:LatP n le):bt n le<n:=(h.du.gbs noneLt).lt
theorem wlj {n:Nat}{le:Nat→Nat→Bool}(h:LatP n le):tp n le<n:=(h.gbs noneLt).lt
theorem w5f {n:Nat}{le:Nat→Nat→Bool}(h:LatP n le){x:Nat}(hx:x<n):le (bt n le) x=true:=(h.du.gbs noneLt).gr x hx (by simp)
theorem wli {n:Nat}{le:Nat→Nat→Bool}(h:LatP n le){x:Nat}(hx:x<n):le x (tp n le)=true:=(h.gbs noneLt).gr x hx (by simp)
theorem jlt {n:Nat}{le:Nat→Nat→Bool}(h:LatP n le){x y:Nat}(hx:x<n) (hy:y<n):mt n (du le) x y<n:=h.du.mlt hx hy
theorem j1 {n:Nat}{le:Nat→Nat→Bool}(h:LatP n le){x y:Nat}(hx:x<n) (hy:y<n):le x (mt n (du le) x y)=true:=h.du.m1 hx hy
theorem j2 {n:Nat}{le:Nat→Nat→Bool}(h:LatP n le){x y:Nat}(hx:x<n) (hy:y<n):le y (mt n (du le) x y)=true:=h.du.m2 hx hy
theorem jg {n:Nat}{le:Nat→Nat→Bool}(h:LatP n le){x y z:Nat}(hx:x<n) (hy:y<n) (hz:z<n) (h1:le x z=true) (h2:le y z=true):le (mt n (du le) x y) z=true:=h.du.mg hx hy hz h1 h2
def rel (n:Nat) (le:Nat→Nat→Bool) (x y z:Nat):List Nat:=fl n fun c=>decide (mt n le c y=x)&&decide (mt n (du le) c y=z)
def comp (n:Nat) (le:Nat→Nat→Bool) (x:Nat):List Nat:=rel n le (bt n le) x (tp n le)
theorem wzv {n:Nat}{le:Nat→Nat→Bool}(hn:n≤1048576){x:Nat}(hx:x<n):V78 (mkT n le) (x:Int)=some (cs (fl n fun y=>cov n le x y),()):=by
 unfold V78 w0m
 rw[x9 (mkR_len n _) hn (P:=fun y=>cov n le x y)]
 ·rfl
 ·intro i hi
  unfold V76 w0l
  rw[x7 hn hx hi];rfl
theorem wgi {S:List Nat}{k:Nat}(h:k<S.length):S.getD k 0=S[k]:=by rw[List.getD_eq_getElem?_getD,List.getElem?_eq_getElem h];rfl
def Cen (n:Nat) (le:Nat→Nat→Bool) (x y:Nat):Prop:=∀z,z<n→mt n (du le) (mt n le z x) (mt n le z y)=z∧mt n le (mt n (du le) z x) (mt n (du le) z y)=z
abbrev P2:=Int×Int×Unit
def lx:List Int→List Int→Bool
 | a::s,b::t=>if a≠b then decide (a<b) else lx s t
 | _,_=>false
def upd (b f:List Int) (g:Bool):List Int:=if g&&(decide (b.length=0)||lx f b) then f else b
def f5 (n:Nat) (le:Nat→Nat→Bool) (o:Nat) (x y z i:Nat):List Int:=[(o:Int),(x:Int),(y:Int),(z:Int),(i:Int)]
theorem wsu {n:Nat}{P Q:Nat→Bool}(h:∀x,x<n→P x=true→Q x=true){y:Nat}(hy:y<n) (h1:Q y=true) (h2:P y=false):(fl n P).length<(fl n Q).length:=by
 have hm:(fl n P).Sublist (fl n Q):=by
  have e:fl n P=(fl n Q).filter P:=by
   unfold fl
   rw[List.filter_filter]
   refine List.filter_congr fun x hx => ?_
   have:=h x (List.mem_range.1 hx)
   cases hp:P x with
   | true=>simp[this hp]
   | false=>simp
  rw[e];exact List.filter_sublist
 refine Nat.lt_of_le_of_ne hm.length_le fun e => ?_
 have:=hm.eq_of_length e
 have hq:=Go.Gx.fl_inj this hy
 rw[h1,h2]at hq
 exact absurd hq (by simp)
def abN (n:Nat) (le:Nat→Nat→Bool) (x:Nat):Nat:=(fl n fun z=>ls le x z).length
theorem w04 {n:Nat}{le:Nat→Nat→Bool}(h:LatP n le){x y z:Nat}(hx:x<n) (hy:y<n) (hz:z<n) (h1:ls le x y=true) (h2:ls le y z=true):ls le x z=true:=by
 unfold ls at *
 simp only[Bool.and_eq_true,decide_eq_true_eq]at *
 refine⟨fun e => ?_,h.ord.trans x y z hx hy hz h1.2 h2.2⟩
 subst e
 have:=h.ord.anti x y hx hy h1.1 h1.2;rw[h2.2]at this;exact absurd this (by simp)
theorem wot {le:Nat→Nat→Bool}{x:Nat}:ls le x x=false:=by unfold ls;simp
theorem wof {n:Nat}{le:Nat→Nat→Bool}{x y:Nat}(h:cov n le x y=true):ls le x y=true:=by
 unfold cov at h
 exact(Bool.and_eq_true_iff.1 h).1
theorem wfj {n:Nat}{le:Nat→Nat→Bool}(h:LatP n le){x y:Nat}(hx:x<n) (hy:y<n) (hc:cov n le x y=true):abN n le y<abN n le x :=
 wsu (fun z hz hyz=>w04 h hx hy hz (wof hc) hyz) hy (wof hc) wot
theorem w5e {n:Nat}{le:Nat→Nat→Bool}{x:Nat}(hx:x<n):abN n le x<n:=by
 have:(fl n fun z=>ls le x z).length<(fl n fun _=>true).length:=wsu (fun _ _ _=>rfl) hx rfl wot
 have:=jh n fun _=>true
 unfold abN
 omega
def chs (n:Nat) (le:Nat→Nat→Bool):Nat→Nat→List (List Nat)
 | 0,_=>[]
 | d+1,x=>if x=tp n le then [[x]] else(fl n fun y=>cov n le x y).flatMap fun y=>(chs n le d y).map fun c=>x::c
theorem wct {α β:Type}{f:α→List β}{k:Nat}:∀{l:List α},(∀x∈l,(f x).length≤k)→(l.flatMap f).length≤l.length*k
 | [],_=>by simp
 | x::l,h=>by
  have h1:=wct (f:=f) (k:=k) (l:=l) fun y hy=>h y (List.mem_cons_of_mem _ hy)
  have h2:=h x List.mem_cons_self
  rw[List.flatMap_cons,List.length_append,List.length_cons,Nat.succ_mul];omega
theorem wj6 {n:Nat}{le:Nat→Nat→Bool}(h10:n≤10):∀d x,(chs n le (d+1) x).length≤10 ^ d
 | 0,x=>by
  unfold chs
  split
  ·simp
  ·have:((fl n fun y=>cov n le x y).flatMap fun y=>(chs n le 0 y).map fun c=>x::c)=[]:=by
    rw[List.flatMap_eq_nil_iff];intro y _;rfl
   rw[this];simp
 | d+1,x=>by
  unfold chs
  split
  ·have:0<10 ^ (d+1):=Nat.pow_pos (by omega)
   simp;omega
  ·refine Nat.le_trans (wct (k:=10 ^ d) fun y _ => ?_) ?_
   ·rw[List.length_map];exact wj6 h10 d y
   ·rw[Nat.pow_succ,Nat.mul_comm]
    exact Nat.mul_le_mul_left _ (Nat.le_trans (jh _ _) h10)
theorem wcs {n:Nat}{le:Nat→Nat→Bool}(h10:n≤10){d x:Nat}(hd:d≤9):(chs n le d x).length≤100000000:=by
 cases d with
 | zero=>simp[chs]
 | succ d =>
  have h1:=wj6 (le:=le) h10 d x
  have h2:10 ^ d≤10 ^ 8:=Nat.pow_le_pow_right (by omega) (by omega)
  omega
theorem wj7 {n:Nat}{le:Nat→Nat→Bool}:∀d x,∀c∈chs n le d x,c.length≤d
 | 0,_,c,h=>by simp[chs]at h
 | d+1,x,c,h=>by
  unfold chs at h
  split at h
  ·simp at h;subst h;simp
  ·obtain⟨y,_,h2⟩:=List.mem_flatMap.1 h
   obtain⟨c',h3,rfl⟩:=List.mem_map.1 h2
   have:=wj7 d y c' h3
   simp;omega
theorem wy1 {α β:Type}{f:α→List β}{l:List α}{i:Nat}(h:i<l.length):(l.take (i+1)).flatMap f=(l.take i).flatMap f++f l[i]:=by
 rw[List.take_succ_eq_append_getElem h,List.flatMap_append,List.flatMap_cons,List.flatMap_nil,List.append_nil]
theorem map_take {α β:Type}{f:α→β}{l:List α}{i:Nat}(h:i<l.length):(l.take (i+1)).map f=(l.take i).map f++[f l[i]]:=by
 rw[List.take_succ_eq_append_getElem h,List.map_append,List.map_cons,List.map_nil]
theorem implChains {n:Nat}{le:Nat→Nat→Bool}(h:LatP n le):∀d N x,d≤10→d≤N→x<n→abN n le x<d→R_V79 N (some (lat n le),(x:Int),())=some ((chs n le d x).map cs,())
 | 0,N,x,_,_,_,h4=>absurd h4 (by omega)
 | d+1,0,x,_,h2,_,_=>absurd h2 (by omega)
 | d+1,N+1,x,h1,h2,hx,h4=>by
  have h10:=h.le10
  unfold R_V79 V79 wr9
  simp only[w44 h,obS]
  unfold chs
  by_cases e:x=tp n le
  ·rw[cdt (congrArg Nat.cast e),if_pos e];rfl
  ·rw[cdf (show ¬(x:Int)=((gb n le []:Nat):Int) from fun c=>e (Int.ofNat.inj c)),if_neg e,lat1,wzv (by omega) hx,obS,cs_len]
   have hll:=jh n fun y=>cov n le x y
   refine w4m _ (fl n fun y=>cov n le x y).length (fun i l=>l=((((fl n fun y=>cov n le x y).take i).flatMap fun y=>(chs n le d y).map fun c=>x::c).map cs)) (by omega) ?_ ?_ 0 (by omega) _ rfl
   ·intro rc i l hi hv ih
    have hm:=fl_mem.1 (List.getElem_mem hi)
    have hr:=implChains h d N ((fl n fun y=>cov n le x y)[i]) (by omega) (by omega) hm.1 (by have:=wfj h hx hm.1 hm.2;omega)
    have hlen9:=wcs (le:=le) h10 (d:=d) (x:=(fl n fun y=>cov n le x y)[i]) (by omega)
    have hpre:(((fl n fun y=>cov n le x y).take i).flatMap fun y=>(chs n le d y).map fun c=>x::c).length≤i*100000000:=by
     refine Nat.le_trans (wct (k:=100000000) fun y _ => ?_) ?_
     ·rw[List.length_map];exact wcs h10 (by omega)
     ·rw[List.length_take];exact Nat.mul_le_mul_right _ (by omega)
    unfold wb9
    simp only[cdt (show(i:Int)<((fl n fun y=>cov n le x y).length:Int) by omega),jn hi,obS,Int.toNat_natCast,jy hi,hr,List.length_map]
    refine w4n _ (chs n le d ((fl n fun y=>cov n le x y)[i])).length (fun j l2=>l2=l++(((chs n le d ((fl n fun y=>cov n le x y)[i])).take j).map fun c=>cs (x::c))) (by omega) ?_ ?_ 0 (by omega) _ (by simp)
    ·intro rc2 j l2 hj hl2 ih2
     have hjm:j<((chs n le d ((fl n fun y=>cov n le x y)[i])).map cs).length:=by rw[List.length_map];exact hj
     have hrow:=wj7 d _ _ (List.getElem_mem hj)
     unfold we3
     simp only[cdt (show(j:Int)<((chs n le d ((fl n fun y=>cov n le x y)[i])).length:Int) by omega),jf _ j hjm,obS,Int.toNat_natCast,List.getElem?_eq_getElem hjm,List.getElem_map,wr1 (show j≤4611686018427387904 by omega)]
     have e1:appI [(x:Int)] (cs (chs n le d ((fl n fun y=>cov n le x y)[i]))[j])=some (cs (x::(chs n le d ((fl n fun y=>cov n le x y)[i]))[j])):=by
      unfold appI
      rw[if_pos (by simp;omega)];rfl
     rw[e1,obS,app1,obS]
     ·exact ih2 _ (by rw[hl2,map_take hj,List.append_assoc])
     ·rw[hl2,hv,List.length_append,List.length_map,List.length_map,List.length_take]
      have:i*100000000≤10*100000000:=Nat.mul_le_mul_right _ (by omega)
      omega
    ·intro rc2 l2 hl2
     rw[List.take_length]at hl2
     unfold we3
     rw[cdf (by omega),wb8,wr1 (by omega)]
     exact ih _ (by rw[hl2,hv,wy1 hi,List.map_append,List.map_map];rfl)
   ·intro rc l hv
    rw[List.take_length]at hv
    unfold wb9
    rw[cdf (by omega),xx,hv]
theorem specChains {n:Nat}{le:Nat→Nat→Bool}(h:LatP n le):∀d N x (pre:List Int),d≤10→d≤N→x<n→abN n le x<d→pre.length+d≤100→R_V86 N (pos n le,pre++[(x:Int)],())=some ((chs n le d x).map fun c=>pre++cs c,())
 | 0,N,x,pre,_,_,_,h4,_=>absurd h4 (by omega)
 | d+1,0,x,pre,_,h2,_,_,_=>absurd h2 (by omega)
 | d+1,N+1,x,pre,h1,h2,hx,h4,h5=>by
  have h10:=h.le10
  unfold R_V86 V86 wse
  have hat:atI (pre++[(x:Int)]) (IntKind.i64.wrap (((pre++[(x:Int)]).length:Int)-1))=some (x:Int):=by
   rw[wr (by omega) (by simp;omega),show(((pre++[(x:Int)]).length:Int)-1)=((pre.length:Nat):Int) by simp,jf _ _ (by simp)]
   simp
  have hown:V85 (pre++[(x:Int)])=some (pre++[(x:Int)],()):=by
   unfold V85 w0s appI
   rw[if_pos (by simp;omega)];rfl
  simp only[hat,ws1 h,obS]
  unfold chs
  by_cases e:x=tp n le
  ·rw[cdt (congrArg Nat.cast e),if_pos e,hown,obS,app1 (by simp),obS];rfl
  ·rw[cdf (show ¬(x:Int)=((gb n le []:Nat):Int) from fun c=>e (Int.ofNat.inj c)),if_neg e]
   refine w4q _ n (fun i l=>l=(((fl i fun y=>cov n le x y).flatMap fun y=>(chs n le d y).map fun c=>x::c).map fun c=>pre++cs c)) (by omega) ?_ ?_ 0 (by omega) _ rfl
   ·intro rc i l hi hv ih
    unfold wcc
    rw[wb,cdt (by omega),x8 (by omega) hx hi,obS,wr1 (by omega)]
    have hpre:((fl i fun y=>cov n le x y).flatMap fun y=>(chs n le d y).map fun c=>x::c).length≤i*100000000:=by
     refine Nat.le_trans (wct (k:=100000000) fun y _ => ?_) ?_
     ·rw[List.length_map];exact wcs h10 (by omega)
     ·exact Nat.mul_le_mul_right _ (jh _ _)
    have hlen9:=wcs (le:=le) h10 (d:=d) (x:=i) (by omega)
    have hmul:i*100000000≤10*100000000:=Nat.mul_le_mul_right _ (by omega)
    cases hc:cov n le x i with
    | true =>
     have hr:=specChains h d N i (pre++[(x:Int)]) (by omega) (by omega) hi (by have:=wfj h hx hi hc;omega) (by simp;omega)
     have happ:appI l ((chs n le d i).map fun c=>(pre++[(x:Int)])++cs c)=some (l++((chs n le d i).map fun c=>(pre++[(x:Int)])++cs c)):=by
      unfold appI
      rw[if_pos (by rw[hv,List.length_map,List.length_map];omega)]
     rw[cond_true,hown,obS,app1 (by simp;omega),obS]
     simp only[hr,obS,happ]
     refine ih _ ?_
     rw[hv,qd,if_pos hc,List.flatMap_append,List.map_append]
     simp only[List.flatMap_cons,List.flatMap_nil,List.append_nil,List.map_map]
     congr 1
     refine List.map_congr_left fun c _ => ?_
     simp
    | false=>exact ih _ (by rw[hv,qd,if_neg (by simp[hc])])
   ·intro rc l hv
    unfold wcc
    rw[wb,cdf (by omega),wcb,hv]
structure Pt (n:Nat) (P:Nat→Nat):Prop where
 lo:∀x,x<n→P x≤x
 id:∀x,x<n→P (P x)=P x
theorem Pt.lt {n:Nat}{P:Nat→Nat}(h:Pt n P){x:Nat}(hx:x<n):P x<n:=Nat.lt_of_le_of_lt (h.lo x hx) hx
def Lep (n:Nat) (P C:Nat→Nat):Prop:=∀x,x<n→C (P x)=C x
theorem Lep.refl {n:Nat}{P:Nat→Nat}(h:Pt n P):Lep n P P:=h.id
theorem Lep.trans {n:Nat}{P Q C:Nat→Nat}(h:Pt n P) (h1:Lep n P Q) (h2:Lep n Q C):Lep n P C:=fun x hx=>by
 have e1:=h1 x hx
 have e2:=h2 (P x) (h.lt hx)
 have e3:=h2 x hx
 rw[←e2,e1,e3]
inductive Wd where
 | v (n:Int)
 | op (g:Int) (a b:Wd)
def Wd.fl:Wd→List Int
 | .v n=>[n]
 | .op g a b=>g::(a.fl++b.fl)
def Wd.ok:Wd→Prop
 | .v n=>0≤n∧n<5
 | .op g a b=>(g = -1∨g = -2)∧a.ok∧b.ok
theorem Wd.pos:∀A:Wd,0<A.fl.length
 | .v n=>by simp[Wd.fl]
 | .op g a b=>by simp[Wd.fl]
def At (s:List Int) (i:Nat) (A:Wd):Prop:=A.ok∧∃r,s.drop i=A.fl++r
theorem At.lt {s:List Int}{i:Nat}{A:Wd}(h:At s i A):i+A.fl.length≤s.length:=by
 obtain⟨_,r,e⟩:=h
 have:=congrArg List.length e
 have:=A.pos
 simp only[List.length_drop,List.length_append]at *
 omega
def ea (E:List P2) (i:Nat):Nat:=(E.getD i (0,0,())).1.toNat
def eb (E:List P2) (i:Nat):Nat:=(E.getD i (0,0,())).2.1.toNat
abbrev Cu:=List Int×Int×Int×Unit
def COk (k:Nat) (c:Cu):Prop:=0≤c.2.1∧c.2.1+k≤4611686018427387904∧c.1.length≤65536∧∀x∈c.1,0≤x∧x≤255
theorem and255 (x:Int):∃n:Nat,n≤255∧bitI .and .u64 x 255=(n:Int):=by
 refine⟨(BitVec.ofInt IntKind.u64.bits x &&& BitVec.ofInt IntKind.u64.bits 255).toNat, ?_, ?_⟩
 ·rw[BitVec.toNat_and]
  exact Nat.le_trans Nat.and_le_right (by decide)
 ·have h:(BitVec.ofInt IntKind.u64.bits x &&& BitVec.ofInt IntKind.u64.bits 255).toNat≤255:=by
   rw[BitVec.toNat_and]
   exact Nat.le_trans Nat.and_le_right (by decide)
  unfold bitI
  exact IntWalk.u64_in _ (by omega)
theorem woh {k:Nat}{c:Cu}(h:COk (k+1) c):∃v c',V1 c=some (v,(c',()))∧0≤v∧v≤255∧COk k c':=by
 obtain⟨h0,h1,h2,h3⟩:=h
 obtain⟨l,a,s,u⟩:=c
 simp only at h0 h1 h2 h3
 have hw:IntKind.i64.wrap (a+1)=a+1:=wr (by omega) (by omega)
 have key:∀s':Int,COk k (l,a+1,s',u):=fun s'=>⟨by show 0≤a+1;omega,by show a+1+k≤_;omega,h2,h3⟩
 have tail:∀s':Int,∃v c',((shrI IntKind.u64 s' (40:Int)).bind fun xq=>some (IntKind.i64.wrap (bitI .and IntKind.u64 xq (255:Int)),((l,a+1,s',u),())))=some (v,(c',()))∧0≤v∧v≤255∧COk k c':=by
  intro s'
  obtain⟨n,hn,e⟩:=and255 (s'.fdiv (2 ^ min (40:Int).toNat IntKind.u64.bits))
  unfold shrI
  rw[if_neg (by omega),obS,e,wr (by omega) (by omega)]
  exact⟨_,_,rfl,by omega,by omega,key s'⟩
 unfold V1 V1_s
 dsimp only
 rw[hw]
 by_cases ha:a<(l.length:Int)
 ·rw[cdt ha]
  have hal:a.toNat<l.length:=by omega
  have e:atI l a=some l[a.toNat]:=by
   have:=jf l a.toNat hal
   rwa [show((a.toNat:Nat):Int)=a by omega]at this
  have hb:=h3 _ (List.getElem_mem hal)
  rw[e,obS]
  by_cases c:a+1≤(l.length:Int)
  ·rw[cdt c,wr (by omega) (by omega)]
   exact⟨_,_,rfl,hb.1,hb.2,key _⟩
  ·rw[cdf c]
   exact tail _
 ·rw[cdf ha]
  by_cases c:a+1≤(l.length:Int)
  ·rw[cdt c]
   exact⟨_,_,rfl,by omega,by omega,key _⟩
  ·rw[cdf c]
   exact tail _
theorem COk.mono {k j:Nat}{c:Cu}(h:COk k c) (hj:j≤k):COk j c:=by
 obtain⟨h0,h1,h2,h3⟩:=h
 exact⟨h0,by omega,h2,h3⟩
theorem woz {a n:Int}(ha:0≤a) (hn:0<n):∃v,remI a n=some v∧0≤v∧v<n:=by
 refine⟨a.tmod n, ?_,Int.tmod_nonneg n ha,Int.tmod_lt_of_pos a hn⟩
 unfold remI
 rw[if_neg (by omega)]
theorem wg {k:Nat}{c:Cu}(h:COk (k+2) c) (n:Int):∃v c',V2 c n=some (v,(c',()))∧0≤v∧(1≤n→v<n)∧COk k c':=by
 unfold V2 V2_s
 by_cases h1:n≤1
 ·rw[cdt h1]
  exact⟨_,_,rfl,by omega,by omega,h.mono (by omega)⟩
 ·obtain⟨v,c1,e1,a1,a2,k1⟩:=woh (k:=k+1) h
  rw[cdf h1,e1,obS]
  by_cases h2:200<n
  ·obtain⟨v2,c2,e2,b1,b2,k2⟩:=woh k1
   rw[cdt h2]
   dsimp only
   rw[e2,obS]
   dsimp only
   rw[wr (n:=v*256) (by omega) (by omega),wr (by omega) (by omega)]
   obtain⟨z,ez,z0,z1⟩:=woz (a:=v*256+v2) (n:=n) (by omega) (by omega)
   rw[ez,obS]
   exact⟨_,_,rfl,z0,fun _=>z1,k2⟩
  ·rw[cdf h2]
   dsimp only
   obtain⟨z,ez,z0,z1⟩:=woz (a:=v) (n:=n) a1 (by omega)
   rw[ez,obS]
   exact⟨_,_,rfl,z0,fun _=>z1,k1.mono (by omega)⟩
theorem yn {k:Nat}{c:Cu}(h:COk (k+2) c) (n:Int):∃b c',V3 c n=some (b,(c',()))∧COk k c':=by
 obtain⟨v,c1,e1,_,_,k1⟩:=wg h n
 unfold V3 V3_s
 rw[e1,obS]
 exact⟨_,_,rfl,k1⟩
theorem zv {k:Nat}{c:Cu}(h:COk (k+2) c){l:List Int}(hl:l≠[]):∃v c',V4 c l=some (v,(c',()))∧v∈l∧COk k c':=by
 obtain⟨v,c1,e1,h0,h1,k1⟩:=wg h (l.length:Int)
 have hp:=List.length_pos_iff.2 hl
 have hv:=h1 (by omega)
 have hvl:v.toNat<l.length:=by omega
 have e:atI l v=some l[v.toNat]:=by
  have:=jf l v.toNat hvl
  rwa [show((v.toNat:Nat):Int)=v by omega]at this
 unfold V4 V4_s
 rw[e1,obS]
 dsimp only
 rw[e,obS]
 exact⟨_,_,rfl,List.getElem_mem hvl,k1⟩
def Codes (code:List Int):Prop:=code.length≤65536∧∀x∈code,0≤x∧x≤255
theorem Codes.start {code:List Int}(h:Codes code):COk 10000 (code,(0:Int),(0:Int),()):=⟨Int.le_refl _,by show(0:Int)+(10000:Nat)≤_;omega,h.1,h.2⟩
abbrev PTd:=List (List Int)×Unit
def DrP (m:Nat) (p:PTd):Prop:=p.1.length≤m∧∀r∈p.1,r.length≤m
theorem woj {n:Int}(h1 : -1000≤n) (h2:n≤1000){l:List Int}(hl:l.length≤1000):∃b,V7 big n l=some (b,())∧(b=true→∀x∈l,0≤x∧x<n):=by
 unfold V7 V7_s
 refine w49 (Q:=fun r=>∃b,r=some (b,())∧(b=true→∀x∈l,0≤x∧x<n)) l.length (fun i=>∀x∈l.take i,0≤x∧x<n) (by omega) (fun rc i hi hI hr => ?_) (fun rc hI => ?_) 0 (by omega) (by simp)
 ·unfold wi1
  rw[cdt (by omega),jf l i hi,obS,wp7,obS,wr (by omega) (by omega)]
  by_cases c:0≤l[i]∧l[i]≤n-1
  ·rw[decide_eq_true c]
   simp only[Bool.not_true,cond_false]
   rw[wr (by omega) (by omega)]
   refine hr fun x hx => ?_
   rw[List.take_succ_eq_append_getElem hi,List.mem_append,List.mem_singleton]at hx
   rcases hx with hx|rfl
   ·exact hI x hx
   ·omega
  ·rw[decide_eq_false c]
   simp only[Bool.not_false,cond_true]
   exact⟨_,rfl,fun h=>by cases h⟩
 ·unfold wi1 wfz
  rw[cdf (by omega)]
  refine⟨_,rfl,fun _ => ?_⟩
  have hI:∀x∈l.take l.length,0≤x∧x<n:=hI
  rwa [List.take_of_length_le (Nat.le_refl _)]at hI
theorem wov {n:Nat}(hn:n≤1000){l:List Int}(hl:l.length≤1000):∃b,V8 big l (n:Int)=some (b,())∧(b=true→l.length=n∧∀x∈l,0≤x∧x<n):=by
 unfold V8 V8_s
 by_cases h:(l.length:Int)≠(n:Int)
 ·rw[cdt h]
  exact⟨_,rfl,fun h=>by cases h⟩
 ·rw[cdf h]
  have hln:l.length=n:=by omega
  obtain⟨b,e,hb⟩:=woj (n:=(n:Int)) (by omega) (by omega) hl
  rw[e,obS]
  cases b with
  | false=>exact⟨_,rfl,fun h=>by cases h⟩
  | true =>
   have hb:=hb rfl
   simp only[Bool.not_true,cond_false]
   rw[ug false n (by omega),obS,obS,cdt (by omega)]
   refine w5a (Q:=fun r=>∃b,r=some (b,())∧(b=true→l.length=n∧∀x∈l,0≤x∧x<n)) n (fun i s=>s.length=n) (by omega) (fun rc i s hi hI hr => ?_) (fun rc s hI => ?_) 0 (by omega) _ (by simp)
   ·unfold wja
    have hil:i<l.length:=by omega
    have hx:=hb _ (List.getElem_mem hil)
    have hxl:l[i].toNat<s.length:=by rw[hI];omega
    have ea:atI s l[i]=some s[l[i].toNat]:=by
     have:=jf s l[i].toNat hxl
     rwa [show((l[i].toNat:Nat):Int)=l[i] by omega]at this
    rw[cdt (by omega),jf l i hil,obS,ea,obS,List.getElem?_eq_getElem hxl,obS]
    cases s[l[i].toNat] with
    | true=>exact⟨_,rfl,fun h=>by cases h⟩
    | false =>
     rw[cond_false,obS,ea,obS,List.getElem?_eq_getElem hxl,obS,wr (by omega) (by omega)]
     exact hr _ (by simpa using hI)
   ·unfold wja wf0
    rw[cdf (by omega)]
    exact⟨_,rfl,fun _=>⟨hln,hb⟩⟩
theorem wjt {k n:Nat}(hn:n≤1000){c:Cu}(h:COk (k+2*n+6) c):∃l c',V5 big c (n:Int)=some (l,(c',()))∧l.length≤n+1∧COk k c':=by
 unfold V5 V5_s
 refine w48 (Q:=fun r=>∃l c',r=some (l,(c',()))∧l.length≤n+1∧COk k c') n (fun i c l=>l.length=i∧COk (k+2*(n-i)+6) c) (by omega) (fun rc i c l hi hI hr => ?_) (fun rc c l hI => ?_) 0 (by omega) _ _ ⟨rfl,by simpa using h⟩
 ·obtain⟨hl,hc⟩:=hI
  unfold wie
  obtain⟨v,c',e,v0,v1,hc'⟩:=wg (k:=k+2*(n-(i+1))+6) (hc.mono (by omega)) ((l.length:Int)+1)
  have hv:=v1 (by omega)
  rw[cdt (by omega),wr (n:=(l.length:Int)+1) (by omega) (by omega),e,obS]
  dsimp only
  have s1:slI l 0 v=some ((l.drop 0).take (v-0).toNat):=by unfold slI;rw[if_pos (by omega)];rfl
  have s2:slI l v (l.length:Int)=some ((l.drop v.toNat).take ((l.length:Int)-v).toNat):=by unfold slI;rw[if_pos (by omega)]
  rw[s1,obS,jk (by simp;omega),obS,jk (by simp;omega),obS,s2,obS,jk (by simp;omega),obS,wr (by omega) (by omega)]
  refine hr _ _ ⟨?_,hc'⟩
  simp
  omega
 ·obtain⟨hl,hc⟩:=hI
  unfold wie wfy
  rw[cdf (by omega)]
  obtain⟨v,c',e,v0,v1,hc'⟩:=wg (k:=k+4) (hc.mono (by omega)) 24
  rw[e,obS]
  dsimp only
  by_cases h0:v=0
  ·rw[cdt h0,jk (by simp;omega),obS]
   exact⟨_,_,rfl,by simp[hl],hc'.mono (by omega)⟩
  ·rw[cdf h0]
   by_cases h1:v=1
   ·rw[cdt h1]
    by_cases h2:(0:Int)<n
    ·rw[cdt h2]
     obtain⟨v2,c2,e2,a0,a1,hc2⟩:=wg (k:=k+2) (hc'.mono (by omega)) (n:Int)
     have ha:=a1 (by omega)
     obtain⟨v3,c3,e3,_,hc3⟩:=zv (k:=k) hc2 (l:=[(0:Int), -1,(n:Int)]) (by simp)
     have hvl:v2.toNat<l.length:=by omega
     have ea:atI l v2=some l[v2.toNat]:=by
      have:=jf l v2.toNat hvl
      rwa [show((v2.toNat:Nat):Int)=v2 by omega]at this
     rw[e2,obS]
     dsimp only
     rw[e3,obS]
     dsimp only
     rw[ea,obS,List.getElem?_eq_getElem hvl,obS]
     exact⟨_,_,rfl,by simp[hl],hc3⟩
    ·rw[cdf h2]
     exact⟨_,_,rfl,by omega,hc'.mono (by omega)⟩
   ·rw[cdf h1]
    exact⟨_,_,rfl,by omega,hc'.mono (by omega)⟩
def MX (n:Nat) (m:List (List Bool)):Prop:=m.length=n∧(∀r∈m,r.length=n)∧∀i,i<n→∃r,m[i]? = some r∧r[i]? = some true
theorem MX.set {n:Nat}{m:List (List Bool)}(h:MX n m){x y:Nat}{r:List Bool}(hr:m[x]? = some r){v:Bool}(hv:x=y→v=true):MX n (m.set x (r.set y v)):=by
 obtain⟨h1,h2,h3⟩:=h
 have hx:=(List.getElem?_eq_some_iff.1 hr).1
 refine⟨by simpa using h1,fun q hq => ?_,fun i hi => ?_⟩
 ·rcases List.mem_or_eq_of_mem_set hq with hq|rfl
  ·exact h2 q hq
  ·rw[List.length_set];exact h2 r (List.mem_of_getElem? hr)
 ·obtain⟨q,q1,q2⟩:=h3 i hi
  by_cases e:x=i
  ·subst e
   rw[hr]at q1
   cases q1
   refine⟨_,by rw[List.getElem?_set_self hx], ?_⟩
   by_cases e:y=x
   ·subst e
    have hl:y<r.length:=(List.getElem?_eq_some_iff.1 q2).1
    rw[List.getElem?_set_self hl,hv rfl]
   ·rw[List.getElem?_set_ne e];exact q2
  ·exact⟨q,by rw[List.getElem?_set_ne e];exact q1,q2⟩
theorem MX.at {n:Nat}{m:List (List Bool)}(h:MX n m){x y:Nat}(hx:x<n) (hy:y<n):∃r v,m[x]? = some r∧atI m (x:Int)=some r∧r[y]? = some v∧atI r (y:Int)=some v∧(x=y→v=true):=by
 obtain⟨h1,h2,h3⟩:=h
 have hl:x<m.length:=by omega
 have hr:=h2 _ (List.getElem_mem hl)
 have hyl:y<(m[x]).length:=by omega
 refine⟨m[x],(m[x])[y],List.getElem?_eq_getElem hl,jf m x hl,List.getElem?_eq_getElem hyl,jf _ y hyl,fun e => ?_⟩
 subst e
 obtain⟨q,q1,q2⟩:=h3 x hx
 rw[List.getElem?_eq_getElem hl]at q1
 cases q1
 rw[List.getElem?_eq_getElem hyl]at q2
 exact Option.some.inj q2
def Fr (n:Nat) (r:Option (PTd×Unit)):Prop:=∃p:PTd,r=some (p,())∧p.1.length=n∧∀q∈p.1,1≤q.length∧q.length≤n
theorem wy2 {n:Nat}(hn:n≤100){t4:PTd}{m:List (List Bool)}(hm:MX n m):Fr n (wv big (n:Int) t4 m ([],()) (0:Int)):=by
 refine w4z (Q:=Fr n) n (fun i p=>p.1.length=i∧∀q∈p.1,1≤q.length∧q.length≤n) (by omega) (fun rc i p hi hI hr => ?_) (fun rc p hI => ?_) 0 (by omega) _ ⟨rfl,by simp⟩
 ·obtain⟨hI1,hI2⟩:=hI
  unfold wcm
  rw[cdt (by omega)]
  refine w40 (Q:=Fr n) n (fun j b=>b.length≤j∧(i<j→1≤b.length)) (by omega) (fun rc2 j b hj hJ hr2 => ?_) (fun rc2 b hJ => ?_) 0 (by omega) _ ⟨by simp,by omega⟩
  ·unfold wfg
   obtain⟨r,v,e1,e2,e3,e4,e5⟩:=hm.at hj hi
   rw[cdt (by omega),e2,obS,Int.toNat_natCast,e1,obS,obS,e4,obS,obS,Int.toNat_natCast,e3,obS]
   cases v with
   | true =>
    rw[cond_true,jk (by simp;omega),obS,wr (by omega) (by omega)]
    exact hr2 _ ⟨by simp;omega,fun _=>by simp⟩
   | false =>
    rw[cond_false,wr (by omega) (by omega)]
    refine hr2 _ ⟨by omega,fun h=>hJ.2 ?_⟩
    rcases Nat.lt_or_ge i j with h'|h'
    ·exact h'
    ·have:j=i:=by omega
     exact absurd (e5 this) (by simp)
  ·unfold wfg wcj
   rw[cdf (by omega),jk (by simp;omega),obS,wr (by omega) (by omega)]
   refine hr _ ⟨by simp[hI1],fun q hq => ?_⟩
   rcases List.mem_append.1 hq with hq|hq
   ·exact hI2 q hq
   ·rw[List.mem_singleton]at hq
    subst hq
    exact⟨hJ.2 hi,hJ.1⟩
 ·unfold wcm x5
  rw[cdf (by omega)]
  exact⟨_,rfl,hI.1,hI.2⟩
theorem wsv {n:Nat}(hn:n≤100){t4:PTd}{m:List (List Bool)}(hm:MX n m):Fr n (zl big (n:Int) t4 m (0:Int)):=by
 refine w4w (Q:=Fr n) n (fun _ m=>MX n m) (by omega) (fun rc z m hz hm hr => ?_) (fun rc m hm => ?_) 0 (by omega) _ hm
 ·unfold wck
  rw[cdt (by omega)]
  refine w4x (Q:=Fr n) n (fun _ m=>MX n m) (by omega) (fun rc x m hx hm hr2 => ?_) (fun rc m hm => ?_) 0 (by omega) _ hm
  ·unfold wcl
   rw[cdt (by omega)]
   refine w4y (Q:=Fr n) n (fun _ m=>MX n m) (by omega) (fun rc y m hy hm hr3 => ?_) (fun rc m hm => ?_) 0 (by omega) _ hm
   ·unfold wff
    obtain⟨r,v,e1,e2,e3,e4,e5⟩:=hm.at hx hy
    obtain⟨r',v',f1,f2,f3,f4,f5⟩:=hm.at hx hz
    rw[e1]at f1
    cases f1
    obtain⟨s,u,g1,g2,g3,g4,g5⟩:=hm.at hz hy
    simp only[Int.toNat_natCast,cdt (show(y:Int)<n by omega),e1,e2,e3,e4,f3,f4,g1,g2,g3,g4,obS]
    rw[wr (by omega) (by omega),show(y:Int)+1=((y+1:Nat):Int) by omega]
    cases v with
    | true =>
     rw[cond_true]
     exact hr3 _ (hm.set e1 fun _=>rfl)
    | false =>
     have hxy:x≠y:=fun e=>by have:=e5 e;cases this
     rw[cond_false]
     cases v' with
     | true=>rw[cond_true];exact hr3 _ (hm.set e1 fun e=>absurd e hxy)
     | false=>rw[cond_false];exact hr3 _ (hm.set e1 fun e=>absurd e hxy)
   ·unfold wff wci
    rw[cdf (by omega),wr (by omega) (by omega)]
    exact hr2 _ hm
  ·unfold wcl xz
   rw[cdf (by omega),wr (by omega) (by omega)]
   exact hr _ hm
 ·unfold wck xy
  rw[cdf (by omega)]
  exact wy2 hn hm
theorem wok {n:Nat}(hn:n≤100){ps:List (Int×(Int×Unit))}(hl:ps.length≤100000) (hp:∀p∈ps,(0≤p.1∧p.1<n)∧0≤p.2.1∧p.2.1<n):Fr n (V9 big (n:Int) ps):=by
 unfold V9 V9_s
 refine w5b (Q:=Fr n) n (fun i m=>m.length=i∧(∀r∈m,r.length=n)∧∀j,j<i→∃r,m[j]? = some r∧r[j]? = some true) (by omega) (fun rc i m hi hI hr => ?_) (fun rc m hI => ?_) 0 (by omega) _ ⟨rfl,by simp,by omega⟩
 ·obtain⟨h1,h2,h3⟩:=hI
  unfold wjm
  have hil:i<(List.replicate n false).length:=by simpa using hi
  rw[cdt (by omega),ug false n (by omega),obS,obS,cdt (by omega),jf _ i hil,obS,Int.toNat_natCast,List.getElem?_eq_getElem hil,obS,jk (by simp;omega),obS,wr (by omega) (by omega)]
  refine hr _ ⟨by simp[h1],fun r hr => ?_,fun j hj => ?_⟩
  ·rcases List.mem_append.1 hr with hr|hr
   ·exact h2 r hr
   ·rw[List.mem_singleton]at hr;rw[hr];simp
  ·by_cases e:j<i
   ·obtain⟨r,r1,r2⟩:=h3 j e
    exact⟨r,by rw[List.getElem?_append_left (by omega)];exact r1,r2⟩
   ·have e:j=i:=by omega
    subst e
    refine⟨_,by rw[List.getElem?_append_right (by omega),h1,Nat.sub_self];rfl, ?_⟩
    rw[List.getElem?_set_self hil]
 ·unfold wjm wf2
  rw[cdf (by omega)]
  refine w5c (Q:=Fr n) ps.length (fun _ m=>MX n m) (by omega) (fun rc i m hi hm hr => ?_) (fun rc m hm => ?_) 0 (by omega) _ hI
  ·unfold wjn
   obtain⟨⟨a0,a1⟩,b0,b1⟩:=hp _ (List.getElem_mem hi)
   generalize hq:ps[i]=q at a0 a1 b0 b1
   obtain⟨x,y,u⟩:=q
   simp only at a0 a1 b0 b1
   obtain⟨x,rfl⟩:∃x':Nat,x=(x':Int):=⟨x.toNat,by omega⟩
   obtain⟨y,rfl⟩:∃y':Nat,y=(y':Int):=⟨y.toNat,by omega⟩
   obtain⟨r,v,e1,e2,e3,e4,e5⟩:=hm.at (x:=x) (y:=y) (by omega) (by omega)
   have ea:atI ps (i:Int)=some ((x:Int),((y:Int),u)):=by rw[jf ps i hi,hq]
   simp only[Int.toNat_natCast,cdt (show(i:Int)<ps.length by omega),ea,e1,e2,e3,e4,obS]
   rw[wr (by omega) (by omega)]
   exact hr _ (hm.set e1 fun _=>rfl)
  ·unfold wjn wf3
   rw[cdf (by omega)]
   exact wsv hn hm
theorem w3a {l:List Int}(hl:l.length≤1000000) (n:Int):∃l',V10 big l n=some (l',())∧l'.length≤l.length+1:=by
 have done:∀i:Nat,i≤l.length→∃l',yo l n (i:Int)=some (l',())∧l'.length≤l.length+1:=by
  intro i hi
  unfold yo
  have s1:slI l 0 (i:Int)=some ((l.drop 0).take i):=by unfold slI;rw[if_pos (by omega)];simp
  have s2:slI l (i:Int) (l.length:Int)=some ((l.drop i).take (l.length-i)):=by unfold slI;rw[if_pos (by omega),show((l.length:Int)-(i:Int)).toNat=l.length-i by omega,Int.toNat_natCast]
  have tail:∃l',((slI l 0 (i:Int)).bind fun xq8=>(appI [] xq8).bind fun xq9=>(appI xq9 [n]).bind fun xq10=>(slI l (i:Int) (l.length:Int)).bind fun xq11=>(appI xq10 xq11).bind fun xq12=>some (xq12,(())))=some (l',())∧l'.length≤l.length+1:=by
   rw[s1,obS,jk (by simp;omega),obS,jk (by simp;omega),obS,s2,obS,jk (by simp;omega),obS]
   exact⟨_,rfl,by simp;omega⟩
  by_cases h:i<l.length
  ·rw[cdt (by omega),jf l i h,obS]
   by_cases c:l[i]=n
   ·rw[cdt c];exact⟨l,rfl,by omega⟩
   ·rw[cdf c];exact tail
  ·rw[cdf (by omega)];exact tail
 unfold V10 wqe
 refine w3b (Q:=fun r=>∃l',r=some (l',())∧l'.length≤l.length+1) l.length (fun _=>True) (by omega) (fun rc i hi _ hr => ?_) (fun rc _ => ?_) 0 (by omega) trivial
 ·unfold wcx
  rw[cdt (by omega),jf l i hi,obS]
  by_cases c:l[i]<n
  ·rw[cdt c,wr (by omega) (by omega)];exact hr trivial
  ·rw[cdf c];exact done i (by omega)
 ·unfold wcx
  rw[cdf (by omega)]
  exact done _ (by omega)
def Dq (m k:Nat) (r:Option (PTd×(Cu×Unit))):Prop:=∃p c',r=some (p,(c',()))∧DrP m p∧COk k c'
theorem ws0 {k:Nat}{t2:PTd}{p:PTd}{c:Cu}(hp:p.1.length≤11) (hr:∀r∈p.1,r.length≤12) (hc:COk (k+2*(12-p.1.length)+2) c):Dq 12 k (we big c t2 p):=by
 refine w09 (Q:=Dq 12 k) (fun _ p=>12-p.1.length) (fun c p=>p.1.length≤11∧(∀r∈p.1,r.length≤12)∧COk (k+2*(12-p.1.length)+2) c) (fun rc c p hI hrec => ?_) c p (by omega) ⟨hp,hr,hc⟩
 obtain⟨h1,h2,h3⟩:=hI
 unfold wjy z4
 obtain⟨v,c',e,v0,v1,hc'⟩:=wg (k:=k+2*(12-p.1.length)) h3 2
 have hv:=v1 (by omega)
 rw[e,obS]
 dsimp only
 rw[wr (by omega) (by omega)]
 by_cases c:(p.1.length:Int)<10+v
 ·rw[cdt c,jk (by simp;omega),obS]
  refine hrec _ _ ⟨by simp;omega,fun r hr => ?_, ?_⟩ (by simp;omega)
  ·rcases List.mem_append.1 hr with hr|hr
   ·exact h2 r hr
   ·rw[List.mem_singleton]at hr;rw[hr];simp
  ·simp only[List.length_append,List.length_singleton]
   exact hc'.mono (by omega)
 ·rw[cdf c]
  exact⟨_,_,rfl,⟨by omega,h2⟩,hc'.mono (by omega)⟩
theorem wfl {k n:Nat}(hn:n≤7){t2:PTd}{c:Cu}{ps:List (Int×(Int×Unit))}(hl:ps.length≤1000) (hp:∀p∈ps,(0≤p.1∧p.1<n)∧0≤p.2.1∧p.2.1<n) (hc:COk (k+40) c) :
  Dq 12 k (w8 (we big) c t2 (n:Int) ps):=by
 obtain⟨p,e,p1,p2⟩:=wok (n:=n) (by omega) (by omega) hp
 have hd:DrP 12 p:=⟨by omega,fun r hr=>by have:=p2 r hr;omega⟩
 unfold w8
 rw[e,obS]
 by_cases h0:(n:Int)=0
 ·rw[cdt h0]
  exact⟨_,_,rfl,hd,hc.mono (by omega)⟩
 ·rw[cdf h0]
  obtain⟨b,c1,e1,hc1⟩:=yn (k:=k+38) hc 16
  rw[e1,obS]
  cases b with
  | false=>exact⟨_,_,rfl,hd,hc1.mono (by omega)⟩
  | true =>
   simp only[Bool.not_true,cond_false]
   obtain⟨x,c2,e2,x0,x1,hc2⟩:=wg (k:=k+36) hc1 (n:Int)
   have hx:=x1 (by omega)
   obtain⟨v,c3,e3,_,_,hc3⟩:=wg (k:=k+34) hc2 4
   rw[e2,obS]
   dsimp only
   rw[e3,obS]
   dsimp only
   have hxl:x.toNat<p.1.length:=by omega
   have ea:atI p.1 x=some p.1[x.toNat]:=by
    have:=jf p.1 x.toNat hxl
    rwa [show((x.toNat:Nat):Int)=x by omega]at this
   have eb:p.1[x.toNat]? = some p.1[x.toNat]:=List.getElem?_eq_getElem hxl
   have hrow:=p2 _ (List.getElem_mem hxl)
   have upd:∀r:List Int,r.length≤12→DrP 12 (p.1.set x.toNat r,p.2):=fun r hr=>⟨by simp;omega,fun q hq=>by
    rcases List.mem_or_eq_of_mem_set hq with hq|rfl
    ·exact hd.2 q hq
    ·exact hr⟩
   simp only[ea,eb,obS]
   by_cases c0:v=0
   ·rw[cdt c0]
    have s1:slI p.1[x.toNat] (1:Int) (p.1[x.toNat].length:Int)=some ((p.1[x.toNat].drop 1).take (p.1[x.toNat].length-1)):=by unfold slI;rw[if_pos (by omega),show((p.1[x.toNat].length:Int)-1).toNat=p.1[x.toNat].length-1 by omega];rfl
    rw[s1,obS]
    exact⟨_,_,rfl,upd _ (by simp;omega),hc3.mono (by omega)⟩
   ·rw[cdf c0]
    by_cases c1:v=1
    ·rw[cdt c1,jk (by simp;omega),obS]
     exact⟨_,_,rfl,upd _ (by simp;omega),hc3.mono (by omega)⟩
    ·rw[cdf c1]
     by_cases c2':v=2
     ·rw[cdt c2']
      obtain⟨y,c4,e4,_,_,hc4⟩:=wg (k:=k+32) hc3 (n:Int)
      obtain⟨l',e5,hl'⟩:=w3a (l:=p.1[x.toNat]) (by omega) y
      rw[e4,obS]
      dsimp only
      rw[e5,obS]
      exact⟨_,_,rfl,upd _ (by simp only;omega),hc4.mono (by omega)⟩
     ·rw[cdf c2']
      by_cases c3':v=3
      ·rw[cdt c3']
       exact ws0 (by omega) (fun r hr=>by have:=p2 r hr;omega) (hc3.mono (by omega))
      ·rw[cdf c3']
       exact⟨_,_,rfl,hd,hc3.mono (by omega)⟩
theorem wjv {n:Nat}{names:List Int}(hl:names.length=n) (hn:∀x∈names,0≤x∧x<n){x:Int}(h0:0≤x) (h1:x<n):∃v,atI names x=some v∧names[x.toNat]? = some v∧0≤v∧v<n:=by
 have hx:x.toNat<names.length:=by omega
 refine⟨names[x.toNat], ?_,List.getElem?_eq_getElem hx,hn _ (List.getElem_mem hx)⟩
 have:=jf names x.toNat hx
 rwa [show((x.toNat:Nat):Int)=x by omega]at this
theorem wy8 {k:Nat}{c:Cu}(hc:COk (k+300) c):Dq 12 k (V11 big c):=by
 unfold V11 wqi
 obtain⟨n,c0,e,hn,hc0⟩:=zv (k:=k+298) hc (l:=[(0:Int),1,2,3,4,4,5,5,6,7]) (by simp)
 rw[e,obS]
 dsimp only
 obtain⟨n,rfl⟩:∃m:Nat,n=(m:Int):=⟨n.toNat,by simp at hn;omega⟩
 have hn7:n≤7:=by simp at hn;omega
 refine w3c (Q:=Dq 12 k) n (fun i c ps=>ps.length≤i*n∧(∀p∈ps,(0≤p.1∧p.1<n)∧0≤p.2.1∧p.2.1<n)∧COk (k+100+2*(n*(n-i))) c) (by omega) (fun rc i c ps hi hI hr => ?_) (fun rc c ps hI => ?_) 0 (by omega) _ _ ⟨by simp,by simp,hc0.mono (by have:n*(n-0)≤7*7:=Nat.mul_le_mul hn7 (by omega);omega)⟩
 ·obtain⟨h1,h2,h3⟩:=hI
  unfold z7
  rw[cdt (by omega),wr (by omega) (by omega),show(i:Int)+1=((i+1:Nat):Int) by omega]
  have hmul:n*(n-i)=n*(n-(i+1))+n:=by
   rw[show n-i=(n-(i+1))+1 by omega,Nat.mul_succ]
  have hmul2:(i+1)*n=i*n+n:=Nat.succ_mul i n
  refine w3d (Q:=Dq 12 k) n (fun j c ps=>ps.length≤i*n+j∧(∀p∈ps,(0≤p.1∧p.1<n)∧0≤p.2.1∧p.2.1<n)∧COk (k+100+2*(n*(n-(i+1)))+2*(n-j)) c) (by omega) (fun rc2 j c ps hj hJ hr2 => ?_) (fun rc2 c ps hJ => ?_) (i+1) (by omega) _ _ ⟨by omega,h2,h3.mono (by omega)⟩
  ·obtain⟨j1,j2,j3⟩:=hJ
   unfold wc0
   obtain⟨b,c',e,hc'⟩:=yn (k:=k+100+2*(n*(n-(i+1)))+2*(n-(j+1))) (j3.mono (by omega)) 3
   have hin:i*n≤7*7:=Nat.mul_le_mul (by omega) hn7
   rw[cdt (by omega),e,obS,wr (by omega) (by omega)]
   cases b with
   | true =>
    rw[cond_true,jk (by simp;omega),obS]
    refine hr2 _ _ ⟨by simp;omega,fun p hp => ?_,hc'⟩
    rcases List.mem_append.1 hp with hp|hp
    ·exact j2 p hp
    ·rw[List.mem_singleton]at hp
     rw[hp]
     exact⟨⟨by simp,by simp;omega⟩,by simp,by simp;omega⟩
   | false =>
    rw[cond_false]
    exact hr2 _ _ ⟨by omega,j2,hc'⟩
  ·obtain⟨j1,j2,j3⟩:=hJ
   unfold wc0 z5
   rw[cdf (by omega),wr (by omega) (by omega)]
   exact hr _ _ ⟨by omega,j2,j3.mono (by omega)⟩
 ·obtain⟨h1,h2,h3⟩:=hI
  have hnn:n*n≤7*7:=Nat.mul_le_mul hn7 hn7
  unfold z7 xe
  rw[cdf (by omega)]
  obtain⟨names,c1,e1,hl1,hc1⟩:=wjt (k:=k+60) (n:=n) (by omega) (h3.mono (by omega))
  obtain⟨b,e2,hb⟩:=wov (n:=n) (by omega) (l:=names) (by omega)
  rw[e1,obS]
  dsimp only
  rw[e2,obS]
  cases b with
  | false =>
   rw[cond_false]
   exact wfl hn7 (by omega) h2 (hc1.mono (by omega))
  | true =>
   obtain⟨hb1,hb2⟩:=hb rfl
   obtain⟨b,c2,e3,hc2⟩:=yn (k:=k+58) hc1 2
   rw[cond_true,e3,obS]
   cases b with
   | false =>
    rw[cond_false]
    exact wfl hn7 (by omega) h2 (hc2.mono (by omega))
   | true =>
    rw[cond_true]
    refine w08 (Q:=Dq 12 k) ps.length (fun _ qs=>qs.length=ps.length∧∀p∈qs,(0≤p.1∧p.1<n)∧0≤p.2.1∧p.2.1<n) (by omega) (fun rc2 i qs hi hI hr => ?_) (fun rc2 qs hI => ?_) 0 (by omega) _ ⟨rfl,h2⟩
    ·obtain⟨i1,i2⟩:=hI
     have hil:i<qs.length:=by omega
     obtain⟨⟨a0,a1⟩,b0,b1⟩:=i2 _ (List.getElem_mem hil)
     obtain⟨x,x1,x2,x3,x4⟩:=wjv hb1 hb2 a0 a1
     obtain⟨y,y1,y2,y3,y4⟩:=wjv hb1 hb2 b0 b1
     unfold z6
     simp only[Int.toNat_natCast,cdt (show(i:Int)<qs.length by omega),jf qs i hil,List.getElem?_eq_getElem hil,x1,x2,y1,y2,obS]
     rw[wr (by omega) (by omega)]
     refine hr _ ⟨by simpa using i1,fun p hp => ?_⟩
     rcases List.mem_or_eq_of_mem_set hp with hp|rfl
     ·exact i2 p hp
     ·exact⟨⟨x3,x4⟩,y3,y4⟩
    ·obtain⟨i1,i2⟩:=hI
     unfold z6
     rw[cdf (by omega)]
     exact wfl hn7 (by omega) i2 (hc2.mono (by omega))
def okKnown (k:Nat):Bool:=match V13 (k:Int) with
 | some (p,())=>decide (p.1.length≤9)&&p.1.all (fun r=>decide (r.length≤9))&&(match V18 big p with
  | some (ps,())=>decide (ps.length≤100)&&ps.all fun q=>decide (0≤q.1)&&decide (q.1<(p.1.length:Int))&&decide (0≤q.2.1)&&decide (q.2.1<(p.1.length:Int))
  | none=>false)
 | none=>false
theorem wo5:(List.range 12).all okKnown=true:=by kernel_rfl
theorem wy5 {k:Int}(h0:0≤k) (h1:k<12):∃p ps,V13 k=some (p,())∧DrP 9 p∧V18 big p=some (ps,())∧ps.length≤100∧∀q∈ps,(0≤q.1∧q.1<p.1.length)∧0≤q.2.1∧q.2.1<p.1.length:=by
 have h:=List.all_eq_true.1 wo5 k.toNat (List.mem_range.2 (by omega))
 unfold okKnown at h
 rw[show((k.toNat:Nat):Int)=k by omega]at h
 split at h
 case h_2=>cases h
 rename_i p e
 simp only[Bool.and_eq_true,decide_eq_true_eq,List.all_eq_true]at h
 obtain⟨⟨h1,h2⟩,h3⟩:=h
 split at h3
 case h_2=>cases h3
 rename_i ps e2
 simp only[Bool.and_eq_true,decide_eq_true_eq,List.all_eq_true]at h3
 exact⟨p,ps,e,⟨h1,h2⟩,e2,h3.1,fun q hq=>by
  obtain⟨⟨⟨a,b⟩,c⟩,d⟩:=h3.2 q hq
  exact⟨⟨a,b⟩,c,d⟩⟩
theorem wo3 {k:Nat}{c:Cu}(hc:COk (k+400) c):Dq 12 k (V19 big c):=by
 unfold V19 wqp
 obtain⟨b,c1,e1,hc1⟩:=yn (k:=k+398) hc 10
 rw[e1,obS]
 cases b with
 | true =>
  rw[cond_true]
  obtain⟨p,c2,e2,hp,hc2⟩:=wy8 (k:=k+98) hc1
  rw[e2,obS]
  exact⟨_,_,rfl,hp,hc2.mono (by omega)⟩
 | false =>
  rw[cond_false]
  obtain⟨v,c2,e2,v0,v1,hc2⟩:=wg (k:=k+396) hc1 12
  obtain⟨p,ps,e3,hp,e4,hl,hps⟩:=wy5 v0 (v1 (by omega))
  have hp':DrP 12 p:=⟨by have:=hp.1;omega,fun r hr=>by have:=hp.2 r hr;omega⟩
  have hn:=hp.1
  obtain⟨names,c3,e5,hl1,hc3⟩:=wjt (k:=k+300) (n:=p.1.length) (by omega) (hc2.mono (by omega))
  obtain⟨b,e6,hb⟩:=wov (n:=p.1.length) (by omega) (l:=names) (by omega)
  rw[e2,obS]
  dsimp only
  rw[e3,obS]
  dsimp only
  rw[e5,obS]
  dsimp only
  rw[e6,obS]
  cases b with
  | false=>exact⟨_,_,rfl,hp',hc3.mono (by omega)⟩
  | true =>
   obtain⟨hb1,hb2⟩:=hb rfl
   obtain⟨b,c4,e7,hc4⟩:=yn (k:=k+298) hc3 2
   rw[cond_true,e7,obS]
   cases b with
   | false=>exact⟨_,_,rfl,hp',hc4.mono (by omega)⟩
   | true =>
    rw[cond_true,e4,obS]
    refine w3h (Q:=Dq 12 k) ps.length (fun _ qs=>qs.length=ps.length∧∀q∈qs,(0≤q.1∧q.1<p.1.length)∧0≤q.2.1∧q.2.1<p.1.length) (by omega) (fun rc2 i qs hi hI hr => ?_) (fun rc2 qs hI => ?_) 0 (by omega) _ ⟨rfl,hps⟩
    ·obtain⟨i1,i2⟩:=hI
     have hil:i<qs.length:=by omega
     obtain⟨⟨a0,a1⟩,b0,b1⟩:=i2 _ (List.getElem_mem hil)
     obtain⟨x,x1,x2,x3,x4⟩:=wjv hb1 hb2 a0 a1
     obtain⟨y,y1,y2,y3,y4⟩:=wjv hb1 hb2 b0 b1
     unfold wc7
     simp only[Int.toNat_natCast,cdt (show(i:Int)<qs.length by omega),jf qs i hil,List.getElem?_eq_getElem hil,x1,x2,y1,y2,obS]
     rw[wr (by omega) (by omega)]
     refine hr _ ⟨by simpa using i1,fun q hq => ?_⟩
     rcases List.mem_or_eq_of_mem_set hq with hq|rfl
     ·exact i2 q hq
     ·exact⟨⟨x3,x4⟩,y3,y4⟩
    ·obtain⟨i1,i2⟩:=hI
     unfold wc7 wae
     obtain⟨p',e8,p1,p2⟩:=wok (n:=p.1.length) (by omega) (by omega) i2
     rw[cdf (by omega),e8,obS]
     exact⟨_,_,rfl,⟨by show p'.1.length≤12;omega,fun r hr=>by have:=p2 r hr;omega⟩,hc4.mono (by omega)⟩
theorem wgd {k:Nat}{c:Cu}(hc:COk (k+4) c){p:PTd}(hp:p.1.length≤1000):∃v c',V20 c p=some (v,(c',())) ∧ -1≤v∧v≤p.1.length∧COk k c':=by
 unfold V20 wz0
 by_cases h:(p.1.length:Int)=0
 ·obtain⟨v,c1,e,hv,hc1⟩:=zv (k:=k+2) hc (l:=[(-1:Int),(p.1.length:Int)]) (by simp)
  rw[cdt h,e,obS]
  refine⟨_,_,rfl, ?_, ?_,hc1.mono (by omega)⟩<;>(simp at hv;simp only;omega)
 ·obtain⟨b,c1,e,hc1⟩:=yn (k:=k+2) hc 24
  rw[cdf h,e,obS]
  cases b with
  | true =>
   obtain⟨v,c2,e,hv,hc2⟩:=zv (k:=k) hc1 (l:=[(-1:Int),(p.1.length:Int)]) (by simp)
   rw[cond_true,e,obS]
   refine⟨_,_,rfl, ?_, ?_,hc2⟩<;>(simp at hv;simp only;omega)
  | false =>
   obtain⟨v,c2,e,v0,v1,hc2⟩:=wg (k:=k) hc1 (p.1.length:Int)
   have:=v1 (by omega)
   rw[cond_false,e,obS]
   exact⟨_,_,rfl,by simp only;omega,by simp only;omega,hc2⟩
theorem wzm {code:List Int}(hw:Wf (.pair (.sl (.int .u8)) .unit) (code,())) (h:code.length≤65536):Codes code:=by
 refine⟨h,fun x hx => ?_⟩
 have:=hw.1.2 x hx
 have h2:(Lit.int .u8 x).wf=true:=this
 simp only[Lit.wf,Bool.and_eq_true,decide_eq_true_eq]at h2
 have e1:IntKind.u8.min=0:=rfl
 have e2:IntKind.u8.max=255:=rfl
 rw[e1,e2]at h2
 exact h2
theorem wjp {n:Nat}{le:Nat→Nat→Bool}(h10:n≤10) (ho:Ord n le){x y:Nat}(hx:x<n) (hy:y<n):V57 (pos n le) (x:Int) (y:Int)=some ((le x y,true,()),()):=by
 unfold V57 w0b
 have hh:([(x:Int),(y:Int)]).all (inB n)=true:=by simp[inB];omega
 rw[zw h10 ho,obS]
 dsimp only
 rw[Bool.not_true,cond_false,zp _ (by simp),obS,hh]
 simp only[Bool.not_true,cond_false,jd hx,Int.toNat_natCast,jr hx,obS,jd hy,jr hy]
def Wd.dual:Wd→Wd
 | .v n => .v n
 | .op g a b => .op (-3-g) a.dual b.dual
theorem cmp_mem {n:Nat}{le:Nat→Nat→Bool}{x y:Nat}:y∈comp n le x↔y<n∧mt n le y x=bt n le∧mt n (du le) y x=tp n le:=by
 unfold comp rel
 rw[fl_mem,Bool.and_eq_true,decide_eq_true_eq,decide_eq_true_eq]
theorem w5h {n:Nat}{le:Nat→Nat→Bool}(h:LatP n le){x:Nat}(hx:x<n) (e:le x (bt n le)=true):x=bt n le:=h.as hx (wjq h) e (w5f h hx)
theorem w5i {n:Nat}{le:Nat→Nat→Bool}(h:LatP n le){x:Nat}(hx:x<n) (e:le (tp n le) x=true):x=tp n le:=h.as hx (wlj h) (wli h hx) e
theorem cenA {n:Nat}{le:Nat→Nat→Bool}(h:LatP n le){x y w:Nat}(hx:x<n) (hy:y<n) (hw:w<n) (hc:Cen n le x y){u:Nat}(hu:u<n) (h1:le (mt n le w x) u=true) (h2:le (mt n le w y) u=true):le w u=true:=by
 have:=(hc w hw).1
 rw[←this]
 exact jg h (h.mlt hw hx) (h.mlt hw hy) hu h1 h2
theorem cenBm {n:Nat}{le:Nat→Nat→Bool}(h:LatP n le){x y w:Nat}(hx:x<n) (hy:y<n) (hw:w<n) (hc:Cen n le x y){u:Nat}(hu:u<n) (h1:le u (mt n (du le) w x)=true) (h2:le u (mt n (du le) w y)=true):le u w=true:=by
 have:=(hc w hw).2
 rw[←this]
 exact h.mg (jlt h hw hx) (jlt h hw hy) hu h1 h2
theorem w41 {n:Nat}{le:Nat→Nat→Bool}(h:LatP n le){x y:Nat}(hx:x<n) (hy:y<n) (hA:∀w u,w<n→u<n→le (mt n le w x) u=true→le (mt n le w y) u=true→le w u=true)
  (hB:∀w u,w<n→u<n→le u (mt n (du le) w x)=true→le u (mt n (du le) w y)=true→le u w=true):Cen n le x y:=fun z hz=>by
 have a1:=h.mlt hz hx
 have a2:=h.mlt hz hy
 have b1:=jlt h hz hx
 have b2:=jlt h hz hy
 exact⟨h.as (jlt h a1 a2) hz (jg h a1 a2 hz (h.m1 hz hx) (h.m1 hz hy)) (hA z _ hz (jlt h a1 a2) (j1 h a1 a2) (j2 h a1 a2)),
  h.as (h.mlt b1 b2) hz (hB z _ hz (h.mlt b1 b2) (h.m1 b1 b2) (h.m2 b1 b2)) (h.mg b1 b2 hz (j1 h hz hx) (j1 h hz hy))⟩
theorem Cen.dual {n:Nat}{le:Nat→Nat→Bool}{x y:Nat}(hc:Cen n le x y):Cen n (du le) x y:=fun z hz=>⟨(hc z hz).2,(hc z hz).1⟩
theorem comp_dual {n:Nat}{le:Nat→Nat→Bool}{x y:Nat}:y∈comp n (du le) x↔y∈comp n le x:=by
 rw[cmp_mem,cmp_mem]
 exact⟨fun⟨a,b,c⟩=>⟨a,c,b⟩,fun⟨a,b,c⟩=>⟨a,c,b⟩⟩
structure CP (n:Nat) (le:Nat→Nat→Bool) (x y:Nat):Prop where
 lx:x<n
 c:y∈comp n le x
 z:Cen n le x y
theorem CP.ly {n:Nat}{le:Nat→Nat→Bool}{x y:Nat}(p:CP n le x y):y<n:=(cmp_mem.1 p.c).1
theorem CP.dual {n:Nat}{le:Nat→Nat→Bool}{x y:Nat}(p:CP n le x y):CP n (du le) x y:=⟨p.lx,comp_dual.2 p.c,p.z.dual⟩
theorem CP.meet {n:Nat}{le:Nat→Nat→Bool}(h:LatP n le){x x' a a':Nat}(p:CP n le x x') (q:CP n le a a'):CP n le (mt n le x a) (mt n (du le) x' a'):=by
 have hx:=p.lx
 have hx':=p.ly
 have ha:=q.lx
 have ha':=q.ly
 have lm:=h.mlt hx ha
 have lj:=jlt h hx' ha'
 obtain⟨_,px1,px2⟩:=cmp_mem.1 p.c
 obtain⟨_,qa1,qa2⟩:=cmp_mem.1 q.c
 refine⟨lm,cmp_mem.2 ⟨lj, ?_, ?_⟩,w41 h lm lj ?_ ?_⟩
 ·have k:=h.mlt lj lm
  refine w5h h k ?_
  have k1:=h.m1 lj lm
  have k2:=h.tr k lm hx (h.m2 lj lm) (h.m1 hx ha)
  have k3:=h.tr k lm ha (h.m2 lj lm) (h.m2 hx ha)
  have k4:=cenBm h ha ha' hx' q.z k (h.tr k ha (jlt h hx' ha) k3 (j2 h hx' ha)) k1
  rw[←px1]
  exact h.mg hx' hx k k4 k2
 ·have k:=jlt h lj lm
  refine w5i h k ?_
  rw[←px2]
  refine jg h hx' hx k (h.tr hx' lj k (j1 h hx' ha') (j1 h lj lm)) ?_
  refine cenA h ha ha' hx q.z k (j2 h lj lm) ?_
  exact h.tr (h.mlt hx ha') ha' k (h.m2 hx ha') (h.tr ha' lj k (j2 h hx' ha') (j1 h lj lm))
 ·intro w u hw hu e1 e2
  have wx:=h.mlt hw hx
  have wj:=h.mlt hw lj
  refine cenA h hx hx' hw p.z hu (cenA h ha ha' wx q.z hu ?_ ?_) ?_
  ·have k:=h.mlt wx ha
   have k1:=h.tr k wx hw (h.m1 wx ha) (h.m1 hw hx)
   have k2:=h.tr k wx hx (h.m1 wx ha) (h.m2 hw hx)
   exact h.tr k (h.mlt hw lm) hu (h.mg hw lm k k1 (h.mg hx ha k k2 (h.m2 wx ha))) e1
  ·have k:=h.mlt wx ha'
   have k1:=h.tr k wx hw (h.m1 wx ha') (h.m1 hw hx)
   exact h.tr k wj hu (h.mg hw lj k k1 (h.tr k ha' lj (h.m2 wx ha') (j2 h hx' ha'))) e2
  ·have k:=h.mlt hw hx'
   exact h.tr k wj hu (h.mg hw lj k (h.m1 hw hx') (h.tr k hx' lj (h.m2 hw hx') (j1 h hx' ha'))) e2
 ·intro w u hw hu e1 e2
  have uz:=h.mlt hu hx
  have uz':=h.mlt hu hx'
  have wm:=jlt h hw lm
  have wj:=jlt h hw lj
  refine cenA h hx hx' hu p.z hw (cenA h ha ha' uz q.z hw ?_ ?_) ?_
  ·have k:=h.mlt uz ha
   have k0:=h.tr k uz hu (h.m1 uz ha) (h.m1 hu hx)
   have k1:=h.tr k uz hx (h.m1 uz ha) (h.m2 hu hx)
   have k2:=h.m2 uz ha
   have wx':=jlt h hw hx'
   have k3:le (mt n le (mt n le u x) a) (mt n (du le) w x')=true:=by
    refine cenBm h ha ha' wx' q.z k (h.tr k ha (jlt h wx' ha) k2 (j2 h wx' ha)) ?_
    have t:=jlt h wx' ha'
    refine h.tr k wj t (h.tr k hu wj k0 e2) (jg h hw lj t (h.tr hw wx' t (j1 h hw hx') (j1 h wx' ha')) (jg h hx' ha' t (h.tr hx' wx' t (j2 h hw hx') (j1 h wx' ha')) (j2 h wx' ha')))
   exact cenBm h hx hx' hw p.z k (h.tr k hx (jlt h hw hx) k1 (j2 h hw hx)) k3
  ·have k:=h.mlt uz ha'
   have k0:=h.tr k uz hu (h.m1 uz ha') (h.m1 hu hx)
   have wa:=jlt h hw ha
   exact cenBm h ha ha' hw q.z k (h.tr k wm wa (h.tr k hu wm k0 e1) (jg h hw lm wa (j1 h hw ha) (h.tr lm ha wa (h.m2 hx ha) (j2 h hw ha)))) (h.tr k ha' (jlt h hw ha') (h.m2 uz ha') (j2 h hw ha'))
  ·have wx:=jlt h hw hx
   exact cenBm h hx hx' hw p.z uz' (h.tr uz' wm wx (h.tr uz' hu wm (h.m1 hu hx') e1) (jg h hw lm wx (j1 h hw hx) (h.tr lm hx wx (h.m1 hx ha) (j2 h hw hx)))) (h.tr uz' hx' (jlt h hw hx') (h.m2 hu hx') (j2 h hw hx'))
theorem CP.join {n:Nat}{le:Nat→Nat→Bool}(h:LatP n le){x x' a a':Nat}(p:CP n le x x') (q:CP n le a a'):CP n le (mt n (du le) x a) (mt n le x' a') :=
 (CP.meet h.du p.dual q.dual).dual
theorem yb (a:List Int) (h:a.length≤400000000000):V51 big a a=some (true,()):=by
 unfold V51 wrm
 rw[cdf (by omega)]
 refine w34 a.length (fun i=>True) (by omega) (fun rc i hi hI hr => ?_) (fun rc hI => ?_) 0 (by omega) trivial
 ·unfold wd9
  rw[cdt (by omega),jf a i hi,obS,obS,cdf (by omega),wr1 (by omega)]
  exact hr trivial
 ·unfold wd9 wbl
  rw[cdf (by omega)]
theorem wf8 {n:Nat}{le:Nat→Nat→Bool}(h:LatP n le) (h1:V45 big (pos n le)=some (true,())) (x y:Int):V47 (pos n le) x y=some (inB n x&&inB n y,()):=by
 unfold V47 wrk
 rw[h1,obS]
 dsimp only
 rw[cond_true,wkq,obS]
 cases inB n x with
 | false=>rfl
 | true=>rw[cond_true,wkq,obS];rfl
theorem w45 {p:PT}(h1:V45 big p=some (false,())) (x y:Int):V47 p x y=some (false,()):=by
 unfold V47 wrk
 rw[h1,obS];rfl
theorem woi {code:List Int}(hc:Codes code):∃p c,V19 big (code,((0:Int),((0:Int),())))=some (p,(c,()))∧DrP 12 p∧COk 9600 c:=wo3 (k:=9600) hc.start
theorem DrP.rows12 {p:PT}(h:DrP 12 p):∀r∈p.1,r.length≤4294967296:=fun r hr=>by have:=h.2 r hr;omega
theorem wss {S L:List Nat}(h:∀s∈S,s<L.length) (hS:S.length≤1048576):V38 big (cs S) (cs L)=some (cs (S.map fun s=>L.getD s 0),()):=by
 unfold V38 wq7
 rw[cs_len,jak (by omega),obS,obS,cdt (by omega)]
 refine w3u S.length (fun i l=>l=mkR S.length fun j=>if j<i then((L.getD (S.getD j 0) 0:Nat):Int) else 0) (by omega) ?_ ?_ 0 (by omega) _ (jo fun x _=>by rw[if_neg (by omega)])
 ·rintro rc i l hi rfl ih
  have hs:=h _ (List.getElem_mem hi)
  unfold wdr
  rw[cdt (by omega),jn hi,obS,jn hs,obS,jd hi,obS,Int.toNat_natCast,jr hi,obS,wr1 (by omega)]
  refine ih _ ?_
  rw[qw]
  refine jo fun x hx => ?_
  by_cases c:x=i
  ·subst c
   rw[if_pos rfl,if_pos (by omega),wgi hi,wgi hs]
  ·rw[if_neg c]
   by_cases d:x<i
   ·rw[if_pos d,if_pos (by omega)]
   ·rw[if_neg d,if_neg (by omega)]
 ·rintro rc l rfl
  unfold wdr
  rw[cdf (by omega),wa2]
  congr 2
  refine(jb6 (by rw[cs_len,List.length_map]) fun i hi => ?_).symm
  have hi':i<S.length:=by rw[cs_len,List.length_map]at hi;exact hi
  rw[if_pos hi',wgi hi']
  simp[cs]
noncomputable def hv (n:Nat) (H:Nat→Bool) (E:Nat→Prop):List Bool:=mkR n fun z=>H z||tv (E z)
theorem wkn {α β:Type}{f:α→β}:∀{l:List α},(∀a∈l,∀b∈l,f a=f b→a=b)→l.Nodup→(l.map f).Nodup
 | [],_,_=>List.nodup_nil
 | a::l,hf,h=>by
  obtain⟨h1,h2⟩:=List.nodup_cons.1 h
  rw[List.map_cons,List.nodup_cons]
  refine⟨fun q => ?_,wkn (fun x hx y hy=>hf x (List.mem_cons_of_mem _ hx) y (List.mem_cons_of_mem _ hy)) h2⟩
  obtain⟨b,hb,e⟩:=List.mem_map.1 q
  exact h1 (hf b (List.mem_cons_of_mem _ hb) a (by simp) e▸hb)
def Bnt (n:Nat) (le:Nat→Nat→Bool) (x y z:Nat):Prop:=le x z=true∧mt n (du le) x (mt n le y z)≠mt n le (mt n (du le) x y) z
def Mod (n:Nat) (le:Nat→Nat→Bool):Prop:=∀x y z,x<n→y<n→z<n→¬Bnt n le x y z
def Fst3 (n:Nat) (B:Nat→Nat→Nat→Prop) (x y z:Nat):Prop:=(x<n∧y<n∧z<n∧B x y z)∧∀x' y' z',x'<n→y'<n→z'<n→B x' y' z'→x<x'∨x=x'∧(y<y'∨y=y'∧z≤z')
theorem w27 {n:Nat}{B:Nat→Nat→Nat→Prop}{i j k:Nat}(hi:i<n) (hj:j<n) (hk:k<n) (hB:B i j k) (h1:∀x,x<i→∀y,y<n→∀z,z<n→¬B x y z) (h2:∀y,y<j→∀z,z<n→¬B i y z) (h3:∀z,z<k→¬B i j z):Fst3 n B i j k:=by
 refine⟨⟨hi,hj,hk,hB⟩,fun x' y' z' hx hy hz hb => ?_⟩
 by_cases a:x'<i
 ·exact absurd hb (h1 x' a y' hy z' hz)
 ·by_cases b:x'=i
  ·subst b
   by_cases c:y'<j
   ·exact absurd hb (h2 y' c z' hz)
   ·by_cases d:y'=j
    ·subst d
     by_cases e:z'<k
     ·exact absurd hb (h3 z' e)
     ·omega
    ·omega
  ·omega
def BentR (n:Nat) (le:Nat→Nat→Bool) (U:Option (List Int)):Prop:=U=none∧Mod n le∨∃x y z:Nat,U=some [(x:Int),(y:Int),(z:Int)]∧Fst3 n (Bnt n le) x y z
theorem w25 {n:Nat}{le:Nat→Nat→Bool}(h:LatP n le):∃U,V54 big (some (lat n le))=some (U,())∧BentR n le U:=by
 have h10:=h.le10
 unfold V54 wrp
 rw[obS,lat1,mkR_len]
 refine w36 (Q:=fun o=>∃U,o=some (U,())∧BentR n le U) n (fun i=>∀x,x<i→∀y,y<n→∀z,z<n→¬Bnt n le x y z) (by omega) ?_ ?_ 0 (by omega) (by intro x hx;omega)
 ·intro rc i hi hv ih
  unfold wbq
  rw[cdt (by omega),obS,lat1,mkR_len]
  refine w37 (Q:=fun o=>∃U,o=some (U,())∧BentR n le U) n (fun j=>∀y,y<j→∀z,z<n→¬Bnt n le i y z) (by omega) ?_ ?_ 0 (by omega) (by intro x hx;omega)
  ·intro rc2 j hj hv2 ih2
   unfold wbr
   rw[cdt (by omega),obS,lat1,mkR_len]
   refine w38 (Q:=fun o=>∃U,o=some (U,())∧BentR n le U) n (fun k=>∀z,z<k→¬Bnt n le i j z) (by omega) ?_ ?_ 0 (by omega) (by intro x hx;omega)
   ·intro rc3 k hk hv3 ih3
    unfold wef
    simp only[cdt (show(k:Int)<(n:Int) by omega),obS,lat1,lat2,lat3,jd hi,jd hj,jd hk,jd (jlt h hi hj),jd (h.mlt hj hk),wr1 (show k≤4611686018427387904 by omega)]
    cases hl:le i k with
    | false=>exact ih3 (all_lt_succ.2 ⟨hv3,fun b=>absurd b.1 (by simp[hl])⟩)
    | true =>
     rw[cond_true]
     by_cases e:mt n (du le) i (mt n le j k)=mt n le (mt n (du le) i j) k
     ·rw[cdf (by rw[wd (le:=le) k];omega)]
      exact ih3 (all_lt_succ.2 ⟨hv3,fun b=>b.2 e⟩)
     ·rw[cdt (by rw[wd (le:=le) k];omega)]
      exact⟨_,rfl,.inr ⟨i,j,k,rfl,w27 hi hj hk ⟨hl,e⟩ hv hv2 hv3⟩⟩
   ·intro rc3 hv3
    unfold wef
    rw[cdf (by omega),wbp,wr1 (by omega)]
    exact ih2 (all_lt_succ.2 ⟨hv2,hv3⟩)
  ·intro rc2 hv2
   unfold wbr
   rw[cdf (by omega),xp,wr1 (by omega)]
   exact ih (all_lt_succ.2 ⟨hv,hv2⟩)
 ·intro rc hv
  unfold wbq
  rw[cdf (by omega),xo]
  exact⟨none,rfl,.inl ⟨rfl,fun x y z hx hy hz=>hv x hx y hy z hz⟩⟩
theorem wsr {n:Nat}{le:Nat→Nat→Bool}{U:Option (List Int)}(h:BentR n le U):U.isNone=tv (Mod n le):=by
 rcases h with⟨rfl,hm⟩|⟨x,y,z,rfl,hf⟩
 ·rw[tv_t hm];rfl
 ·rw[tv_f fun hm=>hm x y z hf.1.1 hf.1.2.1 hf.1.2.2.1 hf.1.2.2.2];rfl
theorem wcu {n:Nat}{le:Nat→Nat→Bool}(h:LatP n le):V55 (pos n le)=some ((tv (Mod n le),true,()),()):=by
 obtain⟨U,e,hU⟩:=w25 h
 unfold V55 wrq
 rw[wc h,obS]
 dsimp only
 rw[cond_true,e,obS]
 dsimp only
 rw[wsr hU]
theorem wkm {p:PT}{l:Option (List (List Bool)×List (List Int)×List (List Int)×Unit)}(h2:V33 p=some ((l,false,()),())):V55 p=some ((false,false,()),()):=by
 unfold V55 wrq
 rw[h2];rfl
structure GLat {α:Type}(le:α→α→Prop) (m j:α→α→α):Prop where
 rf:∀a,le a a
 tr:∀{a b c},le a b→le b c→le a c
 asy:∀{a b},le a b→le b a→a=b
 m1:∀a b,le (m a b) a
 m2:∀a b,le (m a b) b
 mg:∀{a b c},le c a→le c b→le c (m a b)
 j1:∀a b,le a (j a b)
 j2:∀a b,le b (j a b)
 jg:∀{a b c},le a c→le b c→le (j a b) c
def GMod {α:Type}(le:α→α→Prop) (m j:α→α→α):Prop:=∀x y z,le x z→j x (m y z)=m (j x y) z
theorem GLat.op {α:Type}{le:α→α→Prop}{m j:α→α→α}(H:GLat le m j):GLat (fun a b=>le b a) j m:=⟨H.rf,fun a b=>H.tr b a,fun a b=>H.asy b a,H.j1,H.j2,H.jg,H.m1,H.m2,H.mg⟩
theorem GLat.mc {α:Type}{le:α→α→Prop}{m j:α→α→α}(H:GLat le m j) (a b:α):m a b=m b a:=H.asy (H.mg (H.m2 a b) (H.m1 a b)) (H.mg (H.m2 b a) (H.m1 b a))
theorem GLat.jc {α:Type}{le:α→α→Prop}{m j:α→α→α}(H:GLat le m j) (a b:α):j a b=j b a:=H.op.mc a b
theorem GMod.op {α:Type}{le:α→α→Prop}{m j:α→α→α}(H:GLat le m j) (M:GMod le m j):GMod (fun a b=>le b a) j m:=fun x y z h=>by
 have:=M z y x h
 rw[H.mc x (j y z),H.jc y z,←this,H.jc,H.mc y x]
def Bst (Q:List Int→Prop) (b:List Int):Prop:=b=[]∧(∀l,¬Q l)∨Q b∧∀l,Q l→lx l b=false
theorem Bst.congr {Q R:List Int→Prop}{b:List Int}(h:Bst Q b) (e:∀l,Q l↔R l):Bst R b:=by
 have:Q=R:=funext fun l=>propext (e l)
 rw[←this];exact h
def SetL (n:Nat) (l:List Int):Prop:=∃P,l=cs (fl n P)
theorem SetL.len {n:Nat}{l:List Int}(h:SetL n l):l.length≤n:=by obtain⟨P,rfl⟩:=h;rw[cs_len];exact jh n P
theorem covDu {n:Nat}{le:Nat→Nat→Bool}{x y:Nat}:cov n (du le) x y=cov n le y x:=by
 have e:∀a b,ls (du le) a b=ls le b a:=fun a b=>by
  unfold ls
  show(decide (a≠b)&&le b a)=(decide (b≠a)&&le b a)
  rw[decide_eq_decide.2 (show a≠b↔b≠a from ne_comm)]
 unfold cov
 simp only[e]
 congr 2
 funext z
 rw[Bool.and_comm]
theorem covIff {n:Nat}{le:Nat→Nat→Bool}{x y:Nat}:cov n le x y=true↔(x≠y∧le x y=true)∧∀z,z<n→x≠z→le x z=true→z≠y→le z y=true→False:=by
 have hl:∀a b,ls le a b=true↔a≠b∧le a b=true:=fun a b=>by unfold ls;simp
 constructor
 ·intro h
  refine⟨(hl _ _).1 (wof h),fun z hz h1 h2 h3 h4 => ?_⟩
  rw[wst hz ((hl _ _).2 ⟨h1,h2⟩) ((hl _ _).2 ⟨h3,h4⟩)]at h
  cases h
 ·exact fun h=>wlh ((hl _ _).2 h.1) fun z hz hh=>h.2 z hz ((hl _ _).1 hh.1).1 ((hl _ _).1 hh.1).2 ((hl _ _).1 hh.2).1 ((hl _ _).1 hh.2).2
theorem wyz {n:Nat}{le:Nat→Nat→Bool}(h:LatP n le):∀(k:Nat){z x:Nat},z<n→x<n→ls le z x=true→(fl n fun w=>ls le z w&&ls le w x).length≤k→∃y,y<n∧cov n le z y=true∧le y x=true
 | k,z,x,hz,hx,hl,hk=>by
  by_cases hc:cov n le z x=true
  ·exact⟨x,hx,hc,h.ord.refl x hx⟩
  ·obtain⟨w,hw,h1,h2⟩:∃w,w<n∧ls le z w=true∧ls le w x=true:=Classical.byContradiction fun hn=>hc (wlh hl fun w hw hh=>hn ⟨w,hw,hh.1,hh.2⟩)
   have hlt:(fl n fun v=>ls le z v&&ls le v w).length<(fl n fun v=>ls le z v&&ls le v x).length:=by
    refine wsu (fun v hv e => ?_) hw (by simp[h1,h2]) (by rw[wot,Bool.and_false])
    simp only[Bool.and_eq_true]at e ⊢
    exact⟨e.1,w04 h hv hw hx e.2 h2⟩
   match k,hk with
   | 0,hk=>omega
   | k+1,hk =>
    obtain⟨y,hy,hcy,hyw⟩:=wyz h k hz hw h1 (by omega)
    refine⟨y,hy,hcy,h.tr hy hw hx hyw ?_⟩
    unfold ls at h2
    simp only[Bool.and_eq_true]at h2
    exact h2.2
theorem wog {n:Nat}{le:Nat→Nat→Bool}(h:LatP n le){z x:Nat}(hz:z<n) (hx:x<n) (hne:z≠x) (hle:le z x=true):∃y,y<n∧cov n le z y=true∧le y x=true :=
 wyz h _ hz hx (by unfold ls;simp[hne,hle]) (Nat.le_refl _)
def UpS (n:Nat) (le:Nat→Nat→Bool):Prop:=∀x y,x<n→y<n→cov n le (mt n le x y) x=true→cov n le y (mt n (du le) x y)=true
def Grd (n:Nat) (le:Nat→Nat→Bool) (r:Nat→Int):Prop:=∀x y,x<n→y<n→cov n le x y=true→r y=r x+1
def Pth (n:Nat) (le:Nat→Nat→Bool) (t:Nat):Nat→Nat→Prop
 | 0,x=>x=t
 | k+1,x=>∃y,y<n∧cov n le x y=true∧Pth n le t k y
theorem woy {n:Nat}{le:Nat→Nat→Bool}(h:LatP n le):∀(k x:Nat),x<n→abN n le x≤k→∃m,Pth n le (tp n le) m x
 | k,x,hx,hk=>by
  by_cases e:x=tp n le
  ·exact⟨0,e⟩
  ·obtain⟨y,hy,hc,_⟩:=wog h hx (wlj h) e (wli h hx)
   have:=wfj h hx hy hc
   match k,hk with
   | 0,hk=>omega
   | k+1,hk =>
    obtain⟨m,hm⟩:=woy h k y hy (by omega)
    exact⟨m+1,y,hy,hc,hm⟩
theorem wi {n:Nat}{le:Nat→Nat→Bool}{x y:Nat}(h:cov n le x y=true):x≠y∧le x y=true:=(covIff.1 h).1
theorem wf6 {n:Nat}{le:Nat→Nat→Bool}{x y z:Nat}(h:cov n le x y=true) (hz:z<n) (h1:le x z=true) (h2:le z y=true):z=x∨z=y:=by
 by_cases a:x=z
 ·exact .inl a.symm
 ·by_cases b:z=y
  ·exact .inr b
  ·exact((covIff.1 h).2 z hz a h1 b h2).elim
theorem wf7 {n:Nat}{le:Nat→Nat→Bool}(h:LatP n le) (hu:UpS n le):∀(k x:Nat),x<n→Pth n le (tp n le) k x→∀m,Pth n le (tp n le) m x→m=k
 | 0,x,hx,e,m,hm=>by
  match m,hm with
  | 0,_=>rfl
  | m+1,hm =>
   obtain⟨y,hy,hc,_⟩:=hm
   have e:x=tp n le:=e
   subst e
   exact absurd (h.as (wlj h) hy (wi hc).2 (wli h hy)) (wi hc).1
 | k+1,x,hx,hk,m,hm=>by
  obtain⟨y,hy,hcy,hpy⟩:=hk
  match m,hm with
  | 0,hm =>
   have e:x=tp n le:=hm
   subst e
   exact absurd (h.as (wlj h) hy (wi hcy).2 (wli h hy)) (wi hcy).1
  | m+1,hm =>
   obtain⟨z,hz,hcz,hpz⟩:=hm
   by_cases e:y=z
   ·subst e;rw[wf7 h hu k y hy hpy m hpz]
   ·have hm1:=h.mlt hy hz
    have hxm:le x (mt n le y z)=true:=h.mg hy hz hx (wi hcy).2 (wi hcz).2
    have hmx:mt n le y z=x:=by
     rcases wf6 hcy hm1 hxm (h.m1 hy hz) with q|q
     ·exact q
     ·rcases wf6 hcz hm1 hxm (h.m2 hy hz) with q2|q2
      ·exact q2
      ·exact absurd (q.symm.trans q2) e
    have c1:=hu y z hy hz (by rw[hmx];exact hcy)
    have c2:=hu z y hz hy (by rw[wd,hmx];exact hcz)
    rw[wd z y]at c2
    have hj:=h.du.mlt hy hz
    obtain⟨l,hl⟩:=woy h _ _ hj (Nat.le_refl _)
    have e1:=wf7 h hu k y hy hpy (l+1) ⟨_,hj,c2,hl⟩
    have e2:=wf7 h hu k z hz (by rw[←e1];exact⟨_,hj,c1,hl⟩) m hpz
    rw[e2]
theorem wka {n:Nat}{le:Nat→Nat→Bool}(h:LatP n le) (hu:UpS n le):∃r,Grd n le r:=by
 classical
 have ex:∀x,∃m,x<n→Pth n le (tp n le) m x:=fun x=>by
  by_cases hx:x<n
  ·obtain⟨m,hm⟩:=woy h _ x hx (Nat.le_refl _)
   exact⟨m,fun _=>hm⟩
  ·exact⟨0,fun q=>absurd q hx⟩
 refine⟨fun x => -((Classical.choose (ex x):Nat):Int),fun x y hx hy hc => ?_⟩
 have hy1:=Classical.choose_spec (ex y) hy
 have hx1:=Classical.choose_spec (ex x) hx
 have:=wf7 h hu _ x hx hx1 _ (show Pth n le (tp n le) (Classical.choose (ex y)+1) x from⟨y,hy,hc,hy1⟩)
 show -((Classical.choose (ex y):Nat):Int) = -((Classical.choose (ex x):Nat):Int)+1
 omega
theorem wy4 {n:Nat}{le:Nat→Nat→Bool}(h:LatP n le){r:Nat→Int}(hr:Grd n le r):∀(k z x:Nat),z<n→x<n→abN n le z≤k→z≠x→le z x=true→r z<r x
 | k,z,x,hz,hx,hk,hne,hle=>by
  obtain⟨y,hy,hc,hyx⟩:=wog h hz hx hne hle
  have h1:=hr z y hz hy hc
  by_cases e:y=x
  ·subst e;omega
  ·have:=wfj h hz hy hc
   match k,hk with
   | 0,hk=>omega
   | k+1,hk =>
    have:=wy4 h hr k y x hy hx (by omega) e hyx
    omega
theorem wj8 {n:Nat}{le:Nat→Nat→Bool}(h:LatP n le) (hu:UpS n le){r:Nat→Int}(hr:Grd n le r){y:Nat}(hy:y<n):∀(k z x:Nat),z<n→x<n→abN n le z≤k→le z x=true→r (mt n (du le) x y)-r (mt n (du le) z y)≤r x-r z
 | k,z,x,hz,hx,hk,hle=>by
  by_cases e:z=x
  ·subst e;omega
  ·obtain⟨w,hw,hc,hwx⟩:=wog h hz hx e hle
   have hlt:=wfj h hz hw hc
   have h1:=hr z w hz hw hc
   match k,hk with
   | 0,hk=>omega
   | k+1,hk =>
    have ih:=wj8 h hu hr hy k w x hw hx (by omega) hwx
    have hzw:=(wi hc).2
    have hjz:=h.du.mlt hz hy
    have hjw:=h.du.mlt hw hy
    have z1:le z (mt n (du le) z y)=true:=h.du.m1 hz hy
    have y1:le y (mt n (du le) z y)=true:=h.du.m2 hz hy
    have w2:le w (mt n (du le) w y)=true:=h.du.m1 hw hy
    have y2:le y (mt n (du le) w y)=true:=h.du.m2 hw hy
    have step:r (mt n (du le) w y)≤r (mt n (du le) z y)+1:=by
     have a1:le (mt n (du le) z y) (mt n (du le) w y)=true:=h.du.mg hz hy hjw (show le z _=true from h.tr hz hw hjw hzw w2) y2
     by_cases q:le w (mt n (du le) z y)=true
     ·have a2:le (mt n (du le) w y) (mt n (du le) z y)=true:=h.du.mg hw hy hjz q y1
      rw[h.as hjz hjw a1 a2];omega
     ·have hm:=h.mlt hw hjz
      have hmz:mt n le w (mt n (du le) z y)=z:=by
       rcases wf6 hc hm (h.mg hw hjz hz hzw z1) (h.m1 hw hjz) with e2|e2
       ·exact e2
       ·exact absurd (by have:=h.m2 hw hjz;rw[e2]at this;exact this) q
      have c:=hu w _ hw hjz (by rw[hmz];exact hc)
      have hjj:=h.du.mlt hw hjz
      have e3:mt n (du le) w (mt n (du le) z y)=mt n (du le) w y:=by
       refine h.as hjj hjw (h.du.mg hw hjz hjw w2 a1) ?_
       exact h.du.mg hw hy hjj (h.du.m1 hw hjz) (h.tr hy hjz hjj y1 (h.du.m2 hw hjz))
      rw[e3]at c
      have:=hr _ _ hjz hjw c
      omega
    omega
theorem wy3 {n:Nat}{le:Nat→Nat→Bool}{r:Nat→Int}(hr:Grd n le r):Grd n (du le) fun x => -r x:=fun x y hx hy hc=>by
 rw[covDu]at hc
 have:=hr y x hy hx hc
 show -r y = -r x+1
 omega
theorem wo4 {n:Nat}{le:Nat→Nat→Bool}(h:LatP n le) (hu:UpS n le) (hl:UpS n (du le)):Mod n le:=by
 obtain⟨r,hr⟩:=wka h hu
 have val:∀x y,x<n→y<n→r (mt n (du le) x y)+r (mt n le x y)=r x+r y:=fun x y hx hy=>by
  have hm:=h.mlt hx hy
  have hj:=h.du.mlt hx hy
  have u:=wj8 h hu hr hy _ (mt n le x y) x hm hx (Nat.le_refl _) (h.m1 hx hy)
  have l:=wj8 h.du hl (wy3 hr) hy _ (mt n (du le) x y) x hj hx (Nat.le_refl _) (h.du.m1 hx hy)
  have e1:mt n (du le) (mt n le x y) y=y:=h.as (h.du.mlt hm hy) hy (h.du.mg hm hy hy (h.m2 hx hy) (h.ord.refl y hy)) (h.du.m2 hm hy)
  have e2:mt n (du (du le)) (mt n (du le) x y) y=y:=h.as (h.mlt hj hy) hy (h.m2 hj hy) (h.mg hj hy hy (show le y (mt n (du le) x y)=true from h.du.m2 hx hy) (h.ord.refl y hy))
  rw[e1]at u
  rw[e2]at l
  have l : -r (mt n le x y) - -r y ≤ -r x - -r (mt n (du le) x y):=l
  omega
 intro x y z hx hy hz ⟨hxz,hne⟩
 have hyz:=h.mlt hy hz
 have hxy:=h.du.mlt hx hy
 have ha:=h.du.mlt hx hyz
 have hb:=h.mlt hxy hz
 have xa:le x (mt n (du le) x (mt n le y z))=true:=h.du.m1 hx hyz
 have yza:le (mt n le y z) (mt n (du le) x (mt n le y z))=true:=h.du.m2 hx hyz
 have xj:le x (mt n (du le) x y)=true:=h.du.m1 hx hy
 have yj:le y (mt n (du le) x y)=true:=h.du.m2 hx hy
 have hab:le (mt n (du le) x (mt n le y z)) (mt n le (mt n (du le) x y) z)=true :=
  h.du.mg hx hyz hb (h.mg hxy hz hx xj hxz) (h.mg hxy hz hyz (h.tr hyz hy hxy (h.m1 hy hz) yj) (h.m2 hy hz))
 have lt:=wy4 h hr _ _ _ ha hb (Nat.le_refl _) hne hab
 generalize mt n (du le) x (mt n le y z)=a at *
 have hbz:le (mt n le (mt n (du le) x y) z) z=true:=h.m2 hxy hz
 have hbj:le (mt n le (mt n (du le) x y) z) (mt n (du le) x y)=true:=h.m1 hxy hz
 generalize mt n le (mt n (du le) x y) z=b at *
 have ma:mt n le a y=mt n le b y:=by
  have i1:=h.mlt ha hy
  have i2:=h.mlt hb hy
  refine h.as i1 i2 (h.mg hb hy i1 (h.tr i1 ha hb (h.m1 ha hy) hab) (h.m2 ha hy)) (h.mg ha hy i2 ?_ (h.m2 hb hy))
  exact h.tr i2 hyz ha (h.mg hy hz i2 (h.m2 hb hy) (h.tr i2 hb hz (h.m1 hb hy) hbz)) yza
 have ja:mt n (du le) a y=mt n (du le) b y:=by
  have i1:=h.du.mlt ha hy
  have i2:=h.du.mlt hb hy
  have a1:le a (mt n (du le) a y)=true:=h.du.m1 ha hy
  have a2:le y (mt n (du le) a y)=true:=h.du.m2 ha hy
  have b1:le b (mt n (du le) b y)=true:=h.du.m1 hb hy
  have b2:le y (mt n (du le) b y)=true:=h.du.m2 hb hy
  refine h.as i1 i2 (h.du.mg ha hy i2 (h.tr ha hb i2 hab b1) b2) (h.du.mg hb hy i1 ?_ a2)
  exact h.tr hb hxy i1 hbj (h.du.mg hx hy i1 (h.tr hx ha i1 xa a1) a2)
 have v1:=val a y ha hy
 have v2:=val b y hb hy
 rw[ma,ja]at v1
 omega
theorem Mod.law {n:Nat}{le:Nat→Nat→Bool}(hm:Mod n le){x y z:Nat}(hx:x<n) (hy:y<n) (hz:z<n) (h:le x z=true):mt n (du le) x (mt n le y z)=mt n le (mt n (du le) x y) z :=
 Classical.byContradiction fun q=>hm x y z hx hy hz ⟨h,q⟩
theorem w43 {n:Nat}{le:Nat→Nat→Bool}(hm:Mod n le):Mod n (du le):=fun x y z hx hy hz hb=>hb.2 <| by
 have h1:le z x=true:=hb.1
 have:=hm.law hz hy hx h1
 show mt n le x (mt n (du le) y z)=mt n (du le) (mt n le x y) z
 rw[wd x,wd y z,←this,wd y x,wd z]
theorem wjx {n:Nat}{le:Nat→Nat→Bool}(h:LatP n le) (hm:Mod n le):UpS n le:=fun x y hx hy hc=>by
 have hmt:=h.mlt hx hy
 have hj:=h.du.mlt hx hy
 have xj:le x (mt n (du le) x y)=true:=h.du.m1 hx hy
 have yj:le y (mt n (du le) x y)=true:=h.du.m2 hx hy
 obtain⟨hne,_⟩:=wi hc
 refine covIff.2 ⟨⟨fun e=>hne ?_,yj⟩,fun w hw h1 h2 h3 h4 => ?_⟩
 ·rw[←e]at xj
  exact h.as hmt hx (h.m1 hx hy) (h.mg hx hy hx (h.ord.refl x hx) xj)
 ·have hwx:=h.mlt hx hw
  have e1:mt n (du le) y (mt n le x w)=w:=by
   rw[hm.law hy hx hw h2,wd y x]
   exact h.as (h.mlt hj hw) hw (h.m2 hj hw) (h.mg hj hw hw h4 (h.ord.refl w hw))
  have a1:le (mt n le x y) (mt n le x w)=true:=h.mg hx hw hmt (h.m1 hx hy) (h.tr hmt hy hw (h.m2 hx hy) h2)
  rcases wf6 hc hwx a1 (h.m1 hx hw) with e|e
  ·rw[e]at e1
   refine h1 ?_
   rw[←e1]
   exact h.as hy (h.du.mlt hy hmt) (h.du.m1 hy hmt) (h.du.mg hy hmt hy (h.ord.refl y hy) (h.m2 hx hy))
  ·refine h3 ?_
   have xw:le x w=true:=by have:=h.m2 hx hw;rw[e]at this;exact this
   exact h.as hw hj h4 (h.du.mg hx hy hw xw h2)
theorem wzs {n:Nat}{le:Nat→Nat→Bool}(h:LatP n le):Mod n le↔UpS n le∧UpS n (du le) :=
 ⟨fun m=>⟨wjx h m,wjx h.du (w43 m)⟩,fun q=>wo4 h q.1 q.2⟩
theorem wp3 {n:Nat}{le:Nat→Nat→Bool}{r:Nat→Int}(hr:Grd n le r):∀(d x:Nat),x<n→∀c∈chs n le d x,(c.length:Int)=r (tp n le)-r x+1
 | 0,x,hx,c,hc=>by cases hc
 | d+1,x,hx,c,hc=>by
  unfold chs at hc
  split at hc
  ·rename_i e
   rw[List.mem_singleton.1 hc,e]
   simp
  ·obtain⟨y,hy,hc⟩:=List.mem_flatMap.1 hc
   obtain⟨c',hc',rfl⟩:=List.mem_map.1 hc
   have hy:=fl_mem.1 hy
   have:=wp3 hr d y hy.1 c' hc'
   have:=hr x y hx hy.1 hy.2
   rw[List.length_cons]
   omega
def EvC (n:Nat) (le:Nat→Nat→Bool):Prop:=∃k:Int,∀c∈chs n le 10 (bt n le),(c.length:Int)=k
theorem w5g {n:Nat}{le:Nat→Nat→Bool}(h:LatP n le) (hu:UpS n le∨UpS n (du le)):EvC n le:=by
 obtain⟨r,hr⟩:∃r,Grd n le r:=by
  rcases hu with hu|hu
  ·exact wka h hu
  ·obtain⟨r,hr⟩:=wka h.du hu
   exact⟨_,wy3 hr⟩
 exact⟨_,wp3 hr 10 _ (wjq h)⟩
theorem wy7 {n:Nat}{le:Nat→Nat→Bool}(h:LatP n le) (hm:Mod n le){x y:Nat}(hx:x<n) (hy:y<n):(fl n fun z=>le (mt n le x y) z&&le z x).length=(fl n fun w=>le y w&&le w (mt n (du le) x y)).length:=by
 have hmt:=h.mlt hx hy
 have hj:=h.du.mlt hx hy
 have xj:le x (mt n (du le) x y)=true:=h.du.m1 hx hy
 have yj:le y (mt n (du le) x y)=true:=h.du.m2 hx hy
 have len:∀{A B:List Nat} (f:Nat→Nat),A.Nodup→(∀a∈A,f a∈B)→(∀a∈A,∀b∈A,f a=f b→a=b)→A.length≤B.length:=fun {A B} f h1 h2 h3=>by
  have:=(wkn (f:=f) h3 h1).length_le_of_subset (l₂:=B) fun z hz=>by
   obtain⟨a,ha,rfl⟩:=List.mem_map.1 hz
   exact h2 a ha
  rwa [List.length_map]at this
 have nd:∀P,(fl n P).Nodup:=fun P=>List.Nodup.sublist List.filter_sublist List.nodup_range
 have up:∀z,z<n→le (mt n le x y) z=true→le z x=true→mt n le (mt n (du le) z y) x=z:=fun z hz h1 h2=>by
  rw[←hm.law hz hy hx h2,wd y x]
  exact h.as (h.du.mlt hz hmt) hz (h.du.mg hz hmt hz (h.ord.refl z hz) h1) (h.du.m1 hz hmt)
 have dn:∀w,w<n→le y w=true→le w (mt n (du le) x y)=true→mt n (du le) y (mt n le x w)=w:=fun w hw h1 h2=>by
  rw[hm.law hy hx hw h1,wd y x]
  exact h.as (h.mlt hj hw) hw (h.m2 hj hw) (h.mg hj hw hw h2 (h.ord.refl w hw))
 refine Nat.le_antisymm (len (fun z=>mt n (du le) z y) (nd _) (fun z hz => ?_) (fun a ha b hb e => ?_)) (len (fun w=>mt n le x w) (nd _) (fun w hw => ?_) (fun a ha b hb e => ?_))
 ·obtain⟨z1,z2⟩:=fl_mem.1 hz
  simp only[Bool.and_eq_true]at z2
  refine fl_mem.2 ⟨h.du.mlt z1 hy, ?_⟩
  rw[Bool.and_eq_true]
  exact⟨h.du.m2 z1 hy,h.du.mg z1 hy hj (h.tr z1 hx hj z2.2 xj) yj⟩
 ·obtain⟨a1,a2⟩:=fl_mem.1 ha
  obtain⟨b1,b2⟩:=fl_mem.1 hb
  simp only[Bool.and_eq_true]at a2 b2
  have e:mt n (du le) a y=mt n (du le) b y:=e
  rw[←up a a1 a2.1 a2.2,e,up b b1 b2.1 b2.2]
 ·obtain⟨w1,w2⟩:=fl_mem.1 hw
  simp only[Bool.and_eq_true]at w2
  refine fl_mem.2 ⟨h.mlt hx w1, ?_⟩
  rw[Bool.and_eq_true]
  exact⟨h.mg hx w1 hmt (h.m1 hx hy) (h.tr hmt hy w1 (h.m2 hx hy) w2.1),h.m1 hx w1⟩
 ·obtain⟨a1,a2⟩:=fl_mem.1 ha
  obtain⟨b1,b2⟩:=fl_mem.1 hb
  simp only[Bool.and_eq_true]at a2 b2
  have e:mt n le x a=mt n le x b:=e
  rw[←dn a a1 a2.1 a2.2,e,dn b b1 b2.1 b2.2]
theorem wjs {n:Nat}{le:Nat→Nat→Bool}(h:LatP n le){a b:Nat}(ha:a<n) (hb:b<n):V56 (pos n le) (a:Int) (b:Int)=some ((((mt n le a b:Nat):Int),true,()),()):=by
 have hh:([(a:Int),(b:Int)]).all (inB n)=true:=by simp[inB];omega
 unfold V56 w0a
 rw[wc h,obS]
 dsimp only
 rw[Bool.not_true,cond_false,obS,lat1,zp _ (by simp),obS,hh]
 dsimp only
 rw[Bool.not_true,cond_false,obS,lat2,jd ha,obS,jd hb];rfl
theorem wsy {n:Nat}{le:Nat→Nat→Bool}(h:LatP n le){a b:Nat}(ha:a<n) (hb:b<n):V58 (pos n le) (a:Int) (b:Int)=some ((((mt n (du le) a b:Nat):Int),true,()),()):=by
 have hh:([(a:Int),(b:Int)]).all (inB n)=true:=by simp[inB];omega
 unfold V58 w0c
 rw[wc h,obS]
 dsimp only
 rw[Bool.not_true,cond_false,obS,lat1,zp _ (by simp),obS,hh]
 dsimp only
 rw[Bool.not_true,cond_false,obS,lat3,jd ha,obS,jd hb];rfl
theorem wga {n:Nat}{S:List Nat}{f:Nat→Nat}(hS:∀s∈S,s<n) (hl:S.length≤1048576):V38 big (cs S) (mkR n fun z=>((f z:Nat):Int))=some (cs (S.map f),()):=by
 have e:(mkR n fun z=>((f z:Nat):Int))=cs ((List.range n).map f):=by unfold mkR cs;rw[List.map_map];rfl
 rw[e,wss (by simpa using hS) hl]
 refine congrArg (fun l=>some (cs l,())) (List.map_congr_left fun s hs => ?_)
 rw[List.getD_eq_getElem?_getD,List.getElem?_map,List.getElem?_range (hS s hs)];rfl
theorem wkl {n:Nat}{le:Nat→Nat→Bool}(hn:n≤1048576){x y:Nat}(hx:x<n) (hy:y<n):V37 (mkT n le) (x:Int) (y:Int)=some (cs (fl n fun z=>le x z&&le z y),()):=by
 unfold V37 wz6
 rw[zq (mkR_len n _) (by omega) (P:=fun z=>le x z&&le z y)]
 ·rfl
 ·intro z hz
  unfold V35 wz5
  simp only[obS,jd hx,jd hy,jd hz]
  cases le x z<;>rfl
def upL (n:Nat) (le:Nat→Nat→Bool) (x y k:Nat):List Nat:=(fl k fun z=>le (mt n le x y) z&&le z x).map fun z=>mt n (du le) z y
def dnL (n:Nat) (le:Nat→Nat→Bool) (x y k:Nat):List Nat:=(fl k fun z=>le y z&&le z (mt n (du le) x y)).map fun z=>mt n le z x
theorem wgk (n:Nat) (le:Nat→Nat→Bool) (x y k:Nat):upL n le x y (k+1)=if(le (mt n le x y) k&&le k x)=true then upL n le x y k++[mt n (du le) k y] else upL n le x y k:=by
 unfold upL;rw[qd];split<;>simp
theorem wgh (n:Nat) (le:Nat→Nat→Bool) (x y k:Nat):dnL n le x y (k+1)=if(le y k&&le k (mt n (du le) x y))=true then dnL n le x y k++[mt n le k x] else dnL n le x y k:=by
 unfold dnL;rw[qd];split<;>simp
theorem wqd {n:Nat}{le:Nat→Nat→Bool}{x y k:Nat}:(upL n le x y k).length≤k:=by unfold upL;rw[List.length_map];exact jh _ _
theorem wp4 {n:Nat}{le:Nat→Nat→Bool}{x y k:Nat}:(dnL n le x y k).length≤k:=by unfold dnL;rw[List.length_map];exact jh _ _
theorem wzr {n:Nat}{le:Nat→Nat→Bool}(h:LatP n le) (h1:V45 big (pos n le)=some (true,())){x y:Nat}(hx:x<n) (hy:y<n):V39 (pos n le) (x:Int) (y:Int)=some ((cs (upL n le x y n),true,()),())∧V50 big (pos n le) (x:Int) (y:Int)=some ((cs (upL n le x y n),true,()),()):=by
 have h10:=h.le10
 have hh:([(x:Int),(y:Int)]).all (inB n)=true:=by simp[inB];omega
 have hi:(inB n (x:Int)&&inB n (y:Int))=true:=by simpa using hh
 have hm:=h.mlt hx hy
 refine⟨?_, ?_⟩
 ·unfold V39 wk0
  rw[wc h,obS]
  dsimp only
  rw[Bool.not_true,cond_false,obS,lat1,zp _ (by simp),obS,hh]
  dsimp only
  rw[Bool.not_true,cond_false,obS,obS,lat1,lat2,jd hx,obS,jd hy,obS,wkl (by omega) hm hx,obS,obS,lat3,jd hy,obS]
  dsimp only
  rw[wga (fun s hs=>(fl_mem.1 hs).1) (by have:=jh n fun z=>le (mt n le x y) z&&le z x;omega),obS]
  refine congrArg (fun l=>some ((cs l,true,()),())) ?_
  unfold upL
  exact List.map_congr_left fun z _=>wd y z
 ·unfold V50 wh1
  rw[wf8 h h1,obS,hi]
  dsimp only
  rw[Bool.not_true,cond_false]
  refine w33 n (fun i o=>o=cs (upL n le x y i)) (by omega) (fun rc i o hi2 hI hr => ?_) (fun rc o hI => ?_) 0 (by omega) _ rfl
  ·subst hI
   have hu := @wqd n le x y i
   unfold wd7
   rw[wb,cdt (by omega),w5 h hx hy,obS,wk (by omega) hm hi2,obS,wr1 (by omega)]
   dsimp only
   cases e1:le (mt n le x y) i with
   | false=>exact hr _ (by rw[wgk,e1];rfl)
   | true =>
    rw[cond_true,wk (by omega) hi2 hx,obS]
    dsimp only
    cases e2:le i x with
    | false=>exact hr _ (by rw[wgk,e1,e2];rfl)
    | true =>
     rw[cond_true,wz h hi2 hy,obS,app1 (by rw[cs_len];omega),obS]
     exact hr _ (by rw[wgk,if_pos (by rw[e1,e2];rfl),qa];rfl)
  ·subst hI
   unfold wd7
   rw[wb,cdf (by omega),wbk]
theorem wzn {n:Nat}{le:Nat→Nat→Bool}(h:LatP n le) (h1:V45 big (pos n le)=some (true,())){x y:Nat}(hx:x<n) (hy:y<n):V52 (pos n le) (x:Int) (y:Int)=some ((cs (dnL n le x y n),true,()),())∧V53 big (pos n le) (x:Int) (y:Int)=some ((cs (dnL n le x y n),true,()),()):=by
 have h10:=h.le10
 have hh:([(x:Int),(y:Int)]).all (inB n)=true:=by simp[inB];omega
 have hi:(inB n (x:Int)&&inB n (y:Int))=true:=by simpa using hh
 have hj:=h.du.mlt hx hy
 refine⟨?_, ?_⟩
 ·unfold V52 wk3
  rw[wc h,obS]
  dsimp only
  rw[Bool.not_true,cond_false,obS,lat1,zp _ (by simp),obS,hh]
  dsimp only
  rw[Bool.not_true,cond_false,obS,obS,lat1,lat3,jd hx,obS,jd hy,obS,wkl (by omega) hy hj,obS,obS,lat2,jd hx,obS]
  dsimp only
  rw[wga (fun s hs=>(fl_mem.1 hs).1) (by have:=jh n fun z=>le y z&&le z (mt n (du le) x y);omega),obS]
  refine congrArg (fun l=>some ((cs l,true,()),())) ?_
  unfold dnL
  exact List.map_congr_left fun z _=>wd x z
 ·unfold V53 wh4
  rw[wf8 h h1,obS,hi]
  dsimp only
  rw[Bool.not_true,cond_false]
  refine w35 n (fun i o=>o=cs (dnL n le x y i)) (by omega) (fun rc i o hi2 hI hr => ?_) (fun rc o hI => ?_) 0 (by omega) _ rfl
  ·subst hI
   have hu := @wp4 n le x y i
   unfold web
   rw[wb,cdt (by omega),wk (by omega) hy hi2,obS,wr1 (by omega)]
   dsimp only
   cases e1:le y i with
   | false=>exact hr _ (by rw[wgh,e1];rfl)
   | true =>
    rw[cond_true,wz h hx hy,obS,wk (by omega) hi2 hj,obS]
    dsimp only
    cases e2:le i (mt n (du le) x y) with
    | false=>exact hr _ (by rw[wgh,e1,e2];rfl)
    | true =>
     rw[cond_true,w5 h hi2 hx,obS,app1 (by rw[cs_len];omega),obS]
     exact hr _ (by rw[wgh,if_pos (by rw[e1,e2];rfl),qa];rfl)
  ·subst hI
   unfold web
   rw[wb,cdf (by omega),wbm]
def MoP (n:Nat) (le:Nat→Nat→Bool) (x y:Nat):Prop:=∀z,z<n→le z y=true→mt n le y (mt n (du le) z x)=mt n (du le) z (mt n le x y)
theorem w29 {n:Nat}{le:Nat→Nat→Bool}(hm:Mod n le){x y:Nat}(hx:x<n) (hy:y<n):MoP n le x y:=fun z hz h=>by
 rw[hm.law hz hx hy h,wd y]
theorem wzt {n:Nat}{le:Nat→Nat→Bool}(h:LatP n le) (h1:V45 big (pos n le)=some (true,())){x y:Nat}(hx:x<n) (hy:y<n):V59 big (pos n le) (x:Int) (y:Int)=some ((tv (MoP n le x y),true,()),())∧V60 big (pos n le) (x:Int) (y:Int)=some ((tv (MoP n le x y),true,()),()):=by
 have h10:=h.le10
 have hh:([(x:Int),(y:Int)]).all (inB n)=true:=by simp[inB];omega
 have hi:(inB n (x:Int)&&inB n (y:Int))=true:=by simpa using hh
 have hm:=h.mlt hx hy
 refine⟨?_, ?_⟩
 ·unfold V59 wic
  rw[wc h,obS]
  dsimp only
  rw[Bool.not_true,cond_false,obS,lat1,zp _ (by simp),obS,hh]
  dsimp only
  rw[Bool.not_true,cond_false,obS,lat1,mkR_len]
  refine w39 n (fun i=>∀z,z<i→le z y=true→mt n le y (mt n (du le) z x)=mt n (du le) z (mt n le x y)) (by omega) (fun rc i hi2 hI hr => ?_) (fun rc hI => ?_) 0 (by omega) (fun z hz=>by omega)
  ·unfold weh
   simp only[cdt (show(i:Int)<(n:Int) by omega),obS,lat1,lat2,lat3,jd hi2,jd hy,jd hx,jd (h.du.mlt hi2 hx),jd hm,wr1 (show i≤4611686018427387904 by omega)]
   cases e:le i y with
   | false=>exact hr (all_lt_succ.2 ⟨hI,fun q=>by rw[e]at q;cases q⟩)
   | true =>
    rw[cond_true]
    by_cases c:mt n le y (mt n (du le) i x)=mt n (du le) i (mt n le x y)
    ·rw[cdf (by omega)]
     exact hr (all_lt_succ.2 ⟨hI,fun _=>c⟩)
    ·rw[cdt (by omega),tv_f (show ¬MoP n le x y from fun q=>c (q i hi2 e))]
  ·unfold weh
   rw[cdf (by omega),wbs,tv_t (show MoP n le x y from hI)]
 ·unfold V60 wig
  rw[wf8 h h1,obS,hi]
  dsimp only
  rw[Bool.not_true,cond_false]
  have hfl:=jh n fun z=>le z y
  refine w4b (fl n fun z=>le z y).length (fun i=>∀z∈(fl n fun z=>le z y).take i,mt n le y (mt n (du le) z x)=mt n (du le) z (mt n le x y)) (by omega) (fun rc i hi2 hI hr => ?_) (fun rc hI => ?_) 0 (by omega) (by simp)
  ·have hz:=fl_mem.1 (List.getElem_mem hi2)
   unfold wej
   rw[xc hy,obS,cs_len,cdt (by omega),obS,jn hi2,obS,wz h hz.1 hx,obS]
   dsimp only
   rw[w5 h (h.du.mlt hz.1 hx) hy,obS,w5 h hx hy,obS]
   dsimp only
   rw[wz h hz.1 hm,obS,wr1 (by omega)]
   dsimp only
   by_cases c:mt n le y (mt n (du le) ((fl n fun z=>le z y)[i]) x)=mt n (du le) ((fl n fun z=>le z y)[i]) (mt n le x y)
   ·rw[cdf (by rw[wd,c];omega)]
    refine hr fun z hz2 => ?_
    rw[List.take_succ_eq_append_getElem hi2]at hz2
    rcases List.mem_append.1 hz2 with q|q
    ·exact hI z q
    ·rw[List.mem_singleton.1 q];exact c
   ·rw[cdt (by rw[wd];omega),tv_f (show ¬MoP n le x y from fun q=>c (q _ hz.1 hz.2))]
  ·unfold wej
   rw[xc hy,obS,cs_len,cdf (by omega),wbt,tv_t (show MoP n le x y from fun z hz e=>hI z (by rw[List.take_length];exact fl_mem.2 ⟨hz,e⟩))]
def IvNo (p:PT) (x y:Int):Prop:=V39 p x y=some (([],false,()),())∧V50 big p x y=some (([],false,()),())∧V52 p x y=some (([],false,()),())∧V53 big p x y=some (([],false,()),())∧V59 big p x y=some ((false,false,()),())∧V60 big p x y=some ((false,false,()),())
theorem wzq {p:PT}(hx:∀r∈p.1,r.length≤4294967296) (x y:Int):(∃n le,∃i j:Nat,p=pos n le∧LatP n le∧V45 big p=some (true,())∧x=(i:Int)∧y=(j:Int)∧i<n∧j<n)∨IvNo p x y:=by
 rcases wfk hx with⟨n,le,e,h,h1,h2⟩|⟨h1,l,h2⟩
 ·subst e
  by_cases hi:(inB n x&&inB n y)=true
  ·simp only[Bool.and_eq_true]at hi
   obtain⟨i,hi1,rfl⟩:=wol hi.1
   obtain⟨j,hj1,rfl⟩:=wol hi.2
   exact .inl ⟨n,le,i,j,rfl,h,h1,rfl,rfl,hi1,hj1⟩
  ·have hi:(inB n x&&inB n y)=false:=by simpa using hi
   have hh:([x,y]).all (inB n)=false:=by simpa using hi
   have ht:=wf8 h h1 x y
   rw[hi]at ht
   have e1:V34 (lat n le).1 [x,y]=some (false,()):=by rw[lat1,zp _ (by simp),hh]
   refine .inr ⟨?_, ?_, ?_, ?_, ?_, ?_⟩
   ·unfold V39 wk0
    rw[h2,obS];dsimp only
    rw[Bool.not_true,cond_false,obS,e1];rfl
   ·unfold V50 wh1
    rw[ht];rfl
   ·unfold V52 wk3
    rw[h2,obS];dsimp only
    rw[Bool.not_true,cond_false,obS,e1];rfl
   ·unfold V53 wh4
    rw[ht];rfl
   ·unfold V59 wic
    rw[h2,obS];dsimp only
    rw[Bool.not_true,cond_false,obS,e1];rfl
   ·unfold V60 wig
    rw[ht];rfl
 ·have ht:=w45 h1 x y
  refine .inr ⟨?_, ?_, ?_, ?_, ?_, ?_⟩
  ·unfold V39 wk0;rw[h2];rfl
  ·unfold V50 wh1;rw[ht];rfl
  ·unfold V52 wk3;rw[h2];rfl
  ·unfold V53 wh4;rw[ht];rfl
  ·unfold V59 wic;rw[h2];rfl
  ·unfold V60 wig;rw[ht];rfl
def upB (n:Nat) (le:Nat→Nat→Bool) (x y:Nat):Prop:=cov n le (mt n le x y) x=true→cov n le y (mt n (du le) x y)=true
theorem w46 {n:Nat}{le:Nat→Nat→Bool}(h:LatP n le){x y:Nat}(hx:x<n) (hy:y<n):V65 (some (lat n le)) (x:Int) (y:Int)=some (tv (upB n le x y),()):=by
 have h10:=h.le10
 unfold V65 w0j
 simp only[obS,lat1,lat2,lat3,jd hx,jd hy,x7 (show n≤1048576 by omega) (h.mlt hx hy) hx,x7 (show n≤1048576 by omega) hy (h.du.mlt hx hy)]
 cases e:cov n le (mt n le x y) x with
 | false=>rw[tv_t (show upB n le x y from fun q=>by rw[e]at q;cases q)];rfl
 | true =>
  rw[Bool.not_true,cond_false]
  cases e2:cov n le y (mt n (du le) x y) with
  | false=>rw[tv_f (show ¬upB n le x y from fun q=>by rw[q e]at e2;cases e2)]
  | true=>rw[tv_t (show upB n le x y from fun _=>e2)]
theorem w42 {n:Nat}{le:Nat→Nat→Bool}(h:LatP n le){x y:Nat}(hx:x<n) (hy:y<n):V70 (some (lat n le)) (x:Int) (y:Int)=some (tv (upB n (du le) x y),()):=by
 have h10:=h.le10
 unfold V70 w0k
 simp only[obS,lat1,lat2,lat3,jd hx,jd hy,x7 (show n≤1048576 by omega) hx (h.du.mlt hx hy),x7 (show n≤1048576 by omega) (h.mlt hx hy) hy]
 have u:upB n (du le) x y↔(cov n le x (mt n (du le) x y)=true→cov n le (mt n le x y) y=true):=by
  unfold upB
  rw[covDu (n:=n) (le:=le) (x:=mt n (du le) x y) (y:=x),covDu (n:=n) (le:=le) (x:=y)]
 rw[qp u]
 cases cov n le x (mt n (du le) x y) with
 | false=>rw[tv_t (by intro q;cases q)];rfl
 | true =>
  rw[Bool.not_true,cond_false]
  cases cov n le (mt n le x y) y with
  | false=>rw[tv_f (by intro q;cases q rfl)]
  | true=>rw[tv_t fun _=>rfl]
theorem wop {n:Nat}{le:Nat→Nat→Bool}(h:LatP n le):V67 (pos n le)=some ((tv (UpS n le),true,()),()):=by
 have h10:=h.le10
 have main:wii big () (some (lat n le)) (n:Int) ((0:Nat):Int)=some ((tv (UpS n le),true,()),()):=by
  refine w4d n (fun i=>∀x,x<i→∀y,y<n→upB n le x y) (by omega) (fun rc i hi hI hr => ?_) (fun rc hI => ?_) 0 (by omega) (fun z hz=>by omega)
  ·unfold wbx
   rw[cdt (by omega),obS,lat1,mkR_len]
   refine w4e n (fun j=>∀y,y<j→upB n le i y) (by omega) (fun rc2 j hj hI2 hr2 => ?_) (fun rc2 hI2 => ?_) 0 (by omega) (fun z hz=>by omega)
   ·unfold weo
    rw[cdt (by omega),w46 h hi hj,obS,wr1 (by omega)]
    dsimp only
    by_cases c:upB n le i j
    ·rw[tv_t c,Bool.not_true,cond_false]
     exact hr2 (all_lt_succ.2 ⟨hI2,c⟩)
    ·rw[tv_f c,Bool.not_false,cond_true,tv_f (show ¬UpS n le from fun q=>c (q i j hi hj))]
   ·unfold weo wbw
    rw[cdf (by omega),wr1 (by omega)]
    exact hr (all_lt_succ.2 ⟨hI,hI2⟩)
  ·unfold wbx xr
   rw[cdf (by omega),tv_t (show UpS n le from fun x y hx hy=>hI x hx y hy)]
 unfold V67 wrx V66 wk5
 rw[wc h,obS]
 dsimp only
 rw[Bool.not_true,cond_false,obS,lat1,mkR_len,show((0:Int))=((0:Nat):Int) from rfl,main]
 rfl
theorem won {n:Nat}{le:Nat→Nat→Bool}(h:LatP n le):V72 (pos n le)=some ((tv (UpS n (du le)),true,()),()):=by
 have h10:=h.le10
 have main:wiq big () (some (lat n le)) (n:Int) ((0:Nat):Int)=some ((tv (UpS n (du le)),true,()),()):=by
  refine w4h n (fun i=>∀x,x<i→∀y,y<n→upB n (du le) x y) (by omega) (fun rc i hi hI hr => ?_) (fun rc hI => ?_) 0 (by omega) (fun z hz=>by omega)
  ·unfold wb3
   rw[cdt (by omega),obS,lat1,mkR_len]
   refine w4i n (fun j=>∀y,y<j→upB n (du le) i y) (by omega) (fun rc2 j hj hI2 hr2 => ?_) (fun rc2 hI2 => ?_) 0 (by omega) (fun z hz=>by omega)
   ·unfold weu
    rw[cdt (by omega),w42 h hi hj,obS,wr1 (by omega)]
    dsimp only
    by_cases c:upB n (du le) i j
    ·rw[tv_t c,Bool.not_true,cond_false]
     exact hr2 (all_lt_succ.2 ⟨hI2,c⟩)
    ·rw[tv_f c,Bool.not_false,cond_true,tv_f (show ¬UpS n (du le) from fun q=>c (q i j hi hj))]
   ·unfold weu wb2
    rw[cdf (by omega),wr1 (by omega)]
    exact hr (all_lt_succ.2 ⟨hI,hI2⟩)
  ·unfold wb3 xu
   rw[cdf (by omega),tv_t (show UpS n (du le) from fun x y hx hy=>hI x hx y hy)]
 unfold V72 wr0 V71 wk8
 rw[wc h,obS]
 dsimp only
 rw[Bool.not_true,cond_false,obS,lat1,mkR_len,show((0:Int))=((0:Nat):Int) from rfl,main]
 rfl
theorem wqc {n:Nat}{le:Nat→Nat→Bool}(h:LatP n le):V68 big (pos n le)=some (tv (UpS n le),()):=by
 have h10:=h.le10
 unfold V68 wry
 refine w4f n (fun i=>∀x,x<i→∀y,y<n→upB n le x y) (by omega) (fun rc i hi hI hr => ?_) (fun rc hI => ?_) 0 (by omega) (fun z hz=>by omega)
 ·unfold wb0
  rw[wb,cdt (by omega)]
  refine w4g n (fun j=>∀y,y<j→upB n le i y) (by omega) (fun rc2 j hj hI2 hr2 => ?_) (fun rc2 hI2 => ?_) 0 (by omega) (fun z hz=>by omega)
  ·unfold wer
   rw[wb,cdt (by omega),w5 h hi hj,obS]
   dsimp only
   rw[x8 (by omega) (h.mlt hi hj) hi,obS,wr1 (by omega)]
   dsimp only
   cases e:cov n le (mt n le i j) i with
   | false=>exact hr2 (all_lt_succ.2 ⟨hI2,fun q=>by rw[e]at q;cases q⟩)
   | true =>
    rw[cond_true,wz h hi hj,obS]
    dsimp only
    rw[x8 (by omega) hj (h.du.mlt hi hj),obS]
    dsimp only
    cases e2:cov n le j (mt n (du le) i j) with
    | false=>rw[Bool.not_false,cond_true,tv_f (show ¬UpS n le from fun q=>by have:=q i j hi hj e;rw[e2]at this;cases this)]
    | true=>exact hr2 (all_lt_succ.2 ⟨hI2,fun _=>e2⟩)
  ·unfold wer wbz
   rw[wb,cdf (by omega),wr1 (by omega)]
   exact hr (all_lt_succ.2 ⟨hI,hI2⟩)
 ·unfold wb0 xt
  rw[wb,cdf (by omega),tv_t (show UpS n le from fun x y hx hy=>hI x hx y hy)]
theorem woq {n:Nat}{le:Nat→Nat→Bool}(h:LatP n le) (h1:V45 big (pos n le)=some (true,())):V69 (pos n le)=some ((tv (UpS n le),true,()),()):=by
 unfold V69 wrz
 rw[h1,obS]
 dsimp only
 rw[Bool.not_true,cond_false,wqc h];rfl
theorem woo {n:Nat}{le:Nat→Nat→Bool}(h:LatP n le) (h1:V45 big (pos n le)=some (true,())):V73 (pos n le)=some ((tv (UpS n (du le)),true,()),()):=by
 unfold V73 wr2
 rw[h1,obS]
 dsimp only
 rw[Bool.not_true,cond_false,w7 (by have:=h.le10;omega),obS,wqc h.du];rfl
def EvR (R:List (List Int)) (k:Nat):Prop:=∀j,j<k→(R.getD j []).length=(R.getD 0 []).length
theorem wn {R:List (List Int)}{i:Nat}(h:i<R.length):R[i]? = some (R.getD i []):=by
 rw[List.getD_eq_getElem?_getD,List.getElem?_eq_getElem h];rfl
theorem evImpl {R:List (List Int)}(hl:R.length≤1000000000):wi2 big R (R.length:Int) ((0:Nat):Int)=some ((tv (EvR R R.length),true,()),()):=by
 refine w4p R.length (fun i=>EvR R i) (by omega) (fun rc i hi hI hr => ?_) (fun rc hI => ?_) 0 (by omega) (fun z hz=>by omega)
 ·have h0:0<R.length:=by omega
  have a0:atI R (0:Int)=some (R.getD 0 []):=by rw[show(0:Int)=((0:Nat):Int) from rfl,jx,wn h0]
  unfold we5
  rw[cdt (by omega),jx,wn hi,obS,Int.toNat_natCast,wn hi,obS,obS,a0,obS,show(0:Int).toNat=0 from rfl,wn h0,obS,obS,wr1 (by omega)]
  by_cases c:(R.getD i []).length=(R.getD 0 []).length
  ·rw[cdf (by omega)]
   exact hr (all_lt_succ.2 ⟨hI,c⟩)
  ·rw[cdt (by omega),tv_f (show ¬EvR R R.length from fun q=>c (q i hi))]
 ·unfold we5 wca
  rw[cdf (by omega),tv_t hI]
theorem evSpec {R:List (List Int)}(hl:R.length≤1000000000):wi7 big R ((0:Nat):Int)=some ((tv (EvR R R.length),true,()),()):=by
 refine w4r R.length (fun i=>EvR R i) (by omega) (fun rc i hi hI hr => ?_) (fun rc hI => ?_) 0 (by omega) (fun z hz=>by omega)
 ·have h0:0<R.length:=by omega
  have a0:atI R (0:Int)=some (R.getD 0 []):=by rw[show(0:Int)=((0:Nat):Int) from rfl,jx,wn h0]
  unfold we7
  rw[cdt (by omega),jx,wn hi,obS,Int.toNat_natCast,wn hi,obS,obS,a0,obS,show(0:Int).toNat=0 from rfl,wn h0,obS,obS,wr1 (by omega)]
  by_cases c:(R.getD i []).length=(R.getD 0 []).length
  ·rw[cdf (by omega)]
   exact hr (all_lt_succ.2 ⟨hI,c⟩)
  ·rw[cdt (by omega),tv_f (show ¬EvR R R.length from fun q=>c (q i hi))]
 ·unfold we7 wcd
  rw[cdf (by omega),tv_t hI]
theorem wzo {n:Nat}{le:Nat→Nat→Bool}(h:LatP n le) (h1:V45 big (pos n le)=some (true,())):∃R:List (List Int),R.length≤1000000000∧(∀x∈R,x.length≤10)∧V81 (pos n le)=some ((R,true,()),())∧V89 (pos n le)=some ((R,true,()),())∧V82 big (pos n le)=some ((tv (EvR R R.length),true,()),())∧V88 big (pos n le)=some ((tv (EvR R R.length),true,()),())∧(EvC n le→EvR R R.length):=by
 have h10:=h.le10
 have h2:=wc h
 have hb:abN n le (bt n le)<10:=Nat.lt_of_lt_of_le (w5e (wjq h)) h10
 have e1:=implChains h 10 big (bt n le) (by omega) (by unfold big;omega) (wjq h) hb
 have e2:=specChains h 10 big (bt n le) [] (by omega) (by unfold big;omega) (wjq h) hb (by simp)
 simp only[List.nil_append]at e2
 have hl:((chs n le 10 (bt n le)).map cs).length≤1000000000:=by rw[List.length_map];exact wj6 h10 9 _
 have im:V81 (pos n le)=some (((chs n le 10 (bt n le)).map cs,true,()),()):=by
  unfold V81 wsc
  rw[h2]
  simp only[obS,Bool.not_true,cond_false,wyy h]
  rw[e1];rfl
 refine⟨(chs n le 10 (bt n le)).map cs,hl,fun x hx => ?_,im, ?_, ?_, ?_,fun⟨k,hk⟩ j hj => ?_⟩
 ·obtain⟨c,h3,rfl⟩:=List.mem_map.1 hx
  rw[cs_len];exact wj7 10 _ c h3
 ·unfold V89 wsh
  rw[h1]
  simp only[obS,Bool.not_true,cond_false,wcv h]
  rw[e2];rfl
 ·unfold V82 wlc
  rw[im,obS]
  dsimp only
  rw[Bool.not_true,cond_false]
  exact evImpl hl
 ·unfold V88 wld
  rw[h1]
  simp only[obS,Bool.not_true,cond_false,wcv h]
  rw[e2]
  exact evSpec hl
 ·have len:∀j,j<((chs n le 10 (bt n le)).map cs).length→((((chs n le 10 (bt n le)).map cs).getD j []).length:Int)=k:=fun j hj=>by
   obtain⟨c,hc,e⟩:=List.mem_map.1 (List.mem_of_getElem? (wn hj))
   rw[←e,cs_len]
   exact hk c hc
  have a:=len j hj
  have b:=len 0 (by omega)
  omega
theorem wgg (R:List (List Int)) (hl:R.length≤1000000000) (hr:∀x∈R,x.length≤10):V90 big R R=some (true,()):=by
 unfold V90 wsk
 rw[cdf (by omega)]
 refine w4t R.length (fun i=>True) (by omega) (fun rc i hi hI hr2 => ?_) (fun rc hI => ?_) 0 (by omega) trivial
 ·have:=hr _ (List.getElem_mem hi)
  unfold we9
  rw[cdt (by omega),jf R i hi,obS,obS,yb _ (by omega),obS,wr1 (by omega)]
  exact hr2 trivial
 ·unfold we9 wce
  rw[cdf (by omega)]
theorem wy0 {code:List Int}(hc:Codes code):∃p x y,V22 code=some ((p,x,y,()),())∧DrP 12 p:=by
 obtain⟨p,c,e,hp,hc1⟩:=woi hc
 have hpl:=hp.1
 obtain⟨v,c',e2,_,_,hc2⟩:=wgd (k:=9000) (hc1.mono (by omega)) (p:=p) (by omega)
 obtain⟨w,c'',e3,_⟩:=wgd (k:=8000) (hc2.mono (by omega)) (p:=p) (by omega)
 unfold V22 wz2 V21 wz1
 rw[e,obS,e2,obS,e3]
 exact⟨p,v,w,rfl,hp⟩
theorem w28 {code:List Int}(hc:Codes code):((V62 code).bind fun rq124 =>
 (V67 rq124.1).bind fun rq125 =>
 (V69 rq124.1).bind fun rq126 =>
 cond (rq125.1.1 != rq126.1.1)
 (some (false,(())))
 (cond (rq125.1.2.1 != rq126.1.2.1)
 (some (false,(())))
 ((V72 rq124.1).bind fun rq127 =>
 (V73 rq124.1).bind fun rq128 =>
 cond (rq127.1.1 != rq128.1.1)
 (some (false,(())))
 (cond (rq127.1.2.1 != rq128.1.2.1)
 (some (false,(())))
 (cond (rq127.1.2.1 != rq125.1.2.1)
 (some (false,(())))
 ((V82 big rq124.1).bind fun rq129 =>
 (V88 big rq124.1).bind fun rq130 =>
 cond (rq129.1.1 != rq130.1.1)
 (some (false,(())))
 (cond (rq129.1.2.1 != rq130.1.2.1)
 (some (false,(())))
 (cond (rq129.1.2.1 != rq125.1.2.1)
 (some (false,(())))
 ((V81 rq124.1).bind fun rq131 =>
 (V89 rq124.1).bind fun rq132 =>
 cond (((((),rq131.1.2).2).1) != ((((),rq132.1.2).2).1))
 (some (false,(())))
 (cond (((((),rq131.1.2).2).1) != rq125.1.2.1)
 (some (false,(())))
 ((V90 big rq131.1.1 rq132.1.1).bind fun rq133 =>
 cond (!rq133.1)
 (some (false,(())))
 ((V55 rq124.1).bind fun rq134 =>
 cond (!rq125.1.2.1)
 (some (true,(())))
 (cond rq134.1.2.1
 (cond rq125.1.1
 (cond (rq134.1.1==rq127.1.1)
 (cond rq129.1.1
 (some (true,(())))
 (cond (!rq125.1.1)
 (some (!rq127.1.1,(())))
 (some (false,(())))))
 (some (false,(()))))
 (cond (rq134.1.1==false)
 (cond rq129.1.1
 (some (true,(())))
 (cond (!rq125.1.1)
 (some (!rq127.1.1,(())))
 (some (false,(())))))
 (some (false,(())))))
 (some (false,(()))))))))))))))))=some (true,()):=by
 obtain⟨q,c,e,hq,_⟩:=woi hc
 have e0:V62 code=some (q,()):=by
  unfold V62 w0h V61 w0g
  rw[e];rfl
 rw[e0,obS]
 dsimp only
 rcases wfk hq.rows12 with⟨n,le,e,h,h1,h2⟩|⟨h1,l,h2⟩
 ·subst e
  obtain⟨R,r1,r2,m1,m2,v1,v2,hev⟩:=wzo h h1
  have vt:=wgg R r1 r2
  have i1:=wop h
  have i2:=won h
  have s1:=woq h h1
  have s2:=woo h h1
  have mo:=wcu h
  have hm:tv (Mod n le)=(tv (UpS n le)&&tv (UpS n (du le))):=by
   refine jaz ?_
   rw[Bool.and_eq_true,tv_iff,tv_iff]
   exact(wzs h).symm
  have hv:(tv (UpS n le)||tv (UpS n (du le)))=true→tv (EvR R R.length)=true:=fun q=>by
   rw[Bool.or_eq_true,tv_iff,tv_iff]at q
   exact tv_t (hev (w5g h q))
  rw[hm]at mo
  clear hev h1 h2 hq h hm
  generalize tv (UpS n le)=A at *
  generalize tv (UpS n (du le))=B at *
  generalize tv (EvR R R.length)=C at *
  simp only[i1,s1,i2,s2,v1,v2,m1,m2,vt,mo,obS,bne_self_eq_false,cond_false,Bool.not_true,cond_true]
  cases A<;>cases B<;>cases C<;>first|rfl|(exact absurd (hv rfl) (by simp))
 ·have i1:V67 q=some ((false,false,()),()):=by
   unfold V67 wrx V66 wk5
   rw[h2];rfl
  have i2:V72 q=some ((false,false,()),()):=by
   unfold V72 wr0 V71 wk8
   rw[h2];rfl
  have s1:V69 q=some ((false,false,()),()):=by
   unfold V69 wrz
   rw[h1];rfl
  have s2:V73 q=some ((false,false,()),()):=by
   unfold V73 wr2
   rw[h1];rfl
  have m1:V81 q=some (([],false,()),()):=by
   unfold V81 wsc
   rw[h2];rfl
  have m2:V89 q=some (([],false,()),()):=by
   unfold V89 wsh
   rw[h1];rfl
  have v1:V82 big q=some ((false,false,()),()):=by
   unfold V82 wlc
   rw[m1];rfl
  have v2:V88 big q=some ((false,false,()),()):=by
   unfold V88 wld
   rw[h1];rfl
  have mo:=wkm h2
  have vt:=wgg [] (by simp) (by simp)
  simp only[i1,s1,i2,s2,v1,v2,m1,m2,vt,mo,obS,bne_self_eq_false,cond_false,Bool.not_true,Bool.not_false,cond_true]
theorem true_FnIntervals (code:List Int) (hw:Wf (.pair (.sl (.int .u8)) .unit) (code,())):laws_FnIntervals big code=some (true,()):=by
 unfold laws_FnIntervals w02 V0 V0_s
 rw[obS]
 dsimp only
 by_cases hl:code.length≤65536
 case neg=>rw[cdt (by omega)]
 have hc:=wzm hw hl
 have tail:=w28 hc
 obtain⟨p,x,y,e1,hp⟩:=wy0 hc
 rw[cdf (by omega),e1,obS]
 dsimp only
 obtain⟨w,hw2⟩:∃w,V55 p=some (w,()):=by
  rcases wfk hp.rows12 with⟨n,le,e,h,h1,h2⟩|⟨h1,l,h2⟩
  ·subst e;exact⟨_,wcu h⟩
  ·exact⟨_,wkm h2⟩
 rcases wzq hp.rows12 x y with⟨n,le,i,j,rfl,h,h1,rfl,rfl,hi,hj⟩|⟨a1,a2,a3,a4,a5,a6⟩
 ·have h10:=h.le10
  obtain⟨l1,l2⟩:=wzr h h1 hi hj
  obtain⟨d1,d2⟩:=wzn h h1 hi hj
  obtain⟨p1,p2⟩:=wzt h h1 hi hj
  have mo:=wcu h
  have hu := @wqd n le i j n
  have hd := @wp4 n le i j n
  have v1:=yb (cs (upL n le i j n)) (by rw[cs_len];omega)
  have v2:=yb (cs (dnL n le i j n)) (by rw[cs_len];omega)
  rw[l1,obS,l2,obS]
  dsimp only
  rw[bne_self_eq_false,cond_false,v1,obS]
  dsimp only
  rw[Bool.not_true,cond_false,d1,obS,d2,obS]
  dsimp only
  rw[bne_self_eq_false,cond_false,cond_false,v2,obS]
  dsimp only
  rw[Bool.not_true,cond_false,mo,obS]
  dsimp only
  rw[cond_true,cond_true]
  by_cases hm:Mod n le
  ·have hlen:(upL n le i j n).length=(dnL n le i j n).length:=by
    unfold upL dnL
    rw[List.length_map,List.length_map]
    exact wy7 h hm hi hj
   rw[tv_t hm,cond_true,cdf (by rw[cs_len,cs_len];omega)]
   refine w24 (upL n le i j n).length (fun _=>True) (by omega) (fun rc k hk _ hr => ?_) (fun rc _ => ?_) 0 (by omega) trivial
   ·obtain⟨z,hz,e⟩:∃z,z∈(fl n fun z=>le (mt n le i j) z&&le z i)∧(upL n le i j n)[k]=mt n (du le) z j:=by
     have:=List.getElem_mem hk
     obtain⟨z,hz,e⟩:=List.mem_map.1 this
     exact⟨z,hz,e.symm⟩
    obtain⟨z1,z2⟩:=fl_mem.1 hz
    simp only[Bool.and_eq_true]at z2
    have hzj:=h.du.mlt z1 hj
    have hbk:=h.mlt hzj hi
    have hmt:=h.mlt hi hj
    have zu:le z (mt n (du le) z j)=true:=h.du.m1 z1 hj
    have zb:le z (mt n le (mt n (du le) z j) i)=true:=h.mg hzj hi z1 zu z2.2
    have q1:le (mt n le i j) (mt n le (mt n (du le) z j) i)=true:=h.tr hmt z1 hbk z2.1 zb
    have q2:le (mt n le (mt n (du le) z j) i) i=true:=h.m2 hzj hi
    have q3:mt n (du le) (mt n le (mt n (du le) z j) i) j=mt n (du le) z j:=by
     have hjj:=h.du.mlt hbk hj
     refine h.as hjj hzj (h.du.mg hbk hj hzj (h.m1 hzj hi) (h.du.m2 z1 hj)) (h.du.mg z1 hj hjj ?_ (h.du.m2 hbk hj))
     exact h.tr z1 hbk hjj zb (h.du.m1 hbk hj)
    unfold wco
    rw[cs_len,cdt (by omega),jn hk,obS,Int.toNat_natCast,jy hk,obS,e,wjs h hzj hi,obS,wjs h hi hj,obS]
    dsimp only
    rw[wjp h10 h.ord hmt hbk,obS,wjp h10 h.ord hbk hi,obS,wsy h hbk hj,obS,q1,q2,q3,wr1 (by omega)]
    dsimp only
    rw[Bool.not_true,cond_false,cond_false,cond_false,cond_false,cond_false,cond_false,cond_false,obS,obS,cdf (by omega)]
    exact hr trivial
   ·unfold wco wcn
    rw[cs_len,cdf (by omega),p1,obS,p2,obS,tv_t (w29 hm hi hj)]
    dsimp only
    rw[bne_self_eq_false,cond_false,cond_false,cond_true,cond_true,Bool.not_true,cond_false]
    exact tail
  ·rw[tv_f hm,cond_false,p1,obS,p2,obS]
   dsimp only
   rw[bne_self_eq_false,cond_false,bne_self_eq_false,cond_false,cond_true,cond_false]
   exact tail
 ·have v:=yb [] (by simp)
  rw[a1,obS,a2,obS]
  dsimp only
  rw[bne_self_eq_false,cond_false,v,obS]
  dsimp only
  rw[Bool.not_true,cond_false,a3,obS,a4,obS]
  dsimp only
  rw[bne_self_eq_false,cond_false,cond_false,v,obS]
  dsimp only
  rw[Bool.not_true,cond_false,hw2,obS,cond_false,a5,obS,a6,obS]
  dsimp only
  rw[bne_self_eq_false,cond_false,cond_false,cond_false]
  exact tail
end Go.Proofs.Yteanfidobhpchaa
