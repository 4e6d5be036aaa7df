import Derived.Test.YtclaienmkbpkaaaGreatPTab
import Derived.Test.YtclaienmkbpkaaaGreatHBC
import Derived.KernelRfl
set_option linter.unusedVariables false
set_option linter.unusedSimpArgs false
namespace Go.Proofs.YtclaienmkbpkaaaGreat
open Go Go.Gx Go.Proofs
theorem wrp (x a b:Int):V6 x a b=some (decide (a≤x∧x≤b),()):=by
 unfold V6 V6_s
 by_cases h:a≤x<;>simp[h]
theorem xfr (w:List Int) (h:w.length≤4294967296):V84 w=some (w,()):=by
 unfold V84 w4c
 rw[jk (by simp;omega),obS]
 simp
def subst (l:Int) (s:List Int):List Int→List Int
 | []=>[]
 | x::xs=>if x=l then s++subst l s xs else x::subst l s xs
theorem xf5 (w:List Int) (h:w.length≤4294967296):V103 w=some (w,()):=by
 unfold V103 w5n
 rw[jk (by simp;omega),obS]
 rfl
def risingB:List Int→Bool
 | x::y::r=>decide (x<y)&&risingB (y::r)
 | _=>true
def inB (n:Nat) (x:Int):Bool:=decide (0≤x∧x<n)
def isSetB (n:Nat) (s:List Int):Bool:=s.all (inB n)&&risingB s
theorem wlz (l:List Int) (i:Nat) (h:i<l.length) (h1:1≤i):risingB (l.drop (i-1))=(decide (l[i-1]<l[i])&&risingB (l.drop i)):=by
 rw[List.drop_eq_getElem_cons (show i-1<l.length by omega),show i-1+1=i by omega,List.drop_eq_getElem_cons h]
 rfl
theorem wp3 (l:List Int) (i:Nat) (h:l.length≤i) (h1:1≤i):risingB (l.drop (i-1))=true:=by
 by_cases h2:l.length=i
 ·rw[List.drop_eq_getElem_cons (show i-1<l.length by omega),List.drop_eq_nil_of_le (by omega)]
  rfl
 ·rw[List.drop_eq_nil_of_le (by omega)]
  rfl
theorem wkc (N:Nat){m:Nat}:∀(n:Nat) (l:List Int) (i:Nat),l.length-i<n→i≤l.length→l.length≤1099511627776 →
  weg N wh8 n l 0 ((m:Int)-1) i=some ((l.drop i).all (inB m)&&risingB (l.drop (i-1)),())
 | 0,_,_,h,_,_=>by omega
 | n+1,l,i,h,hi,hb=>by
  simp only[weg,wvk]
  by_cases hlt:i<l.length
  ·have e:decide (0≤l[i]∧l[i]≤(m:Int)-1)=inB m l[i]:=by
    unfold inB;congr 1;exact propext ⟨fun h=>⟨h.1,by omega⟩,fun h=>⟨h.1,by omega⟩⟩
   rw[cdt (by omega),jf l i hlt,obS,wrp,obS,e,wr (n:=(i:Int)+1) (by omega) (by omega),wr (n:=(i:Int)-1) (by omega) (by omega)]
   rw[show((i:Int)+1)=((i+1:Nat):Int) by omega,wkc N n l (i+1) (by omega) (by omega) hb]
   rw[show i+1-1=i by omega]
   cases hin:inB m l[i] with
   | false =>
    rw[List.drop_eq_getElem_cons hlt,List.all_cons,hin]
    rfl
   | true =>
    simp only[Bool.not_true,cond_false]
    by_cases h0:0<i
    ·rw[cdt (by omega),show((i:Int)-1)=((i-1:Nat):Int) by omega,jf l (i-1) (by omega),obS,obS,wlz l i hlt h0]
     by_cases hle:l[i]≤l[i-1]
     ·rw[cdt hle,decide_eq_false (by omega)]
      simp
     ·rw[cdf hle,decide_eq_true (show l[i-1]<l[i] by omega),List.drop_eq_getElem_cons hlt,List.all_cons,hin]
      simp
    ·rw[cdf (by omega)]
     have:i=0:=by omega
     subst this
     rw[show(0:Nat)-1=0 from rfl,List.drop_eq_getElem_cons hlt,List.all_cons,hin]
     simp
  ·rw[cdf (by omega),List.drop_eq_nil_of_le (by omega)]
   by_cases h1:1≤i
   ·rw[wp3 l i (by omega) h1];rfl
   ·have:l=[]:=List.eq_nil_of_length_eq_zero (by omega)
    subst this
    simp[risingB,wh8]
theorem wxr (N:Nat){m:Nat}:∀(n:Nat) (l:List Int) (i:Nat),l.length-i<n→i≤l.length→l.length≤1099511627776 →
  whe N wui n (m:Int) l (l.length:Int) i=some ((l.drop i).all (inB m),())
 | 0,_,_,h,_,_=>by omega
 | n+1,l,i,h,hi,hb=>by
  simp only[whe,wuj]
  by_cases hlt:i<l.length
  ·rw[cdt (by omega),jf l i hlt,obS,wr (n:=(i:Int)+1) (by omega) (by omega)]
   rw[show((i:Int)+1)=((i+1:Nat):Int) by omega,wxr N n l (i+1) (by omega) (by omega) hb]
   rw[List.drop_eq_getElem_cons hlt,List.all_cons]
   unfold inB
   by_cases h0:l[i]<0
   ·rw[cdt h0,decide_eq_false (by omega)];rfl
   ·rw[cdf h0]
    by_cases h1:(m:Int)≤l[i]
    ·rw[cdt h1,decide_eq_false (by omega)];rfl
    ·rw[cdf h1,decide_eq_true (by omega)];rfl
  ·rw[cdf (by omega),List.drop_eq_nil_of_le (by omega)]
   rfl
theorem w1k (N:Nat):∀(n:Nat) (l:List Int) (i:Nat),l.length-i<n→1≤i→l.length≤1099511627776→i≤1099511627777 →
  whd N wue n l i=some (risingB (l.drop (i-1)),())
 | 0,_,_,h,_,_,_=>by omega
 | n+1,l,i,h,hi,hb,hi2=>by
  simp only[whd,wuf]
  by_cases hlt:i<l.length
  ·rw[cdt (by omega),wr (n:=(i:Int)-1) (by omega) (by omega),show((i:Int)-1)=((i-1:Nat):Int) by omega,jf l (i-1) (by omega),obS,jf l i hlt,obS,wr (n:=(i:Int)+1) (by omega) (by omega)]
   rw[show((i:Int)+1)=((i+1:Nat):Int) by omega,w1k N n l (i+1) (by omega) (by omega) hb (by omega),wlz l i hlt hi,show i+1-1=i by omega]
   by_cases hle:l[i]≤l[i-1]
   ·rw[cdt hle,decide_eq_false (by omega)];rfl
   ·rw[cdf hle,decide_eq_true (by omega)];rfl
  ·rw[cdf (by omega),wp3 l i (by omega) hi]
   rfl
theorem wr1 {i:Nat}(h:i≤4611686018427387904):IntKind.i64.wrap ((i:Int)+1)=((i+1:Nat):Int):=by rw[wr (by omega) (by omega)];omega
abbrev PT:=List (List Int)×Unit
def pos (n:Nat) (le:Nat→Nat→Bool):PT:=(mkR n fun y=>cs (fl n fun x=>le x y),())
def leP (p:PT) (x y:Nat):Bool:=decide ((x:Int)∈p.1.getD y [])
structure Ord (n:Nat) (le:Nat→Nat→Bool):Prop where
 refl:∀x,x<n→le x x=true
 anti:∀x y,x<n→y<n→x≠y→le x y=true→le y x=false
 trans:∀x y z,x<n→y<n→z<n→le x y=true→le y z=true→le x z=true
structure Good (p:PT):Prop where
 len:p.1.length≤10
 rows:∀r∈p.1,isSetB p.1.length r=true
 ord:Ord p.1.length (leP p)
theorem wgn (l:List Int) (x:Int) (h:l.length≤4294967296):V14 big l x=some (decide (x∈l),()):=by
 unfold V14 w2b
 refine xld l.length (fun i=>x ∉ l.take i) (by omega) ?_ ?_ 0 (by omega) (by simp)
 ·intro rc i hi hv ih
  unfold wg1
  rw[cdt (by omega),jf l i hi,obS]
  by_cases hx:l[i]=x
  ·rw[cdt hx,decide_eq_true (hx▸List.getElem_mem hi)]
  ·rw[cdf hx,wr1 (by omega)]
   refine ih fun h => ?_
   rw[List.take_succ_eq_append_getElem hi,List.mem_append,List.mem_singleton]at h
   exact h.elim hv fun e=>hx e.symm
 ·intro rc hv
  unfold wg1
  rw[cdf (by omega),wdc,decide_eq_false (by simpa using hv)]
theorem wl8 (S:List Nat) (x:Nat) (h:S.length≤4294967296):V14 big (cs S) (x:Int)=some (decide (x∈S),()):=by
 rw[wgn _ _ (by simpa using h)]
 simp only[cs_mem]
theorem wyk (a b:List Int) (ha:a.length≤4294967296) (hb:b.length≤4294967296):V55 big a b=some (tv (∀x∈a,x∈b),()):=by
 unfold V55 w3e
 refine xl5 a.length (fun i=>∀x∈a.take i,x∈b) (by omega) ?_ ?_ 0 (by omega) (by simp)
 ·intro rc i hi hv ih
  unfold wia
  rw[cdt (by omega),jf a i hi,obS,wgn _ _ hb,obS]
  by_cases hx:a[i]∈b
  ·rw[decide_eq_true hx,wr1 (by omega)]
   exact ih ((qp hi).2 ⟨hv,hx⟩)
  ·rw[decide_eq_false hx,tv_f fun h=>hx (h _ (List.getElem_mem hi))]
   rfl
 ·intro rc hv
  unfold wia
  rw[cdf (by omega),weh,tv_t (by simpa using hv)]
theorem wgu (n:Nat) (s:List Int) (hn:n≤1099511627776) (hs:s.length≤1099511627775):V54 big s 0 ((n:Int)-1)=some (isSetB n s,()):=by
 have hb:=jp
 unfold V54 w3c wvi
 have:=wkc big (m:=n) big s 0 (by omega) (by omega) (by omega)
 rw[show weg big wh8 big s 0 ((n:Int)-1) 0=_ from this]
 rfl
theorem wj7 (n:Nat) (s:List Int) (hs:s.length≤1099511627775):V27 big s (n:Int)=some (s.all (inB n),()):=by
 have hb:=jp
 unfold V27 w2o wug
 have h1:=wxr big (m:=n) big s 0 (by omega) (by omega) (by omega)
 rw[show(0:Int)=((0:Nat):Int) from rfl,h1]
 rfl
theorem xga (s:List Int) (hs:s.length≤1099511627775):V26 big s=some (risingB s,()):=by
 have hb:=jp
 unfold V26 w2m wuc
 have h2:=w1k big big s 1 (by omega) (by omega) (by omega) (by omega)
 rw[show(1:Int)=((1:Nat):Int) from rfl,h2]
 rfl
theorem wly:∀{l:List Int},risingB l=true→l.Pairwise (·<·)
 | [],_=>List.Pairwise.nil
 | [x],_=>by simp
 | x::y::r,h=>by
  simp only[risingB,Bool.and_eq_true,decide_eq_true_eq]at h
  have h2:=wly h.2
  refine List.pairwise_cons.2 ⟨fun z hz => ?_,h2⟩
  rcases List.mem_cons.1 hz with rfl|hz
  ·exact h.1
  ·have:=(List.pairwise_cons.1 h2).1 z hz
   omega
theorem wlw:∀{l:List Int},l.Pairwise (·<·)→risingB l=true
 | [],_=>rfl
 | [x],_=>rfl
 | x::y::r,h=>by
  have h1:=List.pairwise_cons.1 h
  simp only[risingB,Bool.and_eq_true,decide_eq_true_eq]
  exact⟨h1.1 y (by simp),wlw h1.2⟩
theorem wx0:∀{l m:List Int},l.Pairwise (·<·)→m.Pairwise (·<·)→(∀x,x∈l↔x∈m)→l=m
 | [],[],_,_,_=>rfl
 | [],y::m,_,_,h=>by have:=(h y).2 (by simp);simp at this
 | x::l,[],_,_,h=>by have:=(h x).1 (by simp);simp at this
 | x::l,y::m,h1,h2,h=>by
  have p1:=List.pairwise_cons.1 h1
  have p2:=List.pairwise_cons.1 h2
  have e:x=y:=by
   rcases List.mem_cons.1 ((h x).1 (by simp)) with e|hx
   ·exact e
   ·rcases List.mem_cons.1 ((h y).2 (by simp)) with e|hy
    ·exact e.symm
    ·have:=p1.1 y hy
     have:=p2.1 x hx
     omega
  subst e
  congr 1
  refine wx0 p1.2 p2.2 fun z => ?_
  constructor
  ·intro hz
   rcases List.mem_cons.1 ((h z).1 (List.mem_cons_of_mem _ hz)) with e|hz2
   ·have:=p1.1 z hz;omega
   ·exact hz2
  ·intro hz
   rcases List.mem_cons.1 ((h z).2 (List.mem_cons_of_mem _ hz)) with e|hz2
   ·have:=p2.1 z hz;omega
   ·exact hz2
theorem w1b (n:Nat) (P:Nat→Bool):(cs (fl n P)).Pairwise (·<·):=by
 unfold cs fl
 rw[List.pairwise_map]
 refine List.Pairwise.filter _ ?_
 have:=List.pairwise_lt_range (n:=n)
 exact this.imp fun h=>by omega
theorem wb7 {n:Nat}{l:List Int}(h:isSetB n l=true):l=cs (fl n fun x=>decide ((x:Int)∈l)):=by
 unfold isSetB at h
 rw[Bool.and_eq_true]at h
 refine wx0 (wly h.2) (w1b _ _) fun x => ?_
 constructor
 ·intro hx
  have h1:=List.all_eq_true.1 h.1 x hx
  unfold inB at h1
  rw[decide_eq_true_eq]at h1
  have e:x=((x.toNat:Nat):Int):=by omega
  rw[e,cs_mem,fl_mem]
  refine⟨by omega,decide_eq_true ?_⟩
  rw[←e];exact hx
 ·intro hx
  unfold cs at hx
  obtain⟨y,hy,e⟩:=List.mem_map.1 hx
  have:=(fl_mem.1 hy).2
  rw[decide_eq_true_eq]at this
  exact e▸this
theorem w1c (n:Nat) (P:Nat→Bool):isSetB n (cs (fl n P))=true:=by
 unfold isSetB
 rw[Bool.and_eq_true]
 refine⟨List.all_eq_true.2 fun x hx => ?_,wlw (w1b n P)⟩
 unfold cs at hx
 obtain⟨y,hy,e⟩:=List.mem_map.1 hx
 have:=(fl_mem.1 hy).1
 unfold inB
 exact decide_eq_true (by omega)
theorem wx1 {p:PT}(h:∀r∈p.1,isSetB p.1.length r=true):p=pos p.1.length (leP p):=by
 unfold pos
 refine Prod.ext ?_ rfl
 refine jcg rfl fun i hi => ?_
 refine(wb7 (h _ (List.getElem_mem hi))).trans ?_
 refine congrArg cs (ux fun x hx => ?_)
 unfold leP
 simp[hi]
theorem wb (n:Nat) (le:Nat→Nat→Bool):(pos n le).1.length=n:=mkR_len n _
theorem wx2 (n:Nat) (le:Nat→Nat→Bool):∀r∈(pos n le).1,isSetB (pos n le).1.length r=true:=by
 intro r hr
 rw[wb]
 obtain⟨i,_,e⟩:=mkR_mem.1 hr
 exact e▸w1c _ _
theorem w1e {n:Nat}{le:Nat→Nat→Bool}{x y:Nat}(hx:x<n) (hy:y<n):leP (pos n le) x y=le x y:=by
 unfold leP pos
 simp only[List.getD_eq_getElem?_getD,ju hy,Option.getD_some,cs_mem,fl_mem,hx,true_and,Bool.decide_eq_true]
theorem Ord.congr {n:Nat}{le le':Nat→Nat→Bool}(e:∀x y,x<n→y<n→le x y=le' x y) (h:Ord n le):Ord n le' where
 refl x hx:=by rw[←e x x hx hx];exact h.refl x hx
 anti x y hx hy hxy h1:=by rw[←e y x hy hx];rw[←e x y hx hy]at h1;exact h.anti x y hx hy hxy h1
 trans x y z hx hy hz h1 h2:=by
  rw[←e x z hx hz];rw[←e x y hx hy]at h1;rw[←e y z hy hz]at h2
  exact h.trans x y z hx hy hz h1 h2
theorem xf2 {n:Nat}{le:Nat→Nat→Bool}:Good (pos n le)↔n≤10∧Ord n le:=by
 have e:∀x y,x<n→y<n→leP (pos n le) x y=le x y:=fun x y hx hy=>w1e hx hy
 constructor
 ·intro h
  have h1:=h.len;have h2:=h.ord
  rw[wb]at h1 h2
  exact⟨h1,h2.congr e⟩
 ·intro h
  refine⟨by rw[wb];exact h.1,wx2 n le, ?_⟩
  rw[wb]
  exact h.2.congr fun x y hx hy=>(e x y hx hy).symm
theorem Good.form {p:PT}(h:Good p):p=pos p.1.length (leP p):=wx1 h.rows
theorem wlu {n:Nat}(h:n≤4294967296):V25 big (n:Int)=some (mkT n fun _ _=>false,()):=by
 unfold V25 w2k
 rw[jar h,obS,obS,cdt (by omega),mkR_len]
 refine xlk n (fun i o=>o=mkR n fun x=>if x<i then mkR n fun _=>false else []) (by omega) ?_ ?_ 0 (by omega) _ (by simp)
 ·intro rc i o hi hv ih
  unfold whc
  rw[cdt (by omega),jar h,obS,obS,cdt (by omega),hv,jd hi,obS,Int.toNat_natCast,ju hi,obS,wr1 (by omega)]
  refine ih _ ?_
  rw[qy]
  refine jq fun x hx => ?_
  by_cases h1:x=i
  ·rw[if_pos h1,if_pos (by omega)]
  ·rw[if_neg h1]
   by_cases h2:x<i
   ·rw[if_pos h2,if_pos (by omega)]
   ·rw[if_neg h2,if_neg (by omega)]
 ·intro rc o hv
  unfold whc
  rw[cdf (by omega),hv,wdi]
  congr 2
  exact jq fun x hx=>by rw[if_pos hx]
theorem w5e {n:Nat}{le:Nat→Nat→Bool}(hn:n≤4294967296):V28 big (mkT n le)=some (tv (Ord n le),()):=by
 unfold V28 w2r
 rw[mkR_len]
 refine xll n (fun i=>∀x,x<i→le x x=true∧(∀y,y<n→(x≠y→le x y=true→le y x=false)∧∀z,z<n→le x y=true→le y z=true→le x z=true)) (by omega) ?_ ?_ 0 (by omega) (by intro x hx;omega)
 ·intro rc i hi hv ih
  unfold wdn
  rw[cdt (by omega),jd hi,obS,jd hi,obS,mkR_len]
  cases h0:le i i with
  | false =>
   rw[tv_f fun h=>by rw[h.refl i hi]at h0;cases h0]
   rfl
  | true =>
   rw[Bool.not_true,cond_false]
   refine xlm n (fun j=>∀y,y<j→(i≠y→le i y=true→le y i=false)∧∀z,z<n→le i y=true→le y z=true→le i z=true) (by omega) ?_ ?_ 0 (by omega) (by intro x hx;omega)
   ·intro rc2 j hj hv2 ih2
    have inn:(i≠j→le i j=true→le j i=false)→wan big rc2 (x5 rc) (mkT n le) (i:Int) (j:Int) (n:Int) (i:Int) (n:Int) (j:Int) (n:Int) ((0:Nat):Int)=some (tv (Ord n le),()):=by
     intro hij
     refine xiw n (fun k=>∀z,z<k→le i j=true→le j z=true→le i z=true) (by omega) ?_ ?_ 0 (by omega) (by intro x hx;omega)
     ·intro rc3 k hk hv3 ih3
      unfold wdm
      simp only[cdt (show(k:Int)<(n:Int) by omega),jd hi,jd hj,jd hk,obS,wr1 (show k≤4611686018427387904 by omega)]
      cases h1:le i j with
      | false=>exact ih3 (all_lt_succ.2 ⟨hv3,by intro h;rw[h1]at h;cases h⟩)
      | true =>
       cases h2:le j k with
       | false=>exact ih3 (all_lt_succ.2 ⟨hv3,by intro _ h;rw[h2]at h;cases h⟩)
       | true =>
        cases h3:le i k with
        | false =>
         rw[tv_f fun h=>by rw[h.trans i j k hi hj hk h1 h2]at h3;cases h3]
         rfl
        | true=>exact ih3 (all_lt_succ.2 ⟨hv3,fun _ _=>h3⟩)
     ·intro rc3 hv3
      unfold wdm
      rw[cdf (by omega),wao,wr1 (by omega)]
      exact ih2 (all_lt_succ.2 ⟨hv2,hij,hv3⟩)
    unfold wdo
    rw[cdt (by omega),jd hi,obS,jd hj,obS,jd hj,obS,jd hi,obS,mkR_len]
    by_cases hij:i=j
    ·rw[cdf (by omega)]
     exact inn fun h=>absurd hij h
    ·rw[cdt (by omega)]
     cases h1:le i j with
     | false=>exact inn fun _ h=>by rw[h1]at h;cases h
     | true =>
      cases h2:le j i with
      | false=>exact inn fun _ _=>h2
      | true =>
       rw[tv_f fun h=>by rw[h.anti i j hi hj hij h1]at h2;cases h2]
       rfl
   ·intro rc2 hv2
    unfold wdo
    rw[cdf (by omega),x5,wr1 (by omega)]
    exact ih (all_lt_succ.2 ⟨hv,h0,hv2⟩)
 ·intro rc hv
  unfold wdn
  rw[cdf (by omega),yv,tv_t]
  exact⟨fun x hx=>(hv x hx).1,fun x y hx hy=>((hv x hx).2 y hy).1,fun x y z hx hy hz=>((hv x hx).2 y hy).2 z hz⟩
theorem w1g {α:Type}{n:Nat}{f:Nat→Nat→α}{x y:Nat}{v:α}:(mkT n f).set x ((mkR n (f x)).set y v)=mkT n fun a b=>if a=x∧b=y then v else f a b:=by
 rw[qy]
 refine jq fun a ha => ?_
 by_cases h:a=x
 ·subst h
  rw[if_pos rfl,qy]
  exact jq fun b hb=>by simp
 ·rw[if_neg h]
  exact jq fun b hb=>by simp[h]
theorem wp1 (p:PT) (hl:p.1.length≤10) (hx:∀r∈p.1,r.length≤4294967296) :
  V29 big p=some (@ite _ (∀r∈p.1,isSetB p.1.length r=true) (Classical.propDecidable _) (mkT p.1.length (leP p),tv (Ord p.1.length (leP p)),()) ([],false,()),()):=by
 unfold V29 wsc
 generalize hn:p.1.length=n
 rw[cdf (by omega),wlu (by omega),obS]
 refine xln n (fun i o=>(∀j,j<i→∀(h:j<p.1.length),isSetB n p.1[j]=true)∧o=mkT n fun a b=>decide (b<i)&&leP p a b) (by omega) ?_ ?_ 0 (by omega) _ ⟨by intro j hj;omega,jw fun a b _ _=>by simp⟩
 ·intro rc i o hi hv ih
  obtain⟨hv1,hv2⟩:=hv
  unfold wdt
  have hip:i<p.1.length:=by omega
  have hrow:=hx _ (List.getElem_mem hip)
  rw[cdt (by omega),jf _ i hip,obS,xga _ (by omega),obS]
  cases h1:risingB p.1[i] with
  | false =>
   rw[if_neg fun h=>by have:=h _ (List.getElem_mem hip);unfold isSetB at this;rw[h1,Bool.and_false]at this;cases this]
   rfl
  | true =>
   rw[Bool.not_true,cond_false,wj7 n _ (by omega),obS]
   cases h2:p.1[i].all (inB n) with
   | false =>
    rw[if_neg fun h=>by have:=h _ (List.getElem_mem hip);unfold isSetB at this;rw[h2,Bool.false_and]at this;cases this]
    rfl
   | true =>
    rw[Bool.not_true,cond_false]
    have hset:isSetB n p.1[i]=true:=by unfold isSetB;rw[h1,h2];rfl
    have hle:∀a,leP p a i=decide ((a:Int)∈p.1[i]):=by intro a;unfold leP;simp[hip]
    have hform:=wb7 hset
    have hS:∀a,a∈fl n (fun x=>decide ((x:Int)∈p.1[i]))↔a<n∧leP p a i=true:=by
     intro a;rw[fl_mem,hle]
    generalize fl n (fun x=>decide ((x:Int)∈p.1[i]))=S at hform hS
    rw[hform,cs_len]
    refine xiz S.length (fun k o=>o=mkT n fun a b=>if b<i then leP p a b else decide (b=i∧a∈S.take k)) ?_ ?_ ?_ 0 (by omega) _ ?_
    ·have:=congrArg List.length hform
     rw[cs_len]at this
     have:=hx _ (List.getElem_mem hip)
     omega
    ·intro rc2 k o2 hk hv3 ih2
     have hkn:S[k]<n:=((hS _).1 (List.getElem_mem hk)).1
     have hkS:S.length≤4294967296:=by have:=congrArg List.length hform;rw[cs_len]at this;omega
     unfold wds
     simp only[cdt (show(k:Int)<(S.length:Int) by omega),jo hk,obS,hv3,jd hkn,Int.toNat_natCast,ju hkn,jd hi,ju hi,wr1 (show k≤4611686018427387904 by omega)]
     refine ih2 _ ?_
     rw[w1g]
     refine jw fun a b _ _ => ?_
     by_cases hb:b<i
     ·rw[if_pos hb,if_pos hb,if_neg (by omega)]
     ·rw[if_neg hb,if_neg hb]
      simp only[ur hk]
      by_cases hbi:b=i
      ·by_cases ha:a=S[k]
       ·simp[hbi,ha]
       ·simp[hbi,ha]
      ·simp[hbi]
    ·intro rc2 o2 hv3
     unfold wds
     rw[cdf (by omega),wap,wr1 (by omega)]
     refine ih _ ⟨fun j hj hjp => ?_, ?_⟩
     ·rcases Nat.lt_or_ge j i with h|h
      ·exact hv1 j h hjp
      ·have:j=i:=by omega
       subst this;exact hset
     ·rw[hv3]
      refine jw fun a b ha _ => ?_
      by_cases hb:b<i
      ·rw[if_pos hb];simp[show b<i+1 by omega]
      ·rw[if_neg hb,List.take_length]
       by_cases hbi:b=i
       ·subst hbi
        rw[decide_eq_true (show b<b+1 by omega),Bool.true_and]
        cases h:leP p a b with
        | true=>exact decide_eq_true ⟨rfl,(hS a).2 ⟨ha,h⟩⟩
        | false=>exact decide_eq_false fun h3=>by rw[((hS a).1 h3.2).2]at h;cases h
       ·simp[hbi,show ¬b<i+1 by omega]
    ·rw[hv2]
     refine jw fun a b _ _ => ?_
     by_cases hb:b<i
     ·simp[hb]
     ·simp[hb]
 ·intro rc o hv
  obtain⟨hv1,hv2⟩:=hv
  unfold wdt
  have ho:o=mkT n (leP p):=by rw[hv2];exact jw fun a b _ hb=>by simp[hb]
  rw[cdf (by omega),yw,ho,w5e (by omega),obS,if_pos]
  intro r hr
  obtain⟨j,hj,e⟩:=List.getElem_of_mem hr
  exact e▸hv1 j (by omega) hj
theorem wym (p:PT) (hl:¬p.1.length≤10):V29 big p=some (([],false,()),()):=by
 unfold V29 wsc
 rw[cdt (by omega)]
theorem w5i (p:PT) (hx:∀r∈p.1,r.length≤4294967296) (h:¬Good p):∃T,V29 big p=some ((T,false,()),()):=by
 by_cases hl:p.1.length≤10
 ·rw[wp1 p hl hx]
  by_cases hr:∀r∈p.1,isSetB p.1.length r=true
  ·rw[if_pos hr,tv_f fun ho=>h ⟨hl,hr,ho⟩]
   exact⟨_,rfl⟩
  ·rw[if_neg hr]
   exact⟨_,rfl⟩
 ·exact⟨_,wym p hl⟩
theorem wlv {n:Nat}{le:Nat→Nat→Bool}(hn:n≤10) (ho:Ord n le):V29 big (pos n le)=some ((mkT n le,true,()),()):=by
 have e:∀x y,x<n→y<n→leP (pos n le) x y=le x y:=fun x y hx hy=>w1e hx hy
 rw[wp1 _ (by rw[wb];exact hn) ?_,if_pos (wx2 n le),wb,tv_t (ho.congr fun x y hx hy=>(e x y hx hy).symm)]
 ·congr 3
  exact jw fun x y hx hy=>e x y hx hy
 ·intro r hr
  obtain⟨i,_,h⟩:=mkR_mem.1 hr
  rw[←h,cs_len]
  have:=jh n fun x=>le x i
  omega
theorem wf4 {n x:Nat}{le:Nat→Nat→Bool}(hx:x<n):atI (pos n le).1 (x:Int)=some (cs (fl n fun a=>le a x)):=jd hx
theorem wu {n x y:Nat}{le:Nat→Nat→Bool}(hn:n≤4294967296) (hx:x<n) (hy:y<n):V15 (pos n le) (x:Int) (y:Int)=some (le x y,()):=by
 unfold V15 xgg
 have:=jh n fun a=>le a y
 rw[wf4 hy,obS,wl8 _ _ (by omega),obS]
 congr 2
 rw[Bool.eq_iff_iff,decide_eq_true_eq,fl_mem]
 simp[hx]
theorem wr0 {n:Nat}{P Q:Nat→Bool}(hn:n≤4294967296):V55 big (cs (fl n P)) (cs (fl n Q))=some (tv (∀x,x<n→P x=true→Q x=true),()):=by
 have h1:=jh n P
 have h2:=jh n Q
 rw[wyk _ _ (by rw[cs_len];omega) (by rw[cs_len];omega)]
 congr 2
 refine qr ⟨fun h x hx hp => ?_,fun h x hx => ?_⟩
 ·exact(fl_mem.1 (cs_mem.1 (h _ (cs_mem.2 (fl_mem.2 ⟨hx,hp⟩))))).2
 ·unfold cs at hx
  obtain⟨y,hy,e⟩:=List.mem_map.1 hx
  have:=fl_mem.1 hy
  rw[←e]
  exact cs_mem.2 (fl_mem.2 ⟨this.1,h y this.1 this.2⟩)
theorem wx6 (p:PT) (hx:∀r∈p.1,r.length≤4294967296):V56 big p=some (tv (Good p),()):=by
 unfold V56 w3i
 by_cases hl:p.1.length≤10
 ·generalize hn:p.1.length=n
  rw[cdf (by omega)]
  refine xl6 n (fun i=>∀j,j<i→∀(h:j<p.1.length),isSetB n p.1[j]=true∧leP p j j=true) (by omega) ?_ ?_ 0 (by omega) (by intro j hj;omega)
  ·intro rc i hi hv ih
   have hip:i<p.1.length:=by omega
   have hrow:=hx _ (List.getElem_mem hip)
   have hle:∀a,leP p a i=decide ((a:Int)∈p.1[i]):=by intro a;unfold leP;simp[hip]
   unfold wic
   rw[cdt (by omega),jf _ i hip,obS,wr (by omega) (by omega),wgu n _ (by omega) (by omega),obS]
   cases h1:isSetB n p.1[i] with
   | false =>
    rw[tv_f fun h=>by have:=h.rows _ (List.getElem_mem hip);rw[hn,h1]at this;cases this]
    rfl
   | true =>
    rw[Bool.not_true,cond_false,obS,wgn _ _ hrow,obS,←hle]
    cases h2:leP p i i with
    | false =>
     rw[tv_f fun h=>by have:=h.ord.refl i hip;rw[h2]at this;cases this]
     rfl
    | true =>
     rw[Bool.not_true,cond_false,wr1 (by omega)]
     refine ih fun j hj hjp => ?_
     rcases Nat.lt_or_ge j i with h|h
     ·exact hv j h hjp
     ·have:j=i:=by omega
      subst this;exact⟨h1,h2⟩
  ·intro rc hv
   unfold wic
   rw[cdf (by omega),wek]
   have hrows:∀r∈p.1,isSetB p.1.length r=true:=by
    intro r hr
    obtain⟨j,hj,e⟩:=List.getElem_of_mem hr
    rw[hn]
    exact e▸(hv j (by omega) hj).1
   have hform:=wx1 hrows
   have hrefl:∀x,x<n→leP p x x=true:=fun x hxn=>(hv x hxn (by omega)).2
   generalize leP p=le at hform hrefl
   rw[hn]at hform
   subst hform
   rw[qr xf2]
   refine xjk n (fun i=>∀x,x<i→∀y,y<n→le y x=true→(y≠x→le x y=false)∧∀z,z<n→le z y=true→le z x=true) (by omega) ?_ ?_ 0 (by omega) (by intro j hj;omega)
   ·intro rc2 i hi hv2 ih2
    unfold wau
    rw[cdt (by omega)]
    have hS:∀a,a∈fl n (fun a=>le a i)↔a<n∧le a i=true:=fun a=>fl_mem
    have hSl:=jh n fun a=>le a i
    refine xjl (fl n fun a=>le a i).length (fun k=>∀y∈(fl n fun a=>le a i).take k,(y≠i→le i y=false)∧∀z,z<n→le z y=true→le z i=true) (by omega) ?_ ?_ 0 (by omega) (by simp)
    ·intro rc3 k hk hv3 ih3
     have hk2:=(hS _).1 (List.getElem_mem hk)
     have hk3:=jo hk
     have hk4:∀{P:Nat→Prop},(∀y∈(fl n fun a=>le a i).take (k+1),P y)↔_:=qp hk
     unfold wel
     generalize (fl n fun a=>le a i)[k]=y at hk2 hk3 hk4
     have hkl:=jh n fun a=>le a y
     simp only[wf4 hi,obS,cs_len,cdt (show(k:Int)<((fl n fun a=>le a i).length:Int) by omega),hk3,wf4 hk2.1,wl8 (fl n fun a=>le a y) i (by omega),wr0 (P:=fun a=>le a y) (Q:=fun a=>le a i) (show n≤4294967296 by omega),wr1 (show k≤4611686018427387904 by omega)]
     have e1:decide (i∈fl n fun a=>le a y)=le i y:=by
      rw[Bool.eq_iff_iff,decide_eq_true_eq,fl_mem];simp[hi]
     rw[e1]
     have key:(y≠i→le i y=false)→cond (!tv (∀x,x<n→le x y=true→le x i=true)) (some (false,())) (rc3 (pos n le) (n:Int) (i:Int) ((k+1:Nat):Int))=some (tv (n≤10∧Ord n le),()):=by
      intro h1
      by_cases h2:∀x,x<n→le x y=true→le x i=true
      ·rw[tv_t h2]
       exact ih3 (hk4.2 ⟨hv3,h1,h2⟩)
      ·rw[tv_f h2,tv_f fun h=>h2 fun x hxn h3=>h.2.trans _ _ _ hxn hk2.1 hi h3 hk2.2]
       rfl
     by_cases h1:y=i
     ·rw[cdf (by omega)]
      exact key fun h=>absurd h1 h
     ·rw[cdt (by omega)]
      cases h2:le i y with
      | true =>
       rw[tv_f (P:=n≤10∧Ord n le) fun h=>by rw[h.2.anti _ _ hk2.1 hi h1 hk2.2]at h2;cases h2]
       rfl
      | false =>
       rw[cond_false]
       exact key fun _=>h2
    ·intro rc3 hv3
     rw[List.take_length]at hv3
     unfold wel
     rw[wf4 hi,obS,cs_len,cdf (by omega),wat,wr1 (by omega)]
     exact ih2 (all_lt_succ.2 ⟨hv2,fun y hy hyi=>hv3 y ((hS y).2 ⟨hy,hyi⟩)⟩)
   ·intro rc2 hv2
    unfold wau
    rw[cdf (by omega),xr,tv_t]
    refine⟨by rw[wb]at hl;exact hl,fun x hx=>hrefl x hx,fun x y hx hy hxy h=>((hv2 y hy x hx h).1 hxy),fun x y z hx hy hz h1 h2=>(hv2 z hz y hy h2).2 x hx h1⟩
 ·rw[cdt (by omega),tv_f fun h=>hl h.len]
abbrev du (le:Nat→Nat→Bool):Nat→Nat→Bool:=fun x y=>le y x
def low (n:Nat) (le:Nat→Nat→Bool) (S:List Nat):List Nat:=fl n fun z=>S.all fun s=>le z s
def grt (le:Nat→Nat→Bool) (L:List Nat):Int:=match L.find? fun x=>L.all fun y=>le y x with
 | some x=>(x:Int)
 | none => -1
def bnd (n:Nat) (le:Nat→Nat→Bool) (S:List Nat):Int:=grt le (low n le S)
structure IsGlb (n:Nat) (le:Nat→Nat→Bool) (S:List Nat) (m:Nat):Prop where
 lt:m<n
 lo:∀s∈S,le m s=true
 gr:∀z,z<n→(∀s∈S,le z s=true)→le z m=true
theorem low_mem {n:Nat}{le:Nat→Nat→Bool}{S:List Nat}{z:Nat}:z∈low n le S↔z<n∧∀s∈S,le z s=true:=by
 unfold low
 rw[fl_mem,List.all_eq_true]
theorem wpw {n:Nat}{le:Nat→Nat→Bool}{S:List Nat}(h:0≤bnd n le S):IsGlb n le S (bnd n le S).toNat:=by
 unfold bnd grt at *
 cases hf:(low n le S).find? fun x=>(low n le S).all fun y=>le y x with
 | none=>rw[hf]at h;exact absurd h (by decide)
 | some x =>
  have h1:=List.find?_some hf
  have h2:=low_mem.1 (List.mem_of_find?_eq_some hf)
  simp only[Int.toNat_natCast]
  exact⟨h2.1,h2.2,fun z hz hs=>List.all_eq_true.1 h1 z (low_mem.2 ⟨hz,hs⟩)⟩
theorem w5b {n:Nat}{le:Nat→Nat→Bool}(ho:Ord n le){S:List Nat}{m k:Nat}(h:IsGlb n le S m) (h2:IsGlb n le S k):m=k:=by
 by_cases e:m=k
 ·exact e
 ·have h3:=h.gr k h2.lt h2.lo
  have h4:=h2.gr m h.lt h.lo
  have:=ho.anti m k h.lt h2.lt e h4
  rw[this]at h3;cases h3
theorem zr {n:Nat}{le:Nat→Nat→Bool}(ho:Ord n le){S:List Nat}{m:Nat}(h:IsGlb n le S m):bnd n le S=(m:Int):=by
 have h0:0≤bnd n le S:=by
  unfold bnd grt
  cases hf:(low n le S).find? fun x=>(low n le S).all fun y=>le y x with
  | none =>
   have:=List.find?_eq_none.1 hf m (low_mem.2 ⟨h.lt,h.lo⟩)
   exact absurd (List.all_eq_true.2 fun y hy=>h.gr y (low_mem.1 hy).1 (low_mem.1 hy).2) this
  | some x=>simp
 have:=w5b ho (wpw h0) h
 omega
theorem wye {n:Nat}{le:Nat→Nat→Bool}{L:List Nat}(hL:∀x∈L,x<n) (hl:L.length≤4294967296):V30 big (mkT n le) (cs L)=some (grt le L,()):=by
 unfold V30 w2t
 rw[cs_len]
 refine xlo L.length (fun i=>∀x∈L.take i,¬(L.all fun y=>le y x)=true) (by omega) ?_ ?_ 0 (by omega) (by simp)
 ·intro rc i hi hv ih
  have hx:=hL _ (List.getElem_mem hi)
  have hh := @jgn _ L (fun x=>L.all fun y=>le y x) i hi hv
  have hn:=fun h=>ih ((qp hi).2 ⟨hv,h⟩)
  unfold wdw
  rw[cdt (by omega),jo hi,obS,cs_len]
  generalize L[i]=x at hx hh hn
  refine xlp L.length (fun k b=>b=(L.take k).all fun y=>le y x) (by omega) ?_ ?_ 0 (by omega) _ rfl
  ·intro rc2 k b hk hb ih2
   have hy:=hL _ (List.getElem_mem hk)
   have ht := @jd9 _ L k hk fun y=>le y x
   have ha:=jo hk
   unfold whi
   rw[cdt (by omega),ha,obS,wr1 (by omega)]
   generalize L[k]=y at hy ht
   cases b with
   | false=>exact ih2 _ (by rw[ht,←hb];rfl)
   | true =>
    rw[cond_true,jd hy,obS,jd hx,obS]
    exact ih2 _ (by rw[ht,←hb];rfl)
  ·intro rc2 b hb
   rw[List.take_length]at hb
   unfold whi
   rw[cdf (by omega),wdv,hb]
   cases h:L.all fun y=>le y x with
   | true =>
    rw[cond_true]
    unfold grt
    rw[hh h]
   | false =>
    rw[cond_false,wr1 (by omega)]
    exact hn (by rw[h];simp)
 ·intro rc hv
  rw[List.take_length]at hv
  unfold wdw
  rw[cdf (by omega),yx]
  unfold grt
  rw[List.find?_eq_none.2 hv]
theorem low2 {n:Nat}{le:Nat→Nat→Bool}{x y:Nat}:low n le [x,y]=fl n fun z=>le z x&&le z y:=by
 unfold low
 congr 1;funext z;simp
theorem w5m {n:Nat}{le:Nat→Nat→Bool}(hn:n≤1048576){x y:Nat}(hx:x<n) (hy:y<n):V32 big (mkT n le) (mkT n le,(x:Int),(y:Int),())=some (cs (low n le [x,y]),()):=by
 unfold V32 w2u
 rw[mkR_len,low2]
 refine xlq n (fun i l=>l=cs (fl i fun z=>le z x&&le z y)) (by omega) ?_ ?_ 0 (by omega) _ rfl
 ·intro rc i l hi hv ih
  have hl:=jh i fun z=>le z x&&le z y
  unfold whk V31 xgn
  simp only[cdt (show(i:Int)<(n:Int) by omega),jd hi,jd hx,jd hy,obS,wr1 (show i≤4611686018427387904 by omega)]
  cases h1:le i x with
  | false=>exact ih _ (by rw[hv];exact fl_f (P:=fun z=>le z x&&le z y) (by simp[h1]))
  | true =>
   simp only[cond_true,obS]
   cases h2:le i y with
   | false=>exact ih _ (by rw[hv];exact fl_f (P:=fun z=>le z x&&le z y) (by simp[h1,h2]))
   | true =>
    rw[cond_true,app1 (by rw[hv,cs_len];omega),obS]
    exact ih _ (by rw[hv];exact fl_t (P:=fun z=>le z x&&le z y) (by simp[h1,h2]))
 ·intro rc l hv
  unfold whk
  rw[cdf (by omega),wdx,hv]
theorem xd8 {n:Nat}{le:Nat→Nat→Bool}{S:List Nat}:∀x∈low n le S,x<n:=fun x hx=>(low_mem.1 hx).1
theorem w1f {n:Nat}{le:Nat→Nat→Bool}{S:List Nat}:(low n le S).length≤n:=jh _ _
theorem ya {n:Nat}{le:Nat→Nat→Bool}(hn:n≤1048576):V33 big (mkT n le)=some (@ite _ (∀x y,x<n→y<n→0≤bnd n le [x,y]) (Classical.propDecidable _) (mkT n fun x y=>bnd n le [x,y],true,()) ([],false,()),()):=by
 unfold V33 w2w
 rw[mkR_len]
 refine xlr n (fun i t=>t=(mkR i fun x=>mkR n fun y=>bnd n le [x,y])∧∀x,x<i→∀y,y<n→0≤bnd n le [x,y]) (by omega) ?_ ?_ 0 (by omega) _ ⟨rfl,by intro x hx;omega⟩
 ·intro rc i t hi hv ih
  unfold wd0
  rw[cdt (by omega),mkR_len]
  refine xls n (fun j r=>r=(mkR j fun y=>bnd n le [i,y])∧∀y,y<j→0≤bnd n le [i,y]) (by omega) ?_ ?_ 0 (by omega) _ ⟨rfl,by intro x hx;omega⟩
  ·intro rc2 j r hj hr ih2
   unfold whn
   rw[cdt (by omega),w5m hn hi hj,obS,wye xd8 (by have := @w1f n le [i,j];omega),obS]
   show cond (decide (bnd n le [i,j]<0)) _ ((appI r [bnd n le [i,j]]).bind _)=_
   by_cases h:0≤bnd n le [i,j]
   ·rw[cdf (by omega),app1 (by rw[hr.1,mkR_len];omega),obS,wr1 (by omega)]
    exact ih2 _ ⟨by rw[hr.1];exact(jv j _).symm,all_lt_succ.2 ⟨hr.2,h⟩⟩
   ·rw[cdt (by omega),if_neg fun h2=>h (h2 i j hi hj)]
  ·intro rc2 r hr
   unfold whn
   rw[cdf (by omega),wdz,app1 (by rw[hv.1,mkR_len];omega),obS,wr1 (by omega)]
   refine ih _ ⟨?_,all_lt_succ.2 ⟨hv.2,hr.2⟩⟩
   rw[hv.1,hr.1]
   exact(jv i fun x=>mkR n fun y=>bnd n le [x,y]).symm
 ·intro rc t hv
  unfold wd0
  rw[cdf (by omega),yz,if_pos fun x y hx hy=>hv.2 x hx y hy,hv.1]
theorem w1a {n:Nat}{le:Nat→Nat→Bool}(hn:n≤1048576):V34 big (mkT n le)=some (mkT n (du le),()):=by
 unfold V34 w2x
 rw[mkR_len,wlu (by omega),obS]
 refine xlt n (fun i d=>d=mkT n fun a b=>decide (a<i)&&le b a) (by omega) ?_ ?_ 0 (by omega) _ (jw fun a b _ _=>by simp)
 ·intro rc i d hi hv ih
  unfold wd3
  rw[cdt (by omega),mkR_len]
  refine xlu n (fun j d=>d=mkT n fun a b=>(decide (a<i)||decide (a=i)&&decide (b<j))&&le b a) (by omega) ?_ ?_ 0 (by omega) _ (by rw[hv];exact jw fun a b _ _=>by simp)
  ·intro rc2 j d2 hj hv2 ih2
   unfold whq
   generalize hf:(fun a b=>(decide (a<i)||decide (a=i)&&decide (b<j))&&le b a)=f at hv2
   simp only[cdt (show(j:Int)<(n:Int) by omega),hv2,jd hi,ju hi,obS,jd hj,ju hj,Int.toNat_natCast,wr1 (show j≤4611686018427387904 by omega)]
   refine ih2 _ ?_
   rw[w1g,←hf]
   refine jw fun a b _ _ => ?_
   by_cases h1:a=i
   ·subst h1
    by_cases h2:b=j
    ·subst h2;simp
    ·rw[if_neg fun h=>h2 h.2,show decide (b<j+1)=decide (b<j) from decide_eq_decide.2 (by omega)]
   ·rw[if_neg fun h=>h1 h.1];simp[h1]
  ·intro rc2 d2 hv2
   unfold whq
   rw[cdf (by omega),wd2,wr1 (by omega)]
   refine ih _ ?_
   rw[hv2]
   refine jw fun a b _ hb => ?_
   congr 1
   rw[decide_eq_true hb,Bool.and_true,←Bool.decide_or]
   exact decide_eq_decide.2 (by omega)
 ·intro rc d hv
  unfold wd3
  rw[cdf (by omega),y5,hv]
  congr 2
  exact jw fun a b ha _=>by simp[ha]
structure Lat (n:Nat) (le:Nat→Nat→Bool):Prop where
 ne:0<n
 meet:∀x y,x<n→y<n→0≤bnd n le [x,y]
 join:∀x y,x<n→y<n→0≤bnd n (du le) [x,y]
def mt (n:Nat) (le:Nat→Nat→Bool) (x y:Nat):Nat:=(bnd n le [x,y]).toNat
def gb (n:Nat) (le:Nat→Nat→Bool) (S:List Nat):Nat:=(bnd n le S).toNat
def lat (n:Nat) (le:Nat→Nat→Bool):List (List Bool)×List (List Int)×List (List Int)×Unit :=
 (mkT n le,mkT n (fun x y=>((mt n le x y:Nat):Int)),mkT n (fun x y=>((mt n (du le) x y:Nat):Int)),())
structure LatP (n:Nat) (le:Nat→Nat→Bool):Prop where
 le10:n≤10
 ord:Ord n le
 lat:Lat n le
theorem wr7 {n:Nat}{le:Nat→Nat→Bool}(h:LatP n le):V35 (pos n le)=some ((some (lat n le),true,()),()):=by
 have h10:=h.le10
 have h0:=h.lat.ne
 unfold V35 wsh
 simp only[wlv h.le10 h.ord,obS,Bool.not_true,cond_false,mkR_len,cdf (show ¬((n:Int)=0) by omega),ya (le:=le) (show n≤1048576 by omega),w1a (le:=le) (show n≤1048576 by omega),ya (le:=du le) (show n≤1048576 by omega)]
 rw[if_pos h.lat.meet,if_pos h.lat.join]
 simp only[cond_true]
 have e1:(mkT n fun x y=>bnd n le [x,y])=mkT n fun x y=>((mt n le x y:Nat):Int):=jw fun x y hx hy=>by
  have:=h.lat.meet x y hx hy
  unfold mt;omega
 have e2:(mkT n fun x y=>bnd n (du le) [x,y])=mkT n fun x y=>((mt n (du le) x y:Nat):Int):=jw fun x y hx hy=>by
  have:=h.lat.join x y hx hy
  unfold mt;omega
 rw[e1,e2]
 rfl
theorem wxx {p:PT}(hx:∀r∈p.1,r.length≤4294967296) (h:¬(Good p∧Lat p.1.length (leP p))):∃l,V35 p=some ((l,false,()),()):=by
 by_cases hg:Good p
 ·have hf:=hg.form
  have ho:=hg.ord
  have h10:=hg.len
  replace h:¬Lat p.1.length (leP p):=fun hl=>h ⟨hg,hl⟩
  generalize p.1.length=n at *
  generalize leP p=le at *
  subst hf
  unfold V35 wsh
  simp only[wlv h10 ho,obS,Bool.not_true,cond_false,mkR_len,ya (le:=le) (show n≤1048576 by omega),w1a (le:=le) (show n≤1048576 by omega),ya (le:=du le) (show n≤1048576 by omega)]
  by_cases h0:n=0
  ·rw[cdt (by omega)]
   exact⟨_,rfl⟩
  ·rw[cdf (by omega)]
   by_cases h1:∀x y,x<n→y<n→0≤bnd n le [x,y]
   ·rw[if_pos h1]
    by_cases h2:∀x y,x<n→y<n→0≤bnd n (du le) [x,y]
    ·exact absurd ⟨by omega,h1,h2⟩ h
    ·rw[if_neg h2]
     exact⟨_,rfl⟩
   ·rw[if_neg h1]
    exact⟨_,rfl⟩
 ·obtain⟨T,hT⟩:=w5i p hx hg
  unfold V35 wsh
  rw[hT,obS]
  exact⟨_,rfl⟩
theorem yb {n:Nat}{le:Nat→Nat→Bool}(hn:n≤1048576):V57 big (pos n le)=some (pos n (du le),()):=by
 unfold V57 w3j
 refine xl7 n (fun i o=>o.1=mkR i fun y=>cs (fl n fun x=>le y x)) (by omega) ?_ ?_ 0 (by omega) _ rfl
 ·intro rc i o hi hv ih
  unfold weo
  rw[wb,cdt (by omega)]
  refine xl8 n (fun j l=>l=cs (fl j fun x=>le i x)) (by omega) ?_ ?_ 0 (by omega) _ rfl
  ·intro rc2 j l hj hl ih2
   have hlen:=jh j fun x=>le i x
   unfold wif
   rw[wb,cdt (by omega),wu (by omega) hi hj,obS,wr1 (by omega)]
   cases h:le i j with
   | true =>
    rw[cond_true,app1 (by rw[hl,cs_len];omega),obS]
    exact ih2 _ (by rw[hl];exact fl_t (P:=fun x=>le i x) h)
   | false=>exact ih2 _ (by rw[hl];exact fl_f (P:=fun x=>le i x) h)
  ·intro rc2 l hl
   unfold wif
   rw[wb,cdf (by omega),wen,app1 (by rw[hv,mkR_len];omega),obS,wr1 (by omega)]
   exact ih _ (by rw[hl];show o.1++_=_;rw[hv];exact(jv i fun y=>cs (fl n fun x=>le y x)).symm)
 ·intro rc o hv
  unfold weo
  rw[wb,cdf (by omega),y9]
  unfold pos
  congr 2
  exact Prod.ext hv rfl
theorem wy {n:Nat}{le:Nat→Nat→Bool}(hn:n≤1048576){S:List Nat}(hS:∀s∈S,s<n) (hSl:S.length≤4294967296):V58 big (pos n le) (cs S)=some (bnd n le S,()):=by
 unfold V58 w3l
 refine xl9 n (fun i l=>l=cs (fl i fun z=>S.all fun s=>le z s)) (by omega) ?_ ?_ 0 (by omega) _ rfl
 ·intro rc i l hi hv ih
  have hlen:=jh i fun z=>S.all fun s=>le z s
  unfold wet
  rw[wb,cdt (by omega)]
  refine xma S.length (fun k b=>b=(S.take k).all fun s=>le i s) (by omega) ?_ ?_ 0 (by omega) _ rfl
  ·intro rc2 k b hk hb ih2
   have hs:=hS _ (List.getElem_mem hk)
   have ht := @jd9 _ S k hk fun s=>le i s
   have ha:=jo hk
   unfold wii
   rw[cs_len,cdt (by omega),ha,obS,wr1 (by omega)]
   generalize S[k]=s at hs ht
   rw[wu (by omega) hi hs,obS]
   cases b with
   | true=>exact ih2 _ (by rw[ht,←hb];rfl)
   | false=>exact ih2 _ (by rw[ht,←hb];rfl)
  ·intro rc2 b hb
   rw[List.take_length]at hb
   unfold wii
   rw[cs_len,cdf (by omega),wer,wr1 (by omega)]
   cases b with
   | true =>
    rw[cond_true,app1 (by rw[hv,cs_len];omega),obS]
    exact ih _ (by rw[hv];exact fl_t (P:=fun z=>S.all fun s=>le z s) hb.symm)
   | false=>exact ih _ (by rw[hv];exact fl_f (P:=fun z=>S.all fun s=>le z s) hb.symm)
 ·intro rc l hv
  unfold wet
  rw[wb,cdf (by omega),za]
  replace hv:l=cs (low n le S):=hv
  rw[hv]
  have hll := @w1f n le S
  unfold bnd
  have hlt := @xd8 n le S
  have hfl:low n le S=fl n fun z=>S.all fun s=>le z s:=rfl
  have hw:∀x,x<n→V55 big (cs (low n le S)) (cs (fl n fun a=>le a x))=some ((low n le S).all fun y=>le y x,()):=by
   intro x hx
   rw[hfl,wr0 (by omega),←hfl]
   congr 2
   exact ja7 (by rw[List.all_eq_true];exact⟨fun h y hy hp=>h y (fl_mem.2 ⟨hy,hp⟩),fun h y hy=>h y (fl_mem.1 hy).1 (fl_mem.1 hy).2⟩)
  generalize low n le S=L at *
  refine xjp L.length (fun i=>∀x∈L.take i,¬(L.all fun y=>le y x)=true) (by omega) ?_ ?_ 0 (by omega) (by simp)
  ·intro rc2 i hi hv2 ih2
   have hx:=hlt _ (List.getElem_mem hi)
   have hh := @jgn _ L (fun x=>L.all fun y=>le y x) i hi hv2
   have hn2:=fun h=>ih2 ((qp hi).2 ⟨hv2,h⟩)
   have ha:=jo hi
   have hg:=jz hi
   unfold wes
   simp only[cs_len,cdt (show(i:Int)<(L.length:Int) by omega),ha,obS,Int.toNat_natCast,hg,wr1 (show i≤4611686018427387904 by omega)]
   generalize L[i]=x at hx hh hn2
   rw[wf4 hx,obS,hw x hx,obS]
   cases h:L.all fun y=>le y x with
   | true =>
    rw[cond_true]
    unfold grt
    rw[hh h]
   | false =>
    rw[cond_false]
    exact hn2 (by rw[h];simp)
  ·intro rc2 hv2
   rw[List.take_length]at hv2
   unfold wes
   rw[cs_len,cdf (by omega),wav]
   unfold grt
   rw[List.find?_eq_none.2 hv2]
theorem wgg {n:Nat}{le:Nat→Nat→Bool}(x y:Nat):bnd n le [x,y]=bnd n le [y,x]:=by
 unfold bnd
 congr 1
 unfold low
 congr 1;funext z;simp[Bool.and_comm]
theorem Ord.du {n:Nat}{le:Nat→Nat→Bool}(h:Ord n le):Ord n (du le) where
 refl:=h.refl
 anti x y hx hy hxy h1:=by
  have h3:le y x=true:=h1
  show le x y=false
  by_cases h2:le x y=true
  ·rw[h.anti x y hx hy hxy h2]at h3;cases h3
  ·simpa using h2
 trans x y z hx hy hz h1 h2:=h.trans z y x hz hy hx h2 h1
theorem wl3 {n:Nat}{le:Nat→Nat→Bool}(ho:Ord n le){x:Nat}(hx:x<n):bnd n le [x,x]=(x:Int) :=
 zr ho ⟨hx,by simp[ho.refl x hx],fun z _ h=>h x (by simp)⟩
theorem wrz (p:PT) (hx:∀r∈p.1,r.length≤4294967296):V59 big p=some (tv (Good p∧Lat p.1.length (leP p)),()):=by
 unfold V59 w3m
 rw[wx6 p hx,obS]
 by_cases hg:Good p
 ·rw[tv_t hg]
  have e:(Good p∧Lat p.1.length (leP p))↔Lat p.1.length (leP p):=⟨fun h=>h.2,fun h=>⟨hg,h⟩⟩
  rw[qr e,Bool.not_true,cond_false]
  have hf:=hg.form
  have ho:=hg.ord
  have h10:=hg.len
  clear e hg hx
  generalize p.1.length=n at *
  generalize leP p=le at *
  subst hf
  by_cases h0:n=0
  ·rw[cdt (by omega),tv_f fun h=>by have:=h.ne;omega]
  ·rw[cdf (by omega),yb (by omega),obS]
   have key:∀x y,x<n→y<n→(0≤bnd n le [x,y]↔0≤bnd n le [y,x]):=fun x y _ _=>by rw[wgg]
   refine xmb n (fun i=>∀x,x<i→∀y,y<x→0≤bnd n le [x,y]∧0≤bnd n (du le) [x,y]) (by omega) ?_ ?_ 0 (by omega) (by intro x hx;omega)
   ·intro rc i hi hv ih
    unfold wew
    rw[wb,cdt (by omega)]
    refine xmc i (fun j=>∀y,y<j→0≤bnd n le [i,y]∧0≤bnd n (du le) [i,y]) (by omega) ?_ ?_ 0 (by omega) (by intro x hx;omega)
    ·intro rc2 j hj hv2 ih2
     unfold wil
     have e:([(i:Int),(j:Int)]:List Int)=cs [i,j]:=rfl
     have hS:∀s∈[i,j],s<n:=by intro s hs;simp at hs;omega
     rw[cdt (by omega),e,wy (by omega) hS (by simp),obS,wy (le:=du le) (by omega) hS (by simp),obS]
     by_cases h1:0≤bnd n le [i,j]
     ·rw[cdf (by omega)]
      by_cases h2:0≤bnd n (du le) [i,j]
      ·rw[cdf (by omega),wr1 (by omega)]
       exact ih2 (all_lt_succ.2 ⟨hv2,h1,h2⟩)
      ·rw[cdt (by omega),tv_f fun h=>h2 (h.join i j hi (by omega))]
     ·rw[cdt (by omega),tv_f fun h=>h1 (h.meet i j hi (by omega))]
    ·intro rc2 hv2
     unfold wil
     rw[cdf (by omega),wev,wr1 (by omega)]
     exact ih (all_lt_succ.2 ⟨hv,hv2⟩)
   ·intro rc hv
    unfold wew
    rw[wb,cdf (by omega),zb,tv_t]
    refine⟨by omega,fun x y hx hy => ?_,fun x y hx hy => ?_⟩
    ·rcases Nat.lt_trichotomy x y with h|h|h
     ·rw[wgg];exact(hv y hy x h).1
     ·subst h;rw[wl3 ho hx];omega
     ·exact(hv x hx y h).1
    ·rcases Nat.lt_trichotomy x y with h|h|h
     ·rw[wgg];exact(hv y hy x h).2
     ·subst h;rw[wl3 ho.du hx];omega
     ·exact(hv x hx y h).2
 ·rw[tv_f hg,tv_f fun h=>hg h.1]
  rfl
theorem xw {p:PT}(hx:∀r∈p.1,r.length≤4294967296):(∃n le,p=pos n le∧LatP n le∧V59 big p=some (true,())∧V35 p=some ((some (lat n le),true,()),())) ∨
  (V59 big p=some (false,())∧∃l,V35 p=some ((l,false,()),())):=by
 by_cases h:Good p∧Lat p.1.length (leP p)
 ·have hl:LatP p.1.length (leP p):=⟨h.1.len,h.1.ord,h.2⟩
  refine .inl ⟨p.1.length,leP p,h.1.form,hl,by rw[wrz p hx,tv_t h], ?_⟩
  have:=wr7 hl
  rw[←h.1.form]at this
  exact this
 ·exact .inr ⟨by rw[wrz p hx,tv_f h],wxx hx h⟩
theorem xz {n:Nat}{o:List (List Bool)}(ho:o.length=n) (hn:n≤1048576){c:((Option ((List (List Bool))×((List (List Int))×((List (List Int))×Unit))))×Unit)}{P:Nat→Bool}(h:∀i,i<n→V44 (i:Int) c.1=some (P i,())):V45 big o c=some (cs (fl n P),()):=by
 unfold V45 w26
 rw[ho]
 refine xl1 n (fun i l=>l=cs (fl i P)) (by omega) ?_ ?_ 0 (by omega) _ rfl
 ·intro rc i l hi hv ih
  have hl:=jh i P
  unfold wh2
  rw[cdt (by omega),h i hi,obS,wr1 (by omega)]
  cases hp:P i with
  | true=>rw[cond_true,app1 (by rw[hv,cs_len];omega),obS];exact ih _ (by rw[hv];exact fl_t hp)
  | false=>exact ih _ (by rw[hv];exact fl_f hp)
 ·intro rc l hv
  unfold wh2
  rw[cdf (by omega),wec,hv]
theorem zw {n:Nat}{o:List (List Bool)}(ho:o.length=n) (hn:n≤1048576){c:((Option ((List (List Bool))×((List (List Int))×((List (List Int))×Unit))))×(Int×(Int×(Int×Unit))))}{P:Nat→Bool}(h:∀i,i<n→V40 (i:Int) c.1 c.2.1 c.2.2.1 c.2.2.2.1=some (P i,())):V41 big o c=some (cs (fl n P),()):=by
 unfold V41 w24
 rw[ho]
 refine xl0 n (fun i l=>l=cs (fl i P)) (by omega) ?_ ?_ 0 (by omega) _ rfl
 ·intro rc i l hi hv ih
  have hl:=jh i P
  unfold wh0
  rw[cdt (by omega),h i hi,obS,wr1 (by omega)]
  cases hp:P i with
  | true=>rw[cond_true,app1 (by rw[hv,cs_len];omega),obS];exact ih _ (by rw[hv];exact fl_t hp)
  | false=>exact ih _ (by rw[hv];exact fl_f hp)
 ·intro rc l hv
  unfold wh0
  rw[cdf (by omega),web,hv]
theorem wgr {n:Nat}{o:List (List Bool)}(ho:o.length=n) (hn:n≤1048576){c:((List (List Bool))×(Int×Unit))}{P:Nat→Bool}(h:∀i,i<n→V109 (i:Int) c.1 c.2.1=some (P i,())):V110 big o c=some (cs (fl n P),()):=by
 unfold V110 wte
 rw[ho]
 refine xh2 n (fun i l=>l=cs (fl i P)) (by omega) ?_ ?_ 0 (by omega) _ rfl
 ·intro rc i l hi hv ih
  have hl:=jh i P
  unfold wcj
  rw[cdt (by omega),h i hi,obS,wr1 (by omega)]
  cases hp:P i with
  | true=>rw[cond_true,app1 (by rw[hv,cs_len];omega),obS];exact ih _ (by rw[hv];exact fl_t hp)
  | false=>exact ih _ (by rw[hv];exact fl_f hp)
 ·intro rc l hv
  unfold wcj
  rw[cdf (by omega),waa,hv]
theorem zp {n:Nat}{o:List (List Bool)}(ho:o.length=n) (hn:n≤1048576){c:((List (List Bool))×(Int×Unit))}{P:Nat→Bool}(h:∀i,i<n→V122 (i:Int) c.1 c.2.1=some (P i,())):V123 big o c=some (cs (fl n P),()):=by
 unfold V123 wto
 rw[ho]
 refine xia n (fun i l=>l=cs (fl i P)) (by omega) ?_ ?_ 0 (by omega) _ rfl
 ·intro rc i l hi hv ih
  have hl:=jh i P
  unfold wcx
  rw[cdt (by omega),h i hi,obS,wr1 (by omega)]
  cases hp:P i with
  | true=>rw[cond_true,app1 (by rw[hv,cs_len];omega),obS];exact ih _ (by rw[hv];exact fl_t hp)
  | false=>exact ih _ (by rw[hv];exact fl_f hp)
 ·intro rc l hv
  unfold wcx
  rw[cdf (by omega),wag,hv]
def SmallP (p:PT):Prop:=p.1.length≤1048576∧∀r∈p.1,r.length≤1048576
theorem SmallP.rows {p:PT}(h:SmallP p):∀r∈p.1,r.length≤4294967296:=fun r hr=>by have:=h.2 r hr;omega
def ls (le:Nat→Nat→Bool) (x y:Nat):Bool:=decide (x≠y)&&le x y
def cov (n:Nat) (le:Nat→Nat→Bool) (x y:Nat):Bool:=ls le x y&&(List.range n).all fun z => !(ls le x z&&ls le z y)
theorem wrq {n:Nat}{le:Nat→Nat→Bool}{x y:Nat}(hx:x<n) (hy:y<n):V120 (mkT n le) (x:Int) (y:Int)=some (ls le x y,()):=by
 unfold V120 w6a ls
 simp only[jd hx,jd hy,obS]
 by_cases h:x=y
 ·rw[cdf (by omega),decide_eq_false (by omega)];rfl
 ·rw[cdt (by omega),decide_eq_true h];rfl
theorem wb8 {n:Nat}{le:Nat→Nat→Bool}(hn:n≤4294967296){x y:Nat}(hx:x<n) (hy:y<n):V16 (pos n le) (x:Int) (y:Int)=some (ls le x y,()):=by
 unfold V16 xgh ls
 rw[wu hn hx hy,obS]
 by_cases h:x=y
 ·rw[cdf (by omega),decide_eq_false (by omega)];rfl
 ·rw[cdt (by omega),decide_eq_true h];rfl
theorem w48 {n:Nat}{le:Nat→Nat→Bool}{x y:Nat}(h:ls le x y=true) (h2:∀z,z<n→¬(ls le x z=true∧ls le z y=true)):cov n le x y=true:=by
 unfold cov
 rw[h,Bool.true_and,List.all_eq_true]
 intro z hz
 have:=h2 z (List.mem_range.1 hz)
 cases h3:ls le x z<;>cases h4:ls le z y<;>simp_all
theorem w47 {n:Nat}{le:Nat→Nat→Bool}{x y z:Nat}(hz:z<n) (h1:ls le x z=true) (h2:ls le z y=true):cov n le x y=false:=by
 unfold cov
 rw[Bool.and_eq_false_iff]
 refine .inr (List.all_eq_false.2 ⟨z,List.mem_range.2 hz,by simp[h1,h2]⟩)
theorem xd0 {n:Nat}{le:Nat→Nat→Bool}(hn:n≤1048576){x y:Nat}(hx:x<n) (hy:y<n):V121 big (mkT n le) (x:Int) (y:Int)=some (cov n le x y,()):=by
 unfold V121 wtm
 rw[wrq hx hy,obS,mkR_len]
 cases h:ls le x y with
 | false=>simp[cov,h]
 | true =>
  rw[Bool.not_true,cond_false]
  refine xh9 n (fun i=>∀z,z<i→¬(ls le x z=true∧ls le z y=true)) (by omega) ?_ ?_ 0 (by omega) (by intro z hz;omega)
  ·intro rc i hi hv ih
   unfold wcv
   rw[cdt (by omega),wrq hx hi,obS,wrq hi hy,obS,wr1 (by omega)]
   cases h1:ls le x i with
   | false=>exact ih (all_lt_succ.2 ⟨hv,by simp[h1]⟩)
   | true =>
    cases h2:ls le i y with
    | false=>exact ih (all_lt_succ.2 ⟨hv,by simp[h2]⟩)
    | true=>rw[w47 hi h1 h2];rfl
  ·intro rc hv
   unfold wcv
   rw[cdf (by omega),waf,w48 h hv]
theorem wr8 {n:Nat}{le:Nat→Nat→Bool}(hn:n≤1048576){x y:Nat}(hx:x<n) (hy:y<n):V17 big (pos n le) (x:Int) (y:Int)=some (cov n le x y,()):=by
 unfold V17 w2d
 rw[wb8 (by omega) hx hy,obS]
 cases h:ls le x y with
 | false=>simp[cov,h]
 | true =>
  rw[Bool.not_true,cond_false]
  refine xle n (fun i=>∀z,z<i→¬(ls le x z=true∧ls le z y=true)) (by omega) ?_ ?_ 0 (by omega) (by intro z hz;omega)
  ·intro rc i hi hv ih
   unfold wg3
   rw[wb,cdt (by omega),wb8 (by omega) hx hi,obS,wb8 (by omega) hi hy,obS,wr1 (by omega)]
   cases h1:ls le x i with
   | false=>exact ih (all_lt_succ.2 ⟨hv,by simp[h1]⟩)
   | true =>
    cases h2:ls le i y with
    | false=>exact ih (all_lt_succ.2 ⟨hv,by simp[h2]⟩)
    | true=>rw[w47 hi h1 h2];rfl
  ·intro rc hv
   unfold wg3
   rw[wb,cdf (by omega),wdd,w48 h hv]
theorem wpx {n:Nat}{le:Nat→Nat→Bool}(s:List Int) (h:s.length≤4294967296):V49 (mkT n le) s=some (s.all (inB n),()):=by
 unfold V49 xgu
 rw[mkR_len,wj7 n s (by omega)];rfl
theorem xef {n:Nat}{le:Nat→Nat→Bool}(x:Int):V69 (pos n le) x=some (inB n x,()):=by
 unfold V69 xg4 inB
 rw[wb]
 by_cases h:0≤x
 ·rw[cdt h];simp[h]
 ·rw[cdf h];simp[h]
theorem wxq {n:Nat}{x:Int}(h:inB n x=true):∃k:Nat,k<n∧x=(k:Int):=by
 unfold inB at h
 rw[decide_eq_true_eq]at h
 exact⟨x.toNat,by omega,by omega⟩
theorem wb5 {n:Nat}:∀{s:List Int},s.all (inB n)=true→∃S:List Nat,s=cs S∧∀x∈S,x<n
 | [],_=>⟨[],rfl,by simp⟩
 | x::s,h=>by
  rw[List.all_cons,Bool.and_eq_true]at h
  obtain⟨k,hk,e⟩:=wxq h.1
  obtain⟨S,hS,h2⟩:=wb5 h.2
  exact⟨k::S,by rw[hS,e];rfl,by simpa using ⟨hk,h2⟩⟩
def irr (n:Nat) (le:Nat→Nat→Bool) (j:Nat):Bool:=decide ((fl n fun x=>cov n le x j).length=1)
theorem xf0 {n:Nat}{P:Nat→Bool}(h:0<(fl n P).length):P (fl n P)[0]=true∧(fl n P)[0]<n∧∀i,i<(fl n P)[0]→P i=false:=by
 have h0:=fl_mem.1 (List.getElem_mem h)
 refine⟨h0.2,h0.1,fun i hi => ?_⟩
 cases hp:P i with
 | false=>rfl
 | true =>
  have hm:i∈fl n P:=fl_mem.2 ⟨by omega,hp⟩
  have hpw:(fl n P).Pairwise (·<·):=List.Pairwise.filter _ List.pairwise_lt_range
  obtain⟨k,hk,e⟩:=List.getElem_of_mem hm
  rcases Nat.eq_zero_or_pos k with h1|h1
  ·subst h1;omega
  ·have:=List.pairwise_iff_getElem.1 hpw 0 k h hk h1
   omega
def star (n:Nat) (le:Nat→Nat→Bool) (j:Nat):Nat:=(fl n fun x=>cov n le x j).headD 0
theorem LatP.du {n:Nat}{le:Nat→Nat→Bool}(h:LatP n le):LatP n (du le):=⟨h.le10,Ord.du h.ord,h.lat.ne,h.lat.join,h.lat.meet⟩
theorem LatP.glb {n:Nat}{le:Nat→Nat→Bool}(h:LatP n le){x y:Nat}(hx:x<n) (hy:y<n):IsGlb n le [x,y] (mt n le x y):=wpw (h.lat.meet x y hx hy)
theorem LatP.bnd2 {n:Nat}{le:Nat→Nat→Bool}(h:LatP n le){x y:Nat}(hx:x<n) (hy:y<n):bnd n le [x,y]=((mt n le x y:Nat):Int):=by
 have:=h.lat.meet x y hx hy
 unfold mt;omega
theorem LatP.mlt {n:Nat}{le:Nat→Nat→Bool}(h:LatP n le){x y:Nat}(hx:x<n) (hy:y<n):mt n le x y<n:=(h.glb hx hy).lt
theorem LatP.m1 {n:Nat}{le:Nat→Nat→Bool}(h:LatP n le){x y:Nat}(hx:x<n) (hy:y<n):le (mt n le x y) x=true:=(h.glb hx hy).lo x (by simp)
theorem LatP.m2 {n:Nat}{le:Nat→Nat→Bool}(h:LatP n le){x y:Nat}(hx:x<n) (hy:y<n):le (mt n le x y) y=true:=(h.glb hx hy).lo y (by simp)
theorem LatP.mg {n:Nat}{le:Nat→Nat→Bool}(h:LatP n le){x y z:Nat}(hx:x<n) (hy:y<n) (hz:z<n) (h1:le z x=true) (h2:le z y=true):le z (mt n le x y)=true :=
 (h.glb hx hy).gr z hz (by simp[h1,h2])
theorem LatP.tr {n:Nat}{le:Nat→Nat→Bool}(h:LatP n le){x y z:Nat}(hx:x<n) (hy:y<n) (hz:z<n) (h1:le x y=true) (h2:le y z=true):le x z=true:=h.ord.trans x y z hx hy hz h1 h2
theorem LatP.as {n:Nat}{le:Nat→Nat→Bool}(h:LatP n le){x y:Nat}(hx:x<n) (hy:y<n) (h1:le x y=true) (h2:le y x=true):x=y:=by
 by_cases e:x=y
 ·exact e
 ·rw[h.ord.anti x y hx hy e h1]at h2;cases h2
theorem we {n:Nat}{le:Nat→Nat→Bool}(x y:Nat):mt n le x y=mt n le y x:=by unfold mt;rw[wgg]
theorem topEx {n:Nat}{le:Nat→Nat→Bool}(h:LatP n le):∃t,IsGlb n le [] t:=by
 have key:∀i,i≤n→∃t,t<n∧∀x,x<i→le x t=true:=by
  intro i
  induction i with
  | zero=>exact fun _=>⟨0,h.lat.ne,by intro x hx;omega⟩
  | succ i ih =>
   intro hi
   obtain⟨t,ht,h1⟩:=ih (by omega)
   have hin:i<n:=by omega
   refine⟨mt n (YtclaienmkbpkaaaGreat.du le) t i,h.du.mlt ht hin,all_lt_succ.2 ⟨fun x hx => ?_,h.du.m2 ht hin⟩⟩
   exact h.tr (by omega) ht (h.du.mlt ht hin) (h1 x hx) (h.du.m1 ht hin)
 obtain⟨t,ht,h1⟩:=key n (by omega)
 exact⟨t,ht,by simp,fun z hz _=>h1 z hz⟩
theorem glbEx {n:Nat}{le:Nat→Nat→Bool}(h:LatP n le):∀S:List Nat,(∀s∈S,s<n)→∃m,IsGlb n le S m
 | [],_=>topEx h
 | s::S,hS=>by
  obtain⟨m,hm⟩:=glbEx h S fun x hx=>hS x (by simp[hx])
  have hs:=hS s (by simp)
  refine⟨mt n le s m,h.mlt hs hm.lt,fun x hx => ?_,fun z hz hx => ?_⟩
  ·rcases List.mem_cons.1 hx with rfl|hx'
   ·exact h.m1 hs hm.lt
   ·exact h.tr (h.mlt hs hm.lt) hm.lt (hS x hx) (h.m2 hs hm.lt) (hm.lo x hx')
  ·exact h.mg hs hm.lt hz (hx s (by simp)) (hm.gr z hz fun x hx'=>hx x (by simp[hx']))
theorem LatP.gbs {n:Nat}{le:Nat→Nat→Bool}(h:LatP n le){S:List Nat}(hS:∀s∈S,s<n):IsGlb n le S (gb n le S):=by
 obtain⟨m,hm⟩:=glbEx h S hS
 unfold gb
 rw[zr h.ord hm]
 exact hm
theorem LatP.bnds {n:Nat}{le:Nat→Nat→Bool}(h:LatP n le){S:List Nat}(hS:∀s∈S,s<n):bnd n le S=((gb n le S:Nat):Int):=zr h.ord (h.gbs hS)
theorem wpv {n:Nat}{le:Nat→Nat→Bool}(h:LatP n le){S:List Nat}{m:Nat}(hm:IsGlb n le S m):gb n le S=m:=by
 unfold gb;rw[zr h.ord hm];rfl
theorem noneLt {n:Nat}:∀s∈([]:List Nat),s<n:=fun s hs=>by cases hs
theorem lat1 (n:Nat) (le:Nat→Nat→Bool):(lat n le).1=mkT n le:=rfl
theorem lat2 (n:Nat) (le:Nat→Nat→Bool):(lat n le).2.1=mkT n fun x y=>((mt n le x y:Nat):Int):=rfl
theorem lat3 (n:Nat) (le:Nat→Nat→Bool):(lat n le).2.2.1=mkT n fun x y=>((mt n (du le) x y:Nat):Int):=rfl
theorem wv {n:Nat}{le:Nat→Nat→Bool}(h:LatP n le){x y:Nat}(hx:x<n) (hy:y<n):V61 (pos n le) (x:Int) (y:Int)=some (((mt n le x y:Nat):Int),()):=by
 have:=h.le10
 unfold V61 xg1
 rw[show([(x:Int),(y:Int)]:List Int)=cs [x,y] from rfl,wy (by omega) (by simp[hx,hy]) (by simp),obS,h.bnd2 hx hy]
theorem zu {n:Nat}{le:Nat→Nat→Bool}(h:LatP n le){x y:Nat}(hx:x<n) (hy:y<n):V60 (pos n le) (x:Int) (y:Int)=some (((mt n (du le) x y:Nat):Int),()):=by
 have:=h.le10
 unfold V60 xg0
 rw[yb (by omega),obS,show([(x:Int),(y:Int)]:List Int)=cs [x,y] from rfl,wy (by omega) (by simp[hx,hy]) (by simp),obS,h.du.bnd2 hx hy]
theorem specBoundL {n:Nat}{le:Nat→Nat→Bool}(h:LatP n le){S:List Nat}(hS:∀s∈S,s<n) (hl:S.length≤4294967296):V58 big (pos n le) (cs S)=some (((gb n le S:Nat):Int),()):=by
 have:=h.le10
 rw[wy (by omega) hS hl,h.bnds hS]
theorem wp6 {n:Nat}{le:Nat→Nat→Bool}(h:LatP n le):V65 (pos n le)=some (((gb n le []:Nat):Int),()):=by
 unfold V65 xg3
 rw[show([]:List Int)=cs [] from rfl,specBoundL h noneLt (by simp)];rfl
theorem zo {n:Nat}{le:Nat→Nat→Bool}(h:LatP n le):V64 (pos n le)=some (((gb n (du le) []:Nat):Int),()):=by
 have:=h.le10
 unfold V64 xg2
 rw[yb (by omega),obS,show([]:List Int)=cs [] from rfl,specBoundL h.du noneLt (by simp)];rfl
theorem xej {n:Nat}{le:Nat→Nat→Bool}(h:LatP n le):V39 big (some (lat n le))=some (((gb n le []:Nat):Int),()):=by
 have h10:=h.le10
 unfold V39 w22
 rw[obS,lat1,mkR_len]
 refine xlz n (fun i t=>∃k:Nat,t=(k:Int)∧k<n∧∀x,x<i→le x k=true) (by omega) ?_ ?_ 0 (by omega) _ ⟨0,rfl,h.lat.ne,by intro x hx;omega⟩
 ·intro rc i t hi hv ih
  obtain⟨k,e,hk,h1⟩:=hv
  subst e
  unfold why
  rw[cdt (by omega),obS,lat3,jd hk,obS,jd hi,obS,wr1 (by omega)]
  refine ih _ ⟨mt n (YtclaienmkbpkaaaGreat.du le) k i,rfl,h.du.mlt hk hi,all_lt_succ.2 ⟨fun x hx => ?_,h.du.m2 hk hi⟩⟩
  exact h.tr (by omega) hk (h.du.mlt hk hi) (h1 x hx) (h.du.m1 hk hi)
 ·intro rc t hv
  obtain⟨k,e,hk,h1⟩:=hv
  subst e
  unfold why
  rw[cdf (by omega),wea,wpv h ⟨hk,by simp,fun z hz _=>h1 z hz⟩]
theorem wrx {n:Nat}{le:Nat→Nat→Bool}(h:LatP n le):V38 big (some (lat n le))=some (((gb n (du le) []:Nat):Int),()):=by
 have h10:=h.le10
 unfold V38 w20
 rw[obS,lat1,mkR_len]
 refine xly n (fun i t=>∃k:Nat,t=(k:Int)∧k<n∧∀x,x<i→le k x=true) (by omega) ?_ ?_ 0 (by omega) _ ⟨0,rfl,h.lat.ne,by intro x hx;omega⟩
 ·intro rc i t hi hv ih
  obtain⟨k,e,hk,h1⟩:=hv
  subst e
  unfold whw
  rw[cdt (by omega),obS,lat2,jd hk,obS,jd hi,obS,wr1 (by omega)]
  refine ih _ ⟨mt n le k i,rfl,h.mlt hk hi,all_lt_succ.2 ⟨fun x hx => ?_,h.m2 hk hi⟩⟩
  exact h.tr (h.mlt hk hi) hk (by omega) (h.m1 hk hi) (h1 x hx)
 ·intro rc t hv
  obtain⟨k,e,hk,h1⟩:=hv
  subst e
  unfold whw
  rw[cdf (by omega),wd9,wpv h.du ⟨hk,by simp,fun z hz _=>h1 z hz⟩]
theorem xf1 {n:Nat}{le:Nat→Nat→Bool}(h:LatP n le){S:List Nat}{k s:Nat}(hS:∀s∈S,s<n) (hk:IsGlb n le S k) (hs:s<n):IsGlb n le (S++[s]) (mt n le k s) where
 lt:=h.mlt hk.lt hs
 lo x hx:=by
  rcases List.mem_append.1 hx with hx|hx
  ·exact h.tr (h.mlt hk.lt hs) hk.lt (hS x hx) (h.m1 hk.lt hs) (hk.lo x hx)
  ·rw[List.mem_singleton.1 hx];exact h.m2 hk.lt hs
 gr z hz hx:=h.mg hk.lt hs hz (hk.gr z hz fun x hx'=>hx x (by simp[hx'])) (hx s (by simp))
theorem wgp {n:Nat}{le:Nat→Nat→Bool}(h:LatP n le){S:List Nat}(hS:∀s∈S,s<n) (hl:S.length≤4294967296):V108 big (some (lat n le)) (cs S)=some (((gb n le S:Nat):Int),()):=by
 have h10:=h.le10
 unfold V108 wta
 rw[xej h,obS,cs_len]
 refine xh0 S.length (fun i t=>∃k:Nat,t=(k:Int)∧IsGlb n le (S.take i) k) (by omega) ?_ ?_ 0 (by omega) _ ⟨_,rfl,h.gbs noneLt⟩
 ·intro rc i t hi hv ih
  obtain⟨k,e,hk⟩:=hv
  subst e
  have hs:=hS _ (List.getElem_mem hi)
  unfold wch
  rw[cdt (by omega),jo hi,obS,obS,lat2,jd hk.lt,obS,jd hs,obS,wr1 (by omega)]
  refine ih _ ⟨_,rfl, ?_⟩
  rw[List.take_succ_eq_append_getElem hi]
  exact xf1 h (fun s hs=>hS s (List.mem_of_mem_take hs)) hk hs
 ·intro rc t hv
  obtain⟨k,e,hk⟩:=hv
  subst e
  rw[List.take_length]at hk
  unfold wch
  rw[cdf (by omega),z9,wpv h hk]
theorem wgf {n:Nat}{le:Nat→Nat→Bool}(hn:n≤1048576){x:Nat}(hx:x<n):V111 (mkT n le) (x:Int)=some (cs (fl n fun y=>le x y),()):=by
 unfold V111 w5x
 rw[wgr (mkR_len n _) hn (P:=fun y=>le x y)]
 ·rfl
 ·intro i hi
  unfold V109 w5s
  rw[jd hx,obS,jd hi];rfl
theorem wn (a b:List Int) (h:a.length≤4294967296):V75 big a b=some (decide (a=b),()):=by
 unfold V75 w31
 by_cases hl:a.length=b.length
 ·rw[cdf (by omega)]
  refine xmn a.length (fun i=>a.take i=b.take i) (by omega) ?_ ?_ 0 (by omega) rfl
  ·intro rc i hi hv ih
   have hi2:i<b.length:=by omega
   unfold wi3
   rw[cdt (by omega),jf a i hi,obS,jf b i hi2,obS,wr1 (by omega)]
   by_cases e:b[i]=a[i]
   ·rw[cdf (by omega)]
    exact ih (by rw[List.take_succ_eq_append_getElem hi,List.take_succ_eq_append_getElem hi2,hv,e])
   ·rw[cdt e,decide_eq_false fun h=>by subst h;exact e rfl]
  ·intro rc hv
   rw[List.take_length,hl,List.take_length]at hv
   unfold wi3
   rw[cdf (by omega),we9,decide_eq_true hv]
 ·rw[cdt (by omega),decide_eq_false fun h=>hl (by rw[h])]
theorem wl5 {n:Nat}{le:Nat→Nat→Bool}(h:LatP n le){S:List Nat}(hS:∀s∈S,s<n) (hm:∀s∈S,∀y∈S,mt n le s y∈S):∀T:List Nat,T≠[]→(∀t∈T,t∈S)→gb n le T∈S
 | [],h0,_=>absurd rfl h0
 | [t],_,hT=>by
  have ht:=hT t (by simp)
  have:gb n le [t]=t:=wpv h ⟨hS t ht,by simp[h.ord.refl t (hS t ht)],fun z _ hz=>hz t (by simp)⟩
  rw[this];exact ht
 | t::u::T,_,hT=>by
  have ih:=wl5 h hS hm (u::T) (by simp) fun x hx=>hT x (List.mem_cons_of_mem _ hx)
  have ht:=hT t (by simp)
  have hg:=h.gbs (S:=u::T) fun x hx=>hS x (hT x (List.mem_cons_of_mem _ hx))
  have:gb n le (t::u::T)=mt n le t (gb n le (u::T)):=by
   refine wpv h ⟨h.mlt (hS t ht) hg.lt,fun x hx => ?_,fun z hz hx=>h.mg (hS t ht) hg.lt hz (hx t (by simp)) (hg.gr z hz fun x hx'=>hx x (List.mem_cons_of_mem _ hx'))⟩
   rcases List.mem_cons.1 hx with rfl|hx'
   ·exact h.m1 (hS x ht) hg.lt
   ·exact h.tr (h.mlt (hS t ht) hg.lt) hg.lt (hS x (hT x hx)) (h.m2 (hS t ht) hg.lt) (hg.lo x hx')
  rw[this]
  exact hm t ht _ ih
def IsFilt (n:Nat) (le:Nat→Nat→Bool) (S:List Nat):Prop:=∀s∈S,∀y,y<n→(le s y=true→y∈S)∧(y∈S→mt n le s y∈S)
theorem wxn {n:Nat}{le:Nat→Nat→Bool}(h:LatP n le){P:Nat→Bool}(h0:fl n P≠[]):IsFilt n le (fl n P)↔fl n P=fl n fun y=>le (gb n le (fl n P)) y:=by
 have hS:∀s∈fl n P,s<n:=fun s hs=>(fl_mem.1 hs).1
 have hg:=h.gbs hS
 constructor
 ·intro hf
  have hm:=wl5 h hS (fun s hs y hy=>(hf s hs y (hS y hy)).2 hy) _ h0 fun t ht=>ht
  refine ux fun x hx => ?_
  cases h1:le (gb n le (fl n P)) x with
  | true=>exact(fl_mem.1 ((hf _ hm x hx).1 h1)).2
  | false =>
   cases h2:P x with
   | false=>rfl
   | true =>
    have:=hg.lo x (fl_mem.2 ⟨hx,h2⟩)
    rw[h1]at this;cases this
 ·intro e s hs y hy
  have hm:∀x,x∈fl n P↔x<n∧le (gb n le (fl n P)) x=true:=fun x=>by
   constructor
   ·intro hx;exact⟨hS x hx,hg.lo x hx⟩
   ·intro hx;rw[e];exact fl_mem.2 hx
  have h1:=(hm s).1 hs
  refine⟨fun h2=>(hm y).2 ⟨hy,h.tr hg.lt h1.1 hy h1.2 h2⟩,fun h2=>(hm _).2 ⟨h.mlt h1.1 hy,h.mg h1.1 hy hg.lt h1.2 ((hm y).1 h2).2⟩⟩
theorem wr9 {n:Nat}{le:Nat→Nat→Bool}(h:LatP n le) (l:List Int) (hl:l.length≤1048576):V113 big (pos n le) l=some (tv (l≠[]∧∃S,l=cs S∧isSetB n l=true∧IsFilt n le S),()):=by
 have h10:=h.le10
 unfold V113 wth
 by_cases h0:l=[]
 ·subst h0
  rw[cdt (by simp),tv_f fun h=>h.1 rfl]
 ·have h01:l.length≠0:=fun e=>h0 (List.eq_nil_of_length_eq_zero e)
  rw[cdf (by omega),wb,wr (by omega) (by omega),wgu n _ (by omega) (by omega),obS]
  cases hset:isSetB n l with
  | false =>
   rw[tv_f fun h=>by have:=h.2;obtain⟨S,_,h3,_⟩:=this;cases h3]
   rfl
  | true =>
   rw[Bool.not_true,cond_false]
   have hf:=wb7 hset
   generalize (fun x:Nat=>decide ((x:Int)∈l))=P at hf
   have e:(l≠[]∧∃S,l=cs S∧true=true∧IsFilt n le S)↔IsFilt n le (fl n P):=by
    constructor
    ·rintro⟨_,S,h1,_,h2⟩
     rw[hf]at h1
     rw[cs_inj.1 h1];exact h2
    ·intro h1
     exact⟨h0,fl n P,hf,rfl,h1⟩
   rw[qr e]
   have hfl:=jh n P
   have hS:∀s∈fl n P,s<n:=fun s hs=>(fl_mem.1 hs).1
   rw[hf]
   generalize fl n P=S at hS hfl
   refine xh3 S.length (fun i=>∀s∈S.take i,∀y,y<n→(le s y=true→y∈S)∧(y∈S→mt n le s y∈S)) (by omega) ?_ ?_ 0 (by omega) (by simp)
   ·intro rc i hi hv ih
    have hs:=hS _ (List.getElem_mem hi)
    have hms:=List.getElem_mem hi
    have ha:=jo hi
    have ih':=fun h=>ih ((qp hi).2 ⟨hv,h⟩)
    unfold wad
    rw[cs_len,cdt (by omega)]
    generalize S[i]=s at hs ha ih' hms
    refine xh4 n (fun j=>∀y,y<j→(le s y=true→y∈S)∧(y∈S→mt n le s y∈S)) (by omega) ?_ ?_ 0 (by omega) (by intro y hy;omega)
    ·intro rc2 j hj hv2 ih2
     have hlt:=h.mlt hs hj
     unfold wcm
     simp only[wb,cdt (show(j:Int)<(n:Int) by omega),ha,obS,wu (le:=le) (show n≤4294967296 by omega) hs hj,wl8 S _ (show S.length≤4294967296 by omega),wv h hs hj,wr1 (show j≤4611686018427387904 by omega)]
     have hno:∀Q:Prop,¬Q→(IsFilt n le S→Q)→some (false,())=some (tv (IsFilt n le S),()):=fun Q hq hi=>by rw[tv_f fun hf=>hq (hi hf)]
     by_cases hy:j∈S
     ·simp only[decide_eq_true hy,Bool.not_true,cond_false,cond_true]
      by_cases hmy:mt n le s j∈S
      ·rw[decide_eq_true hmy,Bool.not_true,cond_false]
       have:=ih2 (all_lt_succ.2 ⟨hv2,fun _=>hy,fun _=>hmy⟩)
       cases le s j<;>exact this
      ·rw[decide_eq_false hmy]
       have:=hno (mt n le s j∈S) hmy fun hf=>(hf s hms j hj).2 hy
       cases le s j<;>exact this
     ·simp only[decide_eq_false hy,Bool.not_false,cond_false,cond_true]
      cases hle:le s j with
      | true=>exact hno (j∈S) hy fun hf=>(hf s hms j hj).1 hle
      | false=>exact ih2 (all_lt_succ.2 ⟨hv2,fun h=>(by rw[hle]at h;cases h),fun h=>absurd h hy⟩)
    ·intro rc2 hv2
     unfold wcm
     rw[wb,cdf (by omega),wac,wr1 (by omega)]
     exact ih' hv2
   ·intro rc hv
    rw[List.take_length]at hv
    unfold wad
    rw[cs_len,cdf (by omega),xo,tv_t (P:=IsFilt n le S) hv]
theorem wyi (p:PT) (l:List Int) (hx:∀r∈p.1,r.length≤4294967296) (hl:l.length≤1048576):∃v:Bool×Bool×Unit,V114 p l=some (v,())∧V112 p l=some (v,()):=by
 unfold V114 w5y V112 wtg
 rcases xw hx with⟨n,le,e,h,h1,h2⟩|⟨h1,l,h2⟩
 ·subst e
  have h10:=h.le10
  rw[h1,h2,obS,obS,Bool.not_true,cond_false,cond_false,wr9 h l hl,obS]
  refine⟨_,rfl, ?_⟩
  by_cases h0:l=[]
  ·subst h0
   rw[cdf (by simp),tv_f fun h=>h.1 rfl]
  ·have h01:l.length≠0:=fun e=>h0 (List.eq_nil_of_length_eq_zero e)
   rw[cdt (by omega),obS,lat1,wpx l (by omega),obS]
   cases ha:l.all (inB n) with
   | false =>
    rw[tv_f]
    ·rfl
    ·rintro⟨_,S,_,h3,_⟩
     unfold isSetB at h3
     rw[ha,Bool.false_and]at h3;cases h3
   | true =>
    obtain⟨S,hS,hlt⟩:=wb5 ha
    rw[cond_true,obS,hS,wgp h hlt (by rw[hS,cs_len]at hl;omega),obS,lat1,wgf (by omega) (h.gbs hlt).lt,obS,wn _ _ (by rw[←hS];omega),obS,←hS]
    congr 3
    symm
    refine ja7 ?_
    rw[decide_eq_true_eq]
    constructor
    ·intro e
     have hset:isSetB n l=true:=by rw[e];exact w1c _ _
     refine⟨h0,S,hS,hset, ?_⟩
     rw[hS]at e
     have e2:=cs_inj.1 e
     rw[e2]
     refine(wxn h ?_).2 ?_
     ·intro e3;rw[e3]at e2;subst e2;exact h0 hS
     ·rw[←e2];exact e2
    ·rintro⟨_,T,hT,hset,hf⟩
     have eT:S=T:=cs_inj.1 (hS.symm.trans hT)
     subst eT
     have hform:=wb7 hset
     rw[hS]at hform
     have e3:=cs_inj.1 hform
     rw[hS,cs_inj]
     generalize (fun x:Nat=>decide ((x:Int)∈cs S))=P at e3
     subst e3
     refine(wxn h ?_).1 hf
     intro e4;rw[e4]at hS;exact h0 hS
 ·rw[h1,h2]
  exact⟨_,rfl,rfl⟩
theorem zn (n:Nat) (s:List Int) (hn:n≤1099511627776) (hs:s.length≤4294967296):V7 big (n:Int) s=some (s.all (inB n),()):=by
 unfold V7 V7_s
 refine xnl s.length (fun i=>(s.take i).all (inB n)=true) (by omega) ?_ ?_ 0 (by omega) rfl
 ·intro rc i hi hv ih
  unfold zq
  have e:decide (0≤s[i]∧s[i]≤(n:Int)-1)=inB n s[i]:=by
   unfold inB;exact decide_eq_decide.2 (by omega)
  rw[cdt (by omega),jf s i hi,obS,wr (n:=(n:Int)-1) (by omega) (by omega),wrp,obS,e,wr1 (by omega)]
  cases h:inB n s[i] with
  | true=>exact ih (by rw[jd9 hi,hv,h];rfl)
  | false =>
   have:s.all (inB n)=false:=List.all_eq_false.2 ⟨_,List.getElem_mem hi,by simp[h]⟩
   rw[this];rfl
 ·intro rc hv
  rw[List.take_length]at hv
  unfold zq
  rw[cdf (by omega),yq,hv]
theorem wb3 {n:Nat}{le:Nat→Nat→Bool}(hn:n≤1048576){x:Nat}(hx:x<n):V106 big (pos n le) (x:Int)=some (cs (fl n fun y=>le x y),()):=by
 unfold V106 ws8
 refine xhz n (fun i l=>l=cs (fl i fun y=>le x y)) (by omega) ?_ ?_ 0 (by omega) _ rfl
 ·intro rc i l hi hv ih
  have hl:=jh i fun y=>le x y
  unfold wcf
  rw[wb,cdt (by omega),wu (by omega) hx hi,obS,wr1 (by omega)]
  cases h:le x i with
  | true=>rw[cond_true,app1 (by rw[hv,cs_len];omega),obS];exact ih _ (by rw[hv];exact fl_t (P:=fun y=>le x y) h)
  | false=>exact ih _ (by rw[hv];exact fl_f (P:=fun y=>le x y) h)
 ·intro rc l hv
  unfold wcf
  rw[wb,cdf (by omega),z8,hv]
abbrev bt (n:Nat) (le:Nat→Nat→Bool):Nat:=gb n (du le) []
abbrev tp (n:Nat) (le:Nat→Nat→Bool):Nat:=gb n le []
def Dis (n:Nat) (le:Nat→Nat→Bool):Prop:=∀x y z,x<n→y<n→z<n→mt n le x (mt n (du le) y z)=mt n (du le) (mt n le x y) (mt n le x z)
theorem xi {n:Nat}{le:Nat→Nat→Bool}(h:LatP n le):bt n le<n:=(h.du.gbs noneLt).lt
theorem yc {n:Nat}{le:Nat→Nat→Bool}(h:LatP n le):tp n le<n:=(h.gbs noneLt).lt
theorem wgi {n:Nat}{le:Nat→Nat→Bool}(h:LatP n le){x:Nat}(hx:x<n):le (bt n le) x=true:=(h.du.gbs noneLt).gr x hx (by simp)
theorem wlo {n:Nat}{le:Nat→Nat→Bool}(h:LatP n le){x:Nat}(hx:x<n):le x (tp n le)=true:=(h.gbs noneLt).gr x hx (by simp)
theorem jlt {n:Nat}{le:Nat→Nat→Bool}(h:LatP n le){x y:Nat}(hx:x<n) (hy:y<n):mt n (du le) x y<n:=h.du.mlt hx hy
theorem j1 {n:Nat}{le:Nat→Nat→Bool}(h:LatP n le){x y:Nat}(hx:x<n) (hy:y<n):le x (mt n (du le) x y)=true:=h.du.m1 hx hy
theorem j2 {n:Nat}{le:Nat→Nat→Bool}(h:LatP n le){x y:Nat}(hx:x<n) (hy:y<n):le y (mt n (du le) x y)=true:=h.du.m2 hx hy
theorem jg {n:Nat}{le:Nat→Nat→Bool}(h:LatP n le){x y z:Nat}(hx:x<n) (hy:y<n) (hz:z<n) (h1:le x z=true) (h2:le y z=true):le (mt n (du le) x y) z=true:=h.du.mg hx hy hz h1 h2
theorem xek {n:Nat}{le:Nat→Nat→Bool}(h:LatP n le):∃U,V36 big (some (lat n le))=some (U,())∧U.isNone=tv (Dis n le):=by
 have h10:=h.le10
 unfold V36 w2y
 rw[obS,lat1,mkR_len]
 refine xlv (Q:=fun o=>∃U,o=some (U,())∧U.isNone=tv (Dis n le)) n (fun i=>∀x,x<i→∀y,y<n→∀z,z<n→mt n le x (mt n (du le) y z)=mt n (du le) (mt n le x y) (mt n le x z)) (by omega) ?_ ?_ 0 (by omega) (by intro x hx;omega)
 ·intro rc i hi hv ih
  unfold wd7
  rw[cdt (by omega),obS,lat1,mkR_len]
  refine xlw (Q:=fun o=>∃U,o=some (U,())∧U.isNone=tv (Dis n le)) n (fun j=>∀y,y<j→∀z,z<n→mt n le i (mt n (du le) y z)=mt n (du le) (mt n le i y) (mt n le i z)) (by omega) ?_ ?_ 0 (by omega) (by intro x hx;omega)
  ·intro rc2 j hj hv2 ih2
   unfold wd8
   rw[cdt (by omega),obS,lat1,mkR_len]
   refine xlx (Q:=fun o=>∃U,o=some (U,())∧U.isNone=tv (Dis n le)) n (fun k=>∀z,z<k→mt n le i (mt n (du le) j z)=mt n (du le) (mt n le i j) (mt n le i z)) (by omega) ?_ ?_ 0 (by omega) (by intro x hx;omega)
   ·intro rc3 k hk hv3 ih3
    unfold whu
    simp only[cdt (show(k:Int)<(n:Int) by omega),obS,lat2,lat3,jd hi,jd hj,jd hk,jd (jlt h hj hk),jd (h.mlt hi hj),jd (h.mlt hi hk),wr1 (show k≤4611686018427387904 by omega)]
    by_cases e:mt n le i (mt n (du le) j k)=mt n (du le) (mt n le i j) (mt n le i k)
    ·rw[cdf (by omega)]
     exact ih3 (all_lt_succ.2 ⟨hv3,e⟩)
    ·rw[cdt (by omega)]
     exact⟨_,rfl,by rw[tv_f fun hd=>e (hd i j k hi hj hk)];rfl⟩
   ·intro rc3 hv3
    unfold whu
    rw[cdf (by omega),wd6,wr1 (by omega)]
    exact ih2 (all_lt_succ.2 ⟨hv2,hv3⟩)
  ·intro rc2 hv2
   unfold wd8
   rw[cdf (by omega),y7,wr1 (by omega)]
   exact ih (all_lt_succ.2 ⟨hv,hv2⟩)
 ·intro rc hv
  unfold wd7
  rw[cdf (by omega),y6]
  exact⟨none,rfl,by rw[tv_t (P:=Dis n le) fun x y z hx hy hz=>hv x hx y hy z hz];rfl⟩
theorem xfo {n:Nat}{le:Nat→Nat→Bool}(h:LatP n le):∃l b,V62 big (pos n le)=some ((l,b,()),())∧(!b)=tv (Dis n le):=by
 have h10:=h.le10
 unfold V62 w3p
 rw[wb]
 refine xme (Q:=fun o=>∃l b,o=some ((l,b,()),())∧(!b)=tv (Dis n le)) n (fun i=>∀x,x<i→∀y,y<n→∀z,z<n→mt n le x (mt n (du le) y z)=mt n (du le) (mt n le x y) (mt n le x z)) (by omega) ?_ ?_ 0 (by omega) (by intro x hx;omega)
 ·intro rc i hi hv ih
  unfold we0
  rw[cdt (by omega)]
  refine xmf (Q:=fun o=>∃l b,o=some ((l,b,()),())∧(!b)=tv (Dis n le)) n (fun j=>∀y,y<j→∀z,z<n→mt n le i (mt n (du le) y z)=mt n (du le) (mt n le i y) (mt n le i z)) (by omega) ?_ ?_ 0 (by omega) (by intro x hx;omega)
  ·intro rc2 j hj hv2 ih2
   unfold we1
   rw[cdt (by omega)]
   refine xmg (Q:=fun o=>∃l b,o=some ((l,b,()),())∧(!b)=tv (Dis n le)) n (fun k=>∀z,z<k→mt n le i (mt n (du le) j z)=mt n (du le) (mt n le i j) (mt n le i z)) (by omega) ?_ ?_ 0 (by omega) (by intro x hx;omega)
   ·intro rc3 k hk hv3 ih3
    unfold wiq
    simp only[cdt (show(k:Int)<(n:Int) by omega),zu h hj hk,obS,wv h hi (jlt h hj hk),wv h hi hj,wv h hi hk,zu h (h.mlt hi hj) (h.mlt hi hk),wr1 (show k≤4611686018427387904 by omega)]
    by_cases e:mt n le i (mt n (du le) j k)=mt n (du le) (mt n le i j) (mt n le i k)
    ·rw[cdf (by omega)]
     exact ih3 (all_lt_succ.2 ⟨hv3,e⟩)
    ·rw[cdt (by omega)]
     exact⟨_,_,rfl,by rw[tv_f fun hd=>e (hd i j k hi hj hk)];rfl⟩
   ·intro rc3 hv3
    unfold wiq
    rw[cdf (by omega),wez,wr1 (by omega)]
    exact ih2 (all_lt_succ.2 ⟨hv2,hv3⟩)
  ·intro rc2 hv2
   unfold we1
   rw[cdf (by omega),ze,wr1 (by omega)]
   exact ih (all_lt_succ.2 ⟨hv,hv2⟩)
 ·intro rc hv
  unfold we0
  rw[cdf (by omega),zd]
  exact⟨[],false,rfl,by rw[tv_t (P:=Dis n le) fun x y z hx hy hz=>hv x hx y hy z hz];rfl⟩
def rel (n:Nat) (le:Nat→Nat→Bool) (x y z:Nat):List Nat:=fl n fun c=>decide (mt n le c y=x)&&decide (mt n (du le) c y=z)
def comp (n:Nat) (le:Nat→Nat→Bool) (x:Nat):List Nat:=rel n le (bt n le) x (tp n le)
theorem wyn {n:Nat}{le:Nat→Nat→Bool}(h:LatP n le){x y z:Nat}(hy:y<n):V42 (some (lat n le)) (x:Int) (y:Int) (z:Int)=some (cs (rel n le x y z),()):=by
 have h10:=h.le10
 unfold V42 xgp
 rw[obS,lat1,zw (mkR_len n _) (by omega) (P:=fun c=>decide (mt n le c y=x)&&decide (mt n (du le) c y=z))]
 ·rfl
 ·intro i hi
  unfold V40 xgo
  simp only[obS,lat2,lat3,jd hi,jd hy]
  by_cases e:mt n le i y=x
  ·rw[cdt (by omega),decide_eq_true e,Bool.true_and]
   congr 2
   exact decide_eq_decide.2 (by omega)
  ·rw[cdf (by omega),decide_eq_false e,Bool.false_and]
theorem wp4 {n:Nat}{le:Nat→Nat→Bool}(h:LatP n le){x y z:Nat}(hy:y<n):V66 big (pos n le) (x:Int) (y:Int) (z:Int)=some (cs (rel n le x y z),()):=by
 have h10:=h.le10
 unfold V66 w3r
 refine xmh n (fun i l=>l=cs (fl i fun c=>decide (mt n le c y=x)&&decide (mt n (du le) c y=z))) (by omega) ?_ ?_ 0 (by omega) _ rfl
 ·intro rc i l hi hv ih
  have hl:=jh i fun c=>decide (mt n le c y=x)&&decide (mt n (du le) c y=z)
  unfold wis
  rw[wb,cdt (by omega),wv h hy hi,obS,zu h hy hi,obS,we,we (le:=du le),wr1 (by omega)]
  by_cases e:mt n le i y=x
  ·rw[cdt (by omega)]
   by_cases e2:mt n (du le) i y=z
   ·rw[cdt (by omega),app1 (by rw[hv,cs_len];omega),obS]
    exact ih _ (by rw[hv];exact fl_t (P:=fun c=>decide (mt n le c y=x)&&decide (mt n (du le) c y=z)) (by simp[e,e2]))
   ·rw[cdf (by omega)]
    exact ih _ (by rw[hv];exact fl_f (P:=fun c=>decide (mt n le c y=x)&&decide (mt n (du le) c y=z)) (by simp[e2]))
  ·rw[cdf (by omega)]
   exact ih _ (by rw[hv];exact fl_f (P:=fun c=>decide (mt n le c y=x)&&decide (mt n (du le) c y=z)) (by simp[e]))
 ·intro rc l hv
  unfold wis
  rw[wb,cdf (by omega),we2,hv]
  rfl
theorem wf6 {n:Nat}{le:Nat→Nat→Bool}(h:LatP n le){x:Nat}(hx:x<n):V43 (some (lat n le)) (x:Int)=some (cs (comp n le x),()):=by
 unfold V43 xgq
 rw[wrx h,obS,xej h,obS,wyn h hx];rfl
def Cmp (n:Nat) (le:Nat→Nat→Bool):Prop:=∀x,x<n→comp n le x≠[]
theorem w5d {n:Nat}{le:Nat→Nat→Bool}(h:LatP n le):V47 (some (lat n le))=some (tv (Cmp n le),()):=by
 have h10:=h.le10
 unfold V47 xgt V46 xgs
 rw[obS,lat1,xz (mkR_len n _) (by omega) (P:=fun x=>decide ((comp n le x).length=0))]
 ·simp only[obS,cs_len]
  congr 2
  symm
  refine ja7 ?_
  rw[decide_eq_true_eq]
  constructor
  ·intro e x hx hc
   have:x∈fl n fun x=>decide ((comp n le x).length=0):=fl_mem.2 ⟨hx,by simp[hc]⟩
   have:=List.length_pos_of_mem this
   omega
  ·intro hc
   have:(fl n fun x=>decide ((comp n le x).length=0))=[]:=List.eq_nil_iff_forall_not_mem.2 fun x hx=>by
    have:=fl_mem.1 hx
    exact hc x this.1 (List.eq_nil_of_length_eq_zero (by simpa using this.2))
   rw[this];rfl
 ·intro i hi
  unfold V44 xgr
  rw[wf6 h hi,obS,cs_len]
  congr 2
  exact decide_eq_decide.2 (by omega)
theorem xdy {n:Nat}{le:Nat→Nat→Bool}(h:LatP n le):V67 big (pos n le)=some (mkR n fun x=>((comp n le x).length:Int),()):=by
 have h10:=h.le10
 unfold V67 w3t
 refine xmi n (fun i l=>l=mkR i fun x=>((comp n le x).length:Int)) (by omega) ?_ ?_ 0 (by omega) _ rfl
 ·intro rc i l hi hv ih
  unfold wiu
  rw[wb,cdt (by omega),zo h,obS,wp6 h,obS,wp4 h hi,obS,app1 (by rw[hv,mkR_len];omega),obS,wr1 (by omega)]
  exact ih _ (by rw[hv,cs_len];exact(jv i fun x=>((comp n le x).length:Int)).symm)
 ·intro rc l hv
  unfold wiu
  rw[wb,cdf (by omega),we3,hv]
structure BoolP (n:Nat) (le:Nat→Nat→Bool):Prop where
 lp:LatP n le
 dis:Dis n le
 cmp:Cmp n le
theorem specGood29 {n:Nat}{le:Nat→Nat→Bool}(h:LatP n le) (hg:V59 big (pos n le)=some (true,())):V68 (pos n le)=some (tv (Dis n le∧Cmp n le),()):=by
 have h10:=h.le10
 unfold V68 w3v V63 w3q
 obtain⟨l,b,h1,h2⟩:=xfo h
 rw[hg,obS,h1]
 simp only[Bool.not_true,cond_false,obS,h2]
 by_cases hd:Dis n le
 ·rw[tv_t hd,cond_true,xdy h,obS,wgn _ _ (by rw[mkR_len];omega),obS]
  congr 2
  symm
  refine ja7 ?_
  rw[Bool.not_eq_true',decide_eq_false_iff_not,mkR_mem]
  constructor
  ·intro hc
   refine⟨hd,fun x hx he=>hc ⟨x,hx,by rw[he];rfl⟩⟩
  ·rintro⟨_,hc⟩ ⟨x,hx,e⟩
   exact hc x hx (List.eq_nil_of_length_eq_zero (by omega))
 ·rw[tv_f hd,tv_f fun hh=>hd hh.1];rfl
theorem implBool {n:Nat}{le:Nat→Nat→Bool}(h:LatP n le) (hg:V35 (pos n le)=some ((some (lat n le),true,()),())):V48 (pos n le)=some ((some (lat n le),tv (Dis n le∧Cmp n le),()),()):=by
 unfold V48 w28 V37 w2z
 obtain⟨U,h1,h2⟩:=xek h
 rw[hg,obS]
 simp only[cond_true,h1,obS,h2]
 by_cases hd:Dis n le
 ·rw[tv_t hd,cond_true,w5d h,obS,qr (show Cmp n le↔Dis n le∧Cmp n le from⟨fun hc=>⟨hd,hc⟩,fun hh=>hh.2⟩)]
 ·rw[tv_f hd,tv_f fun hh=>hd hh.1];rfl
theorem wgh {p:PT}(hx:∀r∈p.1,r.length≤4294967296):(∃n le,p=pos n le∧BoolP n le∧V68 p=some (true,())∧V48 p=some ((some (lat n le),true,()),())) ∨
  (V68 p=some (false,())∧∃l,V48 p=some ((l,false,()),())):=by
 rcases xw hx with⟨n,le,e,h,h1,h2⟩|⟨h1,l,h2⟩
 ·subst e
  have e1:=specGood29 h h1
  have e2:=implBool h h2
  by_cases hb:Dis n le∧Cmp n le
  ·rw[tv_t hb]at e1 e2
   exact .inl ⟨n,le,rfl,⟨h,hb.1,hb.2⟩,e1,e2⟩
  ·rw[tv_f hb]at e1 e2
   exact .inr ⟨e1,_,e2⟩
 ·refine .inr ⟨?_,l, ?_⟩
  ·unfold V68 w3v V63 w3q
   rw[h1];rfl
  ·unfold V48 w28 V37 w2z
   rw[h2];rfl
def cpl (n:Nat) (le:Nat→Nat→Bool) (x:Nat):Nat:=(comp n le x).headD 0
theorem wrl {n:Nat}{le:Nat→Nat→Bool}(hc:Cmp n le){x:Nat}(hx:x<n):∃h:0<(comp n le x).length,(comp n le x)[0]=cpl n le x:=by
 have h0:0<(comp n le x).length:=List.length_pos_iff.2 (hc x hx)
 refine⟨h0, ?_⟩
 unfold cpl
 rw[List.getElem_zero,List.headD_eq_head?_getD,List.head?_eq_some_head (List.ne_nil_of_length_pos h0)]
 rfl
theorem wd {n:Nat}{le:Nat→Nat→Bool}(hc:Cmp n le){x:Nat}(hx:x<n):cpl n le x<n∧mt n le (cpl n le x) x=bt n le∧mt n (du le) (cpl n le x) x=tp n le:=by
 obtain⟨h0,e⟩:=wrl hc hx
 have:=List.getElem_mem h0
 rw[e]at this
 have:=fl_mem.1 this
 simpa using this
theorem wj5 {n:Nat}{le:Nat→Nat→Bool}(h:BoolP n le):V50 big (some (lat n le))=some (mkR n fun x=>((cpl n le x:Nat):Int),()):=by
 have h10:=h.lp.le10
 unfold V50 w29
 rw[obS,lat1,mkR_len]
 refine xl2 n (fun i l=>l=mkR i fun x=>((cpl n le x:Nat):Int)) (by omega) ?_ ?_ 0 (by omega) _ rfl
 ·intro rc i l hi hv ih
  obtain⟨h0,e⟩:=wrl h.cmp hi
  have a1:=jo h0
  have a2:=jz h0
  rw[e]at a1 a2
  unfold wh4
  rw[cdt (by omega),wf6 h.lp hi,obS,show(0:Int)=((0:Nat):Int) from rfl,a1,obS,Int.toNat_natCast,a2,obS,app1 (by rw[hv,mkR_len];omega),obS,wr1 (by omega)]
  exact ih _ (by rw[hv];exact(jv i fun x=>((cpl n le x:Nat):Int)).symm)
 ·intro rc l hv
  unfold wh4
  rw[cdf (by omega),wed,hv]
theorem wx5 {n:Nat}{le:Nat→Nat→Bool}(h:BoolP n le):V70 big (pos n le)=some (mkR n fun x=>((cpl n le x:Nat):Int),()):=by
 have h10:=h.lp.le10
 unfold V70 w3w
 refine xmj n (fun i l=>l=mkR i fun x=>((cpl n le x:Nat):Int)) (by omega) ?_ ?_ 0 (by omega) _ rfl
 ·intro rc i l hi hv ih
  obtain⟨h0,e⟩:=wrl h.cmp hi
  have a1:=jo h0
  have a2:=jz h0
  rw[e]at a1 a2
  unfold wiw
  rw[wb,cdt (by omega),zo h.lp,obS,wp6 h.lp,obS,wp4 h.lp hi,obS]
  simp only[show(0:Int)=((0:Nat):Int) from rfl]
  rw[show atI (cs (rel n le (bt n le) i (tp n le))) ((0:Nat):Int)=_ from a1,obS,Int.toNat_natCast,show(cs (rel n le (bt n le) i (tp n le)))[0]? = _ from a2,obS,app1 (by rw[hv,mkR_len];omega),obS,wr1 (by omega)]
  exact ih _ (by rw[hv];exact(jv i fun x=>((cpl n le x:Nat):Int)).symm)
 ·intro rc l hv
  unfold wiw
  rw[wb,cdf (by omega),we4,hv]
theorem x9 {n:Nat}{le:Nat→Nat→Bool}(h:BoolP n le){a b c:Nat}(ha:a<n) (hb:b<n) (hc:c<n) (h1:∀t,t<n→le t a=true→le t c=true→le t b=true) (h2:∀t,t<n→le t a=true→le t (cpl n le c)=true→le t b=true):le a b=true:=by
 obtain⟨q1,q2,q3⟩:=wd h.cmp hc
 have e:=h.dis a (cpl n le c) c ha q1 hc
 rw[q3]at e
 have e2:mt n le a (tp n le)=a:=by
  have hl:=h.lp.mlt ha (yc h.lp)
  exact h.lp.as hl ha (h.lp.m1 ha (yc h.lp)) (h.lp.mg ha (yc h.lp) ha (h.lp.ord.refl a ha) (wlo h.lp ha))
 rw[e2]at e
 rw[e]
 have l1:=h.lp.mlt ha q1
 have l2:=h.lp.mlt ha hc
 exact jg h.lp l1 l2 hb (h2 _ l1 (h.lp.m1 ha q1) (h.lp.m2 ha q1)) (h1 _ l2 (h.lp.m1 ha hc) (h.lp.m2 ha hc))
theorem yr {n:Nat}{le:Nat→Nat→Bool}(h:BoolP n le){b c t:Nat}(hb:b<n) (hc:c<n) (ht:t<n) (h1:le t c=true) (h2:le t (cpl n le c)=true):le t b=true:=by
 obtain⟨q1,q2,q3⟩:=wd h.cmp hc
 have:=h.lp.mg q1 hc ht h2 h1
 rw[q2]at this
 exact h.lp.tr ht (xi h.lp) hb this (wgi h.lp hb)
def bsum (n:Nat) (le:Nat→Nat→Bool) (x y:Nat):Nat:=mt n (du le) (mt n le x (cpl n le y)) (mt n le (cpl n le x) y)
theorem xh {n:Nat}{le:Nat→Nat→Bool}(h:BoolP n le){x y:Nat}(hx:x<n) (hy:y<n):bsum n le x y<n :=
 jlt h.lp (h.lp.mlt hx (wd h.cmp hy).1) (h.lp.mlt (wd h.cmp hx).1 hy)
theorem wp5 {n:Nat}{le:Nat→Nat→Bool}(h:BoolP n le){x y:Nat}(hx:x<n) (hy:y<n):V71 (pos n le) (mkR n fun x=>((cpl n le x:Nat):Int)) (x:Int) (y:Int)=some (((bsum n le x y:Nat):Int),()):=by
 have c1:=(wd h.cmp hx).1
 have c2:=(wd h.cmp hy).1
 unfold V71 xg5
 simp only[jd hy,jd hx,obS,wv h.lp hx c2,wv h.lp c1 hy,zu h.lp (h.lp.mlt hx c2) (h.lp.mlt c1 hy)]
 rfl
theorem wp7 {n:Nat}{le:Nat→Nat→Bool}(h:BoolP n le){x y z:Nat}(hx:x<n) (hy:y<n) (hz:z<n):le (bsum n le y z) x=true↔mt n le (cpl n le x) y=mt n le (cpl n le x) z:=by
 obtain⟨cx,_,_⟩:=wd h.cmp hx
 obtain⟨cy,_,_⟩:=wd h.cmp hy
 obtain⟨cz,_,_⟩:=wd h.cmp hz
 have L:=h.lp
 have m1:=L.mlt hy cz
 have m2:=L.mlt cy hz
 have m3:=L.mlt cx hy
 have m4:=L.mlt cx hz
 constructor
 ·intro hs
  have s1:∀t,t<n→le t y=true→le t (cpl n le z)=true→le t x=true:=fun t ht h1 h2=>L.tr ht (xh h hy hz) hx (L.tr ht m1 (xh h hy hz) (L.mg hy cz ht h1 h2) (j1 L m1 m2)) hs
  have s2:∀t,t<n→le t (cpl n le y)=true→le t z=true→le t x=true:=fun t ht h1 h2=>L.tr ht (xh h hy hz) hx (L.tr ht m2 (xh h hy hz) (L.mg cy hz ht h1 h2) (j2 L m1 m2)) hs
  refine L.as m3 m4 (L.mg cx hz m3 (L.m1 cx hy) ?_) (L.mg cx hy m4 (L.m1 cx hz) ?_)
  ·refine x9 h m3 hz hz (fun t _ _ h2=>h2) fun t ht h1 h2 => ?_
   have ty:=L.tr ht m3 hy h1 (L.m2 cx hy)
   have tx:=L.tr ht m3 cx h1 (L.m1 cx hy)
   exact yr h hz hx ht (s1 t ht ty h2) tx
  ·refine x9 h m4 hy hy (fun t _ _ h2=>h2) fun t ht h1 h2 => ?_
   have tz:=L.tr ht m4 hz h1 (L.m2 cx hz)
   have tx:=L.tr ht m4 cx h1 (L.m1 cx hz)
   exact yr h hy hx ht (s2 t ht h2 tz) tx
 ·intro e
  have k1:∀t,t<n→le t (cpl n le x)=true→le t y=true→le t z=true:=fun t ht h1 h2=>by
   have:=L.mg cx hy ht h1 h2
   rw[e]at this
   exact L.tr ht m4 hz this (L.m2 cx hz)
  have k2:∀t,t<n→le t (cpl n le x)=true→le t z=true→le t y=true:=fun t ht h1 h2=>by
   have:=L.mg cx hz ht h1 h2
   rw[←e]at this
   exact L.tr ht m3 hy this (L.m2 cx hy)
  refine jg L m1 m2 hx ?_ ?_
  ·refine x9 h m1 hx hx (fun t _ _ h2=>h2) fun t ht h1 h2 => ?_
   have ty:=L.tr ht m1 hy h1 (L.m1 hy cz)
   have tz:=L.tr ht m1 cz h1 (L.m2 hy cz)
   exact yr h hx hz ht (k1 t ht h2 ty) tz
  ·refine x9 h m2 hx hx (fun t _ _ h2=>h2) fun t ht h1 h2 => ?_
   have ty:=L.tr ht m2 cy h1 (L.m1 cy hz)
   have tz:=L.tr ht m2 hz h1 (L.m2 cy hz)
   exact yr h hx hy ht (k2 t ht h2 tz) ty
def fst_ (n:Nat) (P:Nat→Bool):Nat:=(fl n P).headD 0
theorem wgl {n:Nat}{P:Nat→Bool}{w:Nat}(hw:w<n) (h:P w=true):fst_ n P<n∧P (fst_ n P)=true∧(∀i,i<fst_ n P→P i=false)∧fst_ n P≤w:=by
 have hm:w∈fl n P:=fl_mem.2 ⟨hw,h⟩
 have h0:0<(fl n P).length:=List.length_pos_of_mem hm
 have hf:=xf0 h0
 have e:fst_ n P=(fl n P)[0]:=by
  unfold fst_
  rw[List.getElem_zero,List.headD_eq_head?_getD,List.head?_eq_some_head (List.ne_nil_of_length_pos h0)]
  rfl
 rw[←e]at hf
 refine⟨hf.2.1,hf.1,hf.2.2, ?_⟩
 rcases Nat.lt_or_ge w (fst_ n P) with hlt|hge
 ·have:=hf.2.2 w hlt
  rw[h]at this;cases this
 ·exact hge
def cgB (n:Nat) (le:Nat→Nat→Bool) (x:Nat):List Int:=mkR n fun y=>((fst_ n fun z=>decide (mt n le (cpl n le x) z=mt n le (cpl n le x) y):Nat):Int)
theorem wyj {n:Nat}{g:Nat→Nat}(hn:n≤1048576):V51 big (mkR n fun y=>((g y:Nat):Int))=some (mkR n fun y=>((fst_ n fun z=>decide (g z=g y):Nat):Int),()):=by
 unfold V51 w3b
 rw[mkR_len,jar (by omega),obS,obS,cdt (by omega)]
 refine xl3 n (fun i p=>p=mkR n fun y=>if y<i then((fst_ n fun z=>decide (g z=g y):Nat):Int) else 0) (by omega) ?_ ?_ 0 (by omega) _ (jq fun y _=>by simp)
 ·intro rc i p hi hv ih
  have hs:=wgl (P:=fun z=>decide (g z=g i)) hi (by simp)
  unfold wef
  rw[cdt (by omega),hv,jd hi,obS,Int.toNat_natCast,ju hi,obS,qy]
  have key:∀(k:Nat),k≤(fst_ n fun z=>decide (g z=g i))→(mkR n fun j=>if j=i then(0:Int) else if j<i then((fst_ n fun z=>decide (g z=g j):Nat):Int) else 0)=(mkR n fun j=>if j=i then(0:Int) else if j<i then((fst_ n fun z=>decide (g z=g j):Nat):Int) else 0):=fun _ _=>rfl
  refine xl4 (fun p=>((fst_ n fun z=>decide (g z=g i))-(p.getD i 0).toNat)) (fun p=>∃k:Nat,k≤(fst_ n fun z=>decide (g z=g i))∧p=mkR n fun j=>if j=i then(k:Int) else if j<i then((fst_ n fun z=>decide (g z=g j):Nat):Int) else 0) ?_ _ ?_ ⟨0,by omega,by rfl⟩
  ·intro rc2 p2 hv2 ih2
   obtain⟨k,hk,e⟩:=hv2
   subst e
   have hkn:k<n:=by omega
   unfold wvf
   simp only[jd hi,obS,Int.toNat_natCast,ju hi,if_true,jd hkn,wr1 (show k≤4611686018427387904 by omega)]
   by_cases hgk:g k=g i
   ·rw[cdf (by omega),wh7,wr1 (by omega)]
    have hkf:k=fst_ n fun z=>decide (g z=g i):=by
     rcases Nat.lt_or_ge k (fst_ n fun z=>decide (g z=g i)) with hlt|hge
     ·have:=hs.2.2.1 k hlt
      simp[hgk]at this
     ·omega
    refine ih _ ?_
    refine jq fun j _ => ?_
    by_cases hj:j=i
    ·subst hj;rw[if_pos rfl,if_pos (by omega),←hkf]
    ·rw[if_neg hj]
     by_cases hj2:j<i
     ·rw[if_pos hj2,if_pos (by omega)]
     ·rw[if_neg hj2,if_neg (by omega)]
   ·have hlt:k<fst_ n fun z=>decide (g z=g i):=by
     rcases Nat.lt_or_ge k (fst_ n fun z=>decide (g z=g i)) with hlt|hge
     ·exact hlt
     ·have e:k=fst_ n fun z=>decide (g z=g i):=by omega
      have:=hs.2.1
      rw[←e]at this
      exact absurd (by simpa using this) hgk
    rw[cdt (by omega),qy]
    have e1:(mkR n fun j=>if j=i then((k+1:Nat):Int) else if j=i then(k:Int) else if j<i then((fst_ n fun z=>decide (g z=g j):Nat):Int) else 0)=mkR n fun j=>if j=i then((k+1:Nat):Int) else if j<i then((fst_ n fun z=>decide (g z=g j):Nat):Int) else 0:=jq fun j _=>by
     by_cases hj:j=i
     ·rw[if_pos hj,if_pos hj]
     ·rw[if_neg hj,if_neg hj,if_neg hj]
    refine ih2 _ ⟨k+1,by omega,e1⟩ ?_
    rw[List.getD_eq_getElem?_getD,List.getD_eq_getElem?_getD,ju hi,ju hi,if_pos rfl,if_pos rfl]
    simp only[Option.getD_some,Int.toNat_natCast]
    omega
  ·omega
 ·intro rc p hv
  unfold wef
  rw[cdf (by omega),y8,hv]
  congr 2
  exact jq fun y hy=>by rw[if_pos hy]
theorem wo {n:Nat}{le:Nat→Nat→Bool}(h:BoolP n le){x:Nat}(hx:x<n):V52 (some (lat n le)) (x:Int)=some (cgB n le x,()):=by
 have h10:=h.lp.le10
 have c1:=(wd h.cmp hx).1
 unfold V52 xgv
 rw[wj5 h,obS,jd hx,obS,Int.toNat_natCast,ju hx,obS,obS,lat2,jd c1,obS,wyj (by omega)]
 rfl
theorem xl {n:Nat}{le:Nat→Nat→Bool}(h:BoolP n le){x:Nat}(hx:x<n):V72 big (pos n le) (x:Int)=some (cgB n le x,()):=by
 have h10:=h.lp.le10
 unfold V72 w3y
 rw[wx5 h,obS]
 refine xmk n (fun i l=>l=mkR i fun y=>((fst_ n fun z=>decide (mt n le (cpl n le x) z=mt n le (cpl n le x) y):Nat):Int)) (by omega) ?_ ?_ 0 (by omega) _ rfl
 ·intro rc i l hi hv ih
  have hs:=wgl (P:=fun z=>decide (mt n le (cpl n le x) z=mt n le (cpl n le x) i)) hi (by simp)
  unfold we7
  rw[wb,cdt (by omega)]
  have hE:∀z,z<n→le (bsum n le i z) x=decide (mt n le (cpl n le x) z=mt n le (cpl n le x) i):=fun z hz=>by
   rw[Bool.eq_iff_iff,decide_eq_true_eq,wp7 h hx hi hz]
   exact eq_comm
  refine xml (fst_ n fun z=>decide (mt n le (cpl n le x) z=mt n le (cpl n le x) i)) (fun _=>True) (by omega) ?_ ?_ 0 (by omega) trivial
  ·intro rc2 k hk _ ih2
   unfold wiz
   rw[wp5 h hi (by omega),obS,wu (by omega) (xh h hi (by omega)) hx,obS,hE k (by omega),hs.2.2.1 k hk,wr1 (by omega)]
   exact ih2 trivial
  ·intro rc2 _
   unfold wiz
   rw[wp5 h hi hs.1,obS,wu (by omega) (xh h hi hs.1) hx,obS,hE _ hs.1,hs.2.1,Bool.not_true,cond_false,we6,app1 (by rw[hv,mkR_len];omega),obS,wr1 (by omega)]
   exact ih _ (by rw[hv];exact(jv i fun y=>((fst_ n fun z=>decide (mt n le (cpl n le x) z=mt n le (cpl n le x) y):Nat):Int)).symm)
 ·intro rc l hv
  unfold we7
  rw[wb,cdf (by omega),zf,hv]
  rfl
theorem wj8 (a b:List Int) (h:a.length≤4294967296):V98 big a b=some (decide (a=b),()):=by
 unfold V98 w4w
 by_cases hl:a.length=b.length
 ·rw[cdf (by omega)]
  refine xm2 a.length (fun i=>a.take i=b.take i) (by omega) ?_ ?_ 0 (by omega) rfl
  ·intro rc i hi hv ih
   have hi2:i<b.length:=by omega
   unfold wjw
   rw[cdt (by omega),jf a i hi,obS,jf b i hi2,obS,wr1 (by omega)]
   by_cases e:a[i]=b[i]
   ·rw[cdf (by omega)]
    exact ih (by rw[List.take_succ_eq_append_getElem hi,List.take_succ_eq_append_getElem hi2,hv,e])
   ·rw[cdt e,decide_eq_false fun h=>by subst h;exact e rfl]
  ·intro rc hv
   rw[List.take_length,hl,List.take_length]at hv
   unfold wjw
   rw[cdf (by omega),wfu,decide_eq_true hv]
 ·rw[cdt (by omega),decide_eq_false fun h=>hl (by rw[h])]
theorem xf3 (p:PT) (q:List Int) (hx:∀r∈p.1,r.length≤4294967296):∃v:Int×Bool×Unit,V99 big p q=some (v,())∧V76 big p q=some (v,()):=by
 unfold V99 w4y V76 wsn
 rcases wgh hx with⟨n,le,e,h,h1,h2⟩|⟨h1,l,h2⟩
 ·subst e
  have h10:=h.lp.le10
  rw[h1,h2]
  simp only[obS,Bool.not_true,cond_false,lat1,mkR_len]
  have hlen:∀x,(cgB n le x).length=n:=fun x=>by unfold cgB;rw[mkR_len]
  by_cases hex:∃w,w<n∧cgB n le w=q
  ·obtain⟨w,hw,e⟩:=hex
   have hs:=wgl (P:=fun x=>decide (cgB n le x=q)) hw (by simp[e])
   have e2:cgB n le (fst_ n fun x=>decide (cgB n le x=q))=q:=by simpa using hs.2.1
   refine⟨((fst_ n fun x=>decide (cgB n le x=q):Nat),true,()), ?_, ?_⟩
   ·refine xde (fst_ n fun x=>decide (cgB n le x=q)) (fun _=>True) (by omega) ?_ ?_ 0 (by omega) trivial
    ·intro rc i hi _ ih
     have hf:¬cgB n le i=q:=by simpa using hs.2.2.1 i hi
     unfold wbv
     rw[wb,cdt (by omega),xl h (by omega),obS,wj8 _ _ (by rw[hlen];omega),obS,decide_eq_false hf,wr1 (by omega)]
     exact ih trivial
    ·intro rc _
     unfold wbv
     rw[wb,cdt (by omega),xl h hs.1,obS,wj8 _ _ (by rw[hlen];omega),obS,decide_eq_true e2]
     rfl
   ·refine wwg (fst_ n fun x=>decide (cgB n le x=q)) (fun _=>True) (by omega) ?_ ?_ 0 (by omega) trivial
    ·intro rc i hi _ ih
     have hf:¬cgB n le i=q:=by simpa using hs.2.2.1 i hi
     unfold x6
     rw[cdt (by omega),wo h (by omega),obS,wn _ _ (by rw[hlen];omega),obS,decide_eq_false hf,wr1 (by omega)]
     exact ih trivial
    ·intro rc _
     unfold x6
     rw[cdt (by omega),wo h hs.1,obS,wn _ _ (by rw[hlen];omega),obS,decide_eq_true e2]
     rfl
  ·refine⟨(0,false,()), ?_, ?_⟩
   ·refine xde n (fun _=>True) (by omega) ?_ ?_ 0 (by omega) trivial
    ·intro rc i hi _ ih
     unfold wbv
     rw[wb,cdt (by omega),xl h hi,obS,wj8 _ _ (by rw[hlen];omega),obS,decide_eq_false fun e=>hex ⟨i,hi,e⟩,wr1 (by omega)]
     exact ih trivial
    ·intro rc _
     unfold wbv
     rw[wb,cdf (by omega),wfv]
   ·refine wwg n (fun _=>True) (by omega) ?_ ?_ 0 (by omega) trivial
    ·intro rc i hi _ ih
     unfold x6
     rw[cdt (by omega),wo h hi,obS,wn _ _ (by rw[hlen];omega),obS,decide_eq_false fun e=>hex ⟨i,hi,e⟩,wr1 (by omega)]
     exact ih trivial
    ·intro rc _
     unfold x6
     rw[cdf (by omega),wfa]
 ·rw[h1,h2]
  exact⟨_,rfl,rfl⟩
def atm (n:Nat) (le:Nat→Nat→Bool):List Nat:=fl n fun y=>cov n le (bt n le) y
theorem xge {n:Nat}{le:Nat→Nat→Bool}(hn:n≤1048576){x:Nat}(hx:x<n):V124 (mkT n le) (x:Int)=some (cs (fl n fun y=>cov n le x y),()):=by
 unfold V124 w6c
 rw[zp (mkR_len n _) hn (P:=fun y=>cov n le x y)]
 ·rfl
 ·intro i hi
  unfold V122 w6b
  rw[xd0 hn hx hi];rfl
theorem wxh {n:Nat}{le:Nat→Nat→Bool}(h:LatP n le):V125 (some (lat n le))=some (cs (atm n le),()):=by
 have h10:=h.le10
 unfold V125 w6d
 rw[obS,wrx h,obS,lat1,xge (by omega) (xi h)];rfl
theorem wx4 {n:Nat}{le:Nat→Nat→Bool}(h:LatP n le):V127 big (pos n le)=some (cs (atm n le),()):=by
 have h10:=h.le10
 unfold V127 wtr
 rw[zo h,obS]
 refine xic n (fun i l=>l=cs (fl i fun y=>cov n le (bt n le) y)) (by omega) ?_ ?_ 0 (by omega) _ rfl
 ·intro rc i l hi hv ih
  have hl:=jh i fun y=>cov n le (bt n le) y
  unfold wc1
  rw[wb,cdt (by omega),wr8 (by omega) (xi h) hi,obS,wr1 (by omega)]
  cases hc:cov n le (bt n le) i with
  | true=>rw[cond_true,app1 (by rw[hv,cs_len];omega),obS];exact ih _ (by rw[hv];exact fl_t (P:=fun y=>cov n le (bt n le) y) hc)
  | false=>exact ih _ (by rw[hv];exact fl_f (P:=fun y=>cov n le (bt n le) y) hc)
 ·intro rc l hv
  unfold wc1
  rw[wb,cdf (by omega),wai,hv]
  rfl
def Cen (n:Nat) (le:Nat→Nat→Bool) (x y:Nat):Prop:=∀z,z<n→mt n (du le) (mt n le z x) (mt n le z y)=z∧mt n le (mt n (du le) z x) (mt n (du le) z y)=z
noncomputable def cenB (n:Nat) (le:Nat→Nat→Bool) (x:Nat):Bool:=(comp n le x).any fun y=>tv (Cen n le x y)
abbrev P2:=Int×Int×Unit
def lx:List Int→List Int→Bool
 | a::s,b::t=>if a≠b then decide (a<b) else lx s t
 | _,_=>false
theorem xk5 {a b:List Int}{i:Nat}(h1:i<a.length) (h2:i<b.length):lx (a.drop i) (b.drop i)=if a[i]≠b[i] then decide (a[i]<b[i]) else lx (a.drop (i+1)) (b.drop (i+1)):=by
 rw[List.drop_eq_getElem_cons h1,List.drop_eq_getElem_cons h2,lx]
theorem xgb (l:List Int) (i:Nat) (h:i≤l.length):slI l 0 (i:Int)=some (l.take i):=by
 have:=qn l 0 i (by omega) h
 simpa using this
def upd (b f:List Int) (g:Bool):List Int:=if g&&(decide (b.length=0)||lx f b) then f else b
def f5 (n:Nat) (le:Nat→Nat→Bool) (o:Nat) (x y z i:Nat):List Int:=[(o:Int),(x:Int),(y:Int),(z:Int),(i:Int)]
theorem wpu {n:Nat}{P Q:Nat→Bool}(h:∀x,x<n→P x=true→Q x=true){y:Nat}(hy:y<n) (h1:Q y=true) (h2:P y=false):(fl n P).length<(fl n Q).length:=by
 have hm:(fl n P).Sublist (fl n Q):=by
  have e:fl n P=(fl n Q).filter P:=by
   unfold fl
   rw[List.filter_filter]
   refine List.filter_congr fun x hx => ?_
   have:=h x (List.mem_range.1 hx)
   cases hp:P x with
   | true=>simp[this hp]
   | false=>simp
  rw[e];exact List.filter_sublist
 refine Nat.lt_of_le_of_ne hm.length_le fun e => ?_
 have:=hm.eq_of_length e
 have hq:=Go.Gx.fl_inj this hy
 rw[h1,h2]at hq
 exact absurd hq (by simp)
theorem xdz {n:Nat}{le:Nat→Nat→Bool}{x y:Nat}(h:cov n le x y=true):ls le x y=true:=by
 unfold cov at h
 exact(Bool.and_eq_true_iff.1 h).1
theorem w1h {n:Nat}{le:Nat→Nat→Bool}(h:LatP n le){x:Nat}(hx:x<n):mt n le x x=x:=by unfold mt;rw[wl3 h.ord hx];rfl
abbrev OpT:=Int×List Int×Unit
abbrev AlT:=Int×List OpT×Unit
def SmallA (a:AlT):Prop:=a.2.1.length≤1048576∧∀o∈a.2.1,o.2.1.length≤1048576
def flt (n:Nat) (f:Nat→Nat→Int):Nat→List Int
 | 0=>[]
 | k+1=>flt n f k++mkR n (f k)
theorem xj (n:Nat) (f:Nat→Nat→Int):∀k,(flt n f k).length=k*n
 | 0=>by simp[flt]
 | k+1=>by rw[flt,List.length_append,xj n f k,mkR_len,Nat.succ_mul]
theorem wlp {i n:Nat}(h1:i≤10) (h2:n≤10):i*n≤100:=by
 have:=Nat.mul_le_mul h1 h2;omega
theorem xd3 {n:Nat}{f:Nat→Nat→Int}(h:n≤10):V77 big (mkT n f)=some ((2,flt n f n,()),()):=by
 unfold V77 w34
 rw[mkR_len]
 refine xmo n (fun i o=>o=((2:Int),flt n f i,())) (by omega) ?_ ?_ 0 (by omega) _ rfl
 ·intro rc i o hi hv ih
  have hl:=xj n f i
  have hn:=wlp (i:=i) (n:=n) (by omega) h
  subst hv
  unfold wi6
  have e:appI (flt n f i) (mkR n (f i))=some (flt n f (i+1)):=by
   unfold appI
   rw[if_pos (by rw[mkR_len];omega)];rfl
  simp only[cdt (show(i:Int)<(n:Int) by omega),jd hi,obS,e,wr1 (show i≤4611686018427387904 by omega)]
  exact ih _ rfl
 ·intro rc o hv
  unfold wi6
  rw[cdf (by omega),wfb,hv]
abbrev meetF (n:Nat) (le:Nat→Nat→Bool):Nat→Nat→Int:=fun x y=>((mt n le x y:Nat):Int)
def latAlg (n:Nat) (le:Nat→Nat→Bool):AlT:=((n:Int),[(2,flt n (meetF n le) n,()),(2,flt n (meetF n (du le)) n,())],())
theorem w43 {n:Nat}{le:Nat→Nat→Bool}(h:LatP n le):V78 (some (lat n le))=some (latAlg n le,()):=by
 unfold V78 xg7
 simp only[obS,lat1,lat2,lat3,mkR_len,xd3 h.le10]
 rfl
structure Pt (n:Nat) (P:Nat→Nat):Prop where
 lo:∀x,x<n→P x≤x
 id:∀x,x<n→P (P x)=P x
theorem Pt.lt {n:Nat}{P:Nat→Nat}(h:Pt n P){x:Nat}(hx:x<n):P x<n:=Nat.lt_of_le_of_lt (h.lo x hx) hx
def ptL (n:Nat) (P:Nat→Nat):List Int:=mkR n fun x=>((P x:Nat):Int)
theorem w8 (n:Nat) (P:Nat→Nat):(ptL n P).length=n:=mkR_len _ _
def Lep (n:Nat) (P C:Nat→Nat):Prop:=∀x,x<n→C (P x)=C x
def uni (P:Nat→Nat) (x y z:Nat):Nat:=if P z=max (P x) (P y) then min (P x) (P y) else P z
def cls (n:Nat) (P:Nat→Nat):Nat:=(fl n fun x=>decide (P x=x)).length
theorem Lep.refl {n:Nat}{P:Nat→Nat}(h:Pt n P):Lep n P P:=h.id
theorem Lep.trans {n:Nat}{P Q C:Nat→Nat}(h:Pt n P) (h1:Lep n P Q) (h2:Lep n Q C):Lep n P C:=fun x hx=>by
 have e1:=h1 x hx
 have e2:=h2 (P x) (h.lt hx)
 have e3:=h2 x hx
 rw[←e2,e1,e3]
theorem Lep.eq {n:Nat}{P Q:Nat→Nat}(h:Pt n P) (h':Pt n Q) (h1:Lep n P Q) (h2:Lep n Q P){x:Nat}(hx:x<n):P x=Q x:=by
 have a1:=h1 x hx
 have a2:=h2 x hx
 have b1:=h'.lo (P x) (h.lt hx)
 have b2:=h.lo (Q x) (h'.lt hx)
 omega
theorem Lep.ker {n:Nat}{P C:Nat→Nat}(h:Lep n P C){x y:Nat}(hx:x<n) (hy:y<n) (e:P x=P y):C x=C y:=by
 rw[←h x hx,←h y hy,e]
theorem xe {n:Nat}{P:Nat→Nat}(h:Pt n P){x y:Nat}(hx:x<n) (hy:y<n):Pt n (uni P x y) where
 lo:=fun z hz=>by
  have:=h.lo z hz
  unfold uni;split<;>omega
 id:=fun z hz=>by
  have e1:=h.id x hx
  have e2:=h.id y hy
  have e3:=h.id z hz
  unfold uni
  by_cases c:P z=max (P x) (P y)
  ·rw[if_pos c]
   rcases Nat.le_total (P x) (P y) with hl|hl
   ·rw[Nat.min_eq_left hl,Nat.max_eq_right hl,e1]
    split<;>omega
   ·rw[Nat.min_eq_right hl,Nat.max_eq_left hl,e2]
    split<;>omega
  ·rw[if_neg c,e3,if_neg c]
theorem wf9 {n:Nat}{P C:Nat→Nat}(hp:Pt n P) (h:Lep n P C){x y:Nat}(hx:x<n) (hy:y<n) (e:C x=C y):Lep n (uni P x y) C:=fun z hz=>by
 have e1:=h x hx
 have e2:=h y hy
 have e3:=h z hz
 unfold uni
 by_cases c:P z=max (P x) (P y)
 ·rw[if_pos c]
  rcases Nat.le_total (P x) (P y) with hl|hl
  ·rw[Nat.max_eq_right hl]at c
   rw[Nat.min_eq_left hl,e1,←e3,c,e2,e]
  ·rw[Nat.max_eq_left hl]at c
   rw[Nat.min_eq_right hl,e2,←e3,c,e1,e]
 ·rw[if_neg c,e3]
theorem wb1 {n:Nat}{P:Nat→Nat}(hp:Pt n P) (x y:Nat):Lep n P (uni P x y):=fun z hz=>by
 unfold uni;rw[hp.id z hz]
theorem xem (P:Nat→Nat) (x y:Nat):uni P x y x=uni P x y y:=by
 unfold uni
 rcases Nat.le_total (P x) (P y) with hl|hl
 ·rw[Nat.min_eq_left hl,Nat.max_eq_right hl]
  split<;>simp_all
 ·rw[Nat.min_eq_right hl,Nat.max_eq_left hl]
  split<;>simp_all
theorem wmb {P:Nat→Nat}{x y:Nat}(e:P x=P y) (z:Nat):uni P x y z=P z:=by
 unfold uni;rw[e,Nat.max_self,Nat.min_self];split<;>simp_all
theorem xnc {n:Nat}{P Q:Nat→Nat}(h:Pt n P) (h':Pt n Q) (hl:Lep n P Q){x:Nat}(hx:x<n) (hne:Q x≠P x):cls n Q<cls n P:=by
 refine wpu (fun z hz e => ?_) (h.lt hx) (decide_eq_true (h.id x hx)) (decide_eq_false fun e=>hne ?_)
 ·have e:=of_decide_eq_true e
  have a1:=hl z hz
  have a2:=h.lo z hz
  have a3:=h'.lo (P z) (h.lt hz)
  exact decide_eq_true (by omega)
 ·rw[←hl x hx,e]
theorem xdx {n:Nat}(P:Nat→Nat):cls n P≤n:=jh _ _
theorem zm {n:Nat}{P Q:Nat→Nat}(e:∀x,x<n→P x=Q x):cls n P=cls n Q:=by
 unfold cls;rw[ux fun x hx=>by rw[e x hx]]
theorem xx {n:Nat}{P Q:Nat→Nat}(e:∀x,x<n→P x=Q x):ptL n P=ptL n Q:=jq fun x hx=>by rw[e x hx]
theorem w1j {n:Nat}{P Q:Nat→Nat}(e:ptL n P=ptL n Q){x:Nat}(hx:x<n):P x=Q x:=Int.ofNat.inj (jlr e hx)
theorem wgs {n:Nat}{P:Nat→Nat}{x y:Nat}(hn:n≤1048576) (hx:x<n) (hy:y<n):V85 big (ptL n P) (x:Int) (y:Int)=some (decide (P x≠P y),(ptL n (uni P x y),())):=by
 unfold V85 w4d
 have g:∀z,z<n→atI (ptL n P) (z:Int)=some ((P z:Nat):Int):=fun z hz=>jd hz
 have g2:∀z,z<n→(ptL n P)[z]? = some ((P z:Nat):Int):=fun z hz=>ju hz
 simp only[g x hx,g y hy,Int.toNat_natCast,g2 x hx,g2 y hy,obS,w8]
 by_cases e:P x=P y
 ·rw[cdt (congrArg Nat.cast e),decide_eq_false (by simpa using e),xx fun z _=>wmb e z]
 ·rw[cdf (show ¬((P x:Nat):Int)=((P y:Nat):Int) by omega),show decide (P x≠P y)=true from decide_eq_true e]
  have key:∀lo hi:Nat,lo=min (P x) (P y)→hi=max (P x) (P y)→wox big (ptL n P) (lo:Int) (hi:Int) (n:Int) 0=some (true,(ptL n (uni P x y),())):=by
   intro lo hi e1 e2
   have hlh:lo≠hi:=by omega
   refine xmt n (fun i q=>q=mkR n fun z=>((if z<i then uni P x y z else P z:Nat):Int)) (by omega) ?_ ?_ 0 (by omega) _ (jq fun z _=>by rw[if_neg (by omega)])
   ·intro rc i q hi' hq ih
    subst hq
    unfold wje
    simp only[cdt (show(i:Int)<(n:Int) by omega),Int.toNat_natCast,jd hi',ju hi',obS,wr1 (show i≤4611686018427387904 by omega),Nat.lt_irrefl,if_false]
    by_cases c:P i=hi
    ·rw[cdt (congrArg Nat.cast c)]
     refine ih _ ?_
     rw[qy]
     refine jq fun z hz => ?_
     by_cases ez:z=i
     ·subst ez
      rw[if_pos rfl,if_pos (by omega)]
      unfold uni
      rw[if_pos (by omega),e1]
     ·rw[if_neg ez]
      by_cases lt:z<i
      ·rw[if_pos lt,if_pos (by omega)]
      ·rw[if_neg lt,if_neg (by omega)]
    ·rw[cdf (show ¬((P i:Nat):Int)=(hi:Int) by omega)]
     refine ih _ (jq fun z hz => ?_)
     by_cases ez:z=i
     ·subst ez
      rw[if_neg (by omega),if_pos (by omega)]
      unfold uni
      rw[if_neg (by omega)]
     ·by_cases lt:z<i
      ·rw[if_pos lt,if_pos (by omega)]
      ·rw[if_neg lt,if_neg (by omega)]
   ·intro rc q hq
    subst hq
    unfold wje
    rw[cdf (by omega),wfe]
    rw[show(mkR n fun z=>((if z<n then uni P x y z else P z:Nat):Int))=ptL n (uni P x y) from jq fun z hz=>by rw[if_pos hz]]
  by_cases c:P y<P x
  ·rw[cdt (show((P y:Nat):Int)<((P x:Nat):Int) by omega)]
   exact key _ _ (by omega) (by omega)
  ·rw[cdf (show ¬((P y:Nat):Int)<((P x:Nat):Int) by omega)]
   exact key _ _ (by omega) (by omega)
def PartL (n:Nat) (l:List Int):Prop:=∃P,Pt n P∧l=ptL n P
theorem zt {n:Nat}{l:List Int}(hl:l.length=n):PartL n l↔∀x (h:x<n),0≤l[x]'(by omega)∧l[x]'(by omega)≤(x:Int)∧l[(l[x]'(by omega)).toNat]? = some (l[x]'(by omega)):=by
 constructor
 ·rintro⟨P,hp,rfl⟩ x hx
  have e:(ptL n P)[x]'(by rw[w8];exact hx)=((P x:Nat):Int):=by simp[ptL,mkR]
  rw[e,Int.toNat_natCast,show(ptL n P)[P x]? = some ((P (P x):Nat):Int) from ju (hp.lt hx),hp.id x hx]
  exact⟨by omega,by have:=hp.lo x hx;omega,rfl⟩
 ·intro h
  have hlt:∀x,x<n→((l.getD x 0).toNat≤x∧0≤l.getD x 0):=fun x hx=>by
   have h1:=h x hx
   have e:l.getD x 0=l[x]'(by omega):=by rw[List.getD_eq_getElem?_getD,List.getElem?_eq_getElem (by omega)];rfl
   rw[e];omega
  refine⟨fun x=>(l.getD x 0).toNat,⟨fun x hx=>(hlt x hx).1,fun x hx => ?_⟩, ?_⟩
  ·have h1:=h x hx
   have e:l.getD x 0=l[x]'(by omega):=by rw[List.getD_eq_getElem?_getD,List.getElem?_eq_getElem (by omega)];rfl
   show(l.getD (l.getD x 0).toNat 0).toNat=(l.getD x 0).toNat
   have e2:l.getD (l.getD x 0).toNat 0=l.getD x 0:=by
    rw[List.getD_eq_getElem?_getD,e,h1.2.2];rfl
   rw[e2]
  ·refine jcg hl fun i hi => ?_
   have h1:=hlt i (by omega)
   have e:l.getD i 0=l[i]:=by rw[List.getD_eq_getElem?_getD,List.getElem?_eq_getElem hi];rfl
   show l[i]=(((l.getD i 0).toNat:Nat):Int)
   rw[←e];omega
theorem wrn {n:Nat}{l:List Int}(hn:n≤1048576) (hl:l.length≤1048576):V83 big (n:Int) l=some (tv (PartL n l),()):=by
 unfold V83 w4a
 by_cases e:l.length=n
 ·rw[cdf (by omega),e]
  refine xms n (fun i=>∀x,x<i→∀h:x<l.length,0≤l[x]∧l[x]≤(x:Int)∧l[(l[x]).toNat]? = some l[x]) (by omega) ?_ ?_ 0 (by omega) (by intro x hx;omega)
  ·intro rc i hi hv ih
   have hil:i<l.length:=by omega
   unfold wjc
   simp only[cdt (show(i:Int)<(n:Int) by omega),jf l i hil,obS,wr1 (show i≤4611686018427387904 by omega)]
   by_cases c1:l[i]<0
   ·rw[cdt c1,tv_f fun hh=>by have:=(zt e).1 hh i hi;omega]
   ·rw[cdf c1]
    by_cases c2:(i:Int)<l[i]
    ·rw[cdt c2,tv_f fun hh=>by have:=(zt e).1 hh i hi;omega]
    ·rw[cdf c2]
     have hlt:(l[i]).toNat<l.length:=by omega
     have hat:atI l l[i]=some l[(l[i]).toNat]:=by
      have:=jf l (l[i]).toNat hlt
      rwa [Int.toNat_of_nonneg (by omega)]at this
     rw[hat,obS]
     by_cases c3:l[(l[i]).toNat]=l[i]
     ·rw[cdf (fun hc=>hc c3)]
      exact ih (all_lt_succ.2 ⟨hv,fun _=>⟨by omega,by omega,by rw[List.getElem?_eq_getElem hlt,c3]⟩⟩)
     ·rw[cdt c3,tv_f fun hh=>by
       have:=(zt e).1 hh i hi
       rw[List.getElem?_eq_getElem hlt]at this
       exact c3 (Option.some.inj this.2.2)]
  ·intro rc hv
   unfold wjc
   rw[cdf (by omega),wfd,tv_t ((zt e).2 fun x hx=>hv x hx (by omega))]
 ·rw[cdt (by omega),tv_f fun hh=>by obtain⟨P,_,rfl⟩:=hh;exact e (w8 n P)]
def opsL (n:Nat) (fs:List (Nat→Nat→Nat)):List OpT:=fs.map fun f=>((2:Int),flt n (fun x y=>((f x y:Nat):Int)) n,())
def algL (n:Nat) (fs:List (Nat→Nat→Nat)):AlT:=((n:Int),opsL n fs,())
def Opn (n:Nat) (fs:List (Nat→Nat→Nat)):Prop:=∀f∈fs,∀x y,x<n→y<n→f x y<n
def oth (f:Nat→Nat→Nat) (n:Nat) (P:Nat→Nat) (k i:Nat):Nat:=if k=0 then f (i / n) (P (i % n)) else f (P (i / n)) (i % n)
def Wp (f:Nat→Nat→Nat) (n:Nat) (P:Nat→Nat) (k i:Nat):Prop:=P (f (i / n) (i % n))=P (oth f n P k i)
def Cg (n:Nat) (fs:List (Nat→Nat→Nat)) (P:Nat→Nat):Prop:=∀f∈fs,∀k,k<2→∀i,i<n*n→Wp f n P k i
def Lst (n:Nat) (fs:List (Nat→Nat→Nat)) (P p:Nat→Nat):Prop:=∀C,Pt n C→Lep n P C→Cg n fs C→Lep n p C
theorem wt {n i:Nat}(h:i<n*n):i / n<n∧i % n<n:=by
 have hn:0<n:=by
  rcases Nat.eq_zero_or_pos n with e|e
  ·subst e;omega
  ·exact e
 exact⟨Nat.div_lt_of_lt_mul h,Nat.mod_lt _ hn⟩
theorem w5f {n x y:Nat}(hx:x<n) (hy:y<n):x*n+y<n*n∧(x*n+y) / n=x∧(x*n+y) % n=y:=by
 have hn:0<n:=by omega
 refine⟨?_, ?_, ?_⟩
 ·have:=Nat.mul_le_mul_right n (show x+1≤n by omega)
  rw[Nat.succ_mul]at this;omega
 ·rw[Nat.mul_comm,Nat.mul_add_div hn,Nat.div_eq_of_lt hy,Nat.add_zero]
 ·rw[Nat.mul_comm,Nat.mul_add_mod,Nat.mod_eq_of_lt hy]
theorem xhs (n i:Nat):i / n*n+i % n=i:=by
 rw[Nat.mul_comm];exact Nat.div_add_mod i n
theorem wrm {n:Nat}{f:Nat→Nat→Int}(hn:0<n):∀{k i:Nat},i<k*n→(flt n f k)[i]? = some (f (i / n) (i % n))
 | 0,i,h=>by omega
 | k+1,i,h=>by
  have hl:=xj n f k
  rw[Nat.succ_mul]at h
  unfold flt
  by_cases c:i<k*n
  ·rw[List.getElem?_append_left (by omega)];exact wrm hn c
  ·obtain⟨j,rfl⟩:∃j,i=n*k+j:=⟨i-n*k,by rw[Nat.mul_comm n k];omega⟩
   have h2:j<n:=by rw[Nat.mul_comm n k]at h;omega
   have h3:n*k+j-k*n=j:=by rw[Nat.mul_comm n k];omega
   have e1:(n*k+j) / n=k:=by rw[Nat.mul_add_div hn,Nat.div_eq_of_lt h2,Nat.add_zero]
   have e2:(n*k+j) % n=j:=by rw[Nat.mul_add_mod,Nat.mod_eq_of_lt h2]
   rw[List.getElem?_append_right (by omega),hl,h3,ju h2,e1,e2]
theorem wlq (n:Nat) (fs:List (Nat→Nat→Nat)):(opsL n fs).length=fs.length:=List.length_map _
theorem xng {n:Nat}{fs:List (Nat→Nat→Nat)}{t:Nat}(h:t<fs.length):atI (opsL n fs) (t:Int)=some ((2:Int),flt n (fun x y=>((fs[t] x y:Nat):Int)) n,()):=by
 rw[jf _ t (by rw[wlq];exact h)];simp[opsL]
theorem wp8 {n:Nat}{f:Nat→Nat→Nat}{i:Nat}(h:i<n*n):atI (flt n (fun x y=>((f x y:Nat):Int)) n) (i:Int)=some ((f (i / n) (i % n):Nat):Int):=by
 have hn:0<n:=Nat.lt_of_le_of_lt (Nat.zero_le _) (wt h).1
 rw[qc,wrm hn h]
theorem wrs {a b:Nat}(hb:0<b) (ha:a≤4611686018427387904):quoI IntKind.i64 (a:Int) (b:Int)=some ((a / b:Nat):Int):=by
 unfold quoI
 rw[if_neg (by omega),Int.tdiv_eq_ediv_of_nonneg (by omega),←Int.natCast_ediv,wr (by have:=Int.natCast_nonneg (a / b);omega) (by have:=Nat.div_le_self a b;generalize a / b=c at *;omega)]
theorem wrt {a b:Nat}(hb:0<b):remI (a:Int) (b:Int)=some ((a % b:Nat):Int):=by
 unfold remI
 rw[if_neg (by omega),Int.tmod_eq_emod_of_nonneg (by omega),←Int.natCast_emod]
theorem wk {n:Nat}{fs:List (Nat→Nat→Nat)}{C:Nat→Nat}(h:Cg n fs C){f:Nat→Nat→Nat}(hf:f∈fs){x y:Nat}(hx:x<n) (hy:y<n):C (f x y)=C (f x (C y))∧C (f x y)=C (f (C x) y):=by
 obtain⟨h1,h2,h3⟩:=w5f hx hy
 have a:=h f hf 0 (by omega) _ h1
 have b:=h f hf 1 (by omega) _ h1
 unfold Wp oth at a b
 rw[h2,h3]at a b
 exact⟨a,b⟩
theorem w45 {n:Nat}{fs:List (Nat→Nat→Nat)}{C:Nat→Nat}(h:∀f∈fs,∀x y,x<n→y<n→C (f x y)=C (f x (C y))∧C (f x y)=C (f (C x) y)):Cg n fs C:=by
 intro f hf k hk i hi
 obtain⟨h1,h2⟩:=wt hi
 have:=h f hf _ _ h1 h2
 unfold Wp oth
 by_cases e:k=0
 ·rw[if_pos e];exact this.1
 ·rw[if_neg e];exact this.2
theorem wb2 {n:Nat}{fs:List (Nat→Nat→Nat)}(ho:Opn n fs){f:Nat→Nat→Nat}(hf:f∈fs){P:Nat→Nat}(hp:Pt n P){k i:Nat}(hi:i<n*n):oth f n P k i<n:=by
 obtain⟨h1,h2⟩:=wt hi
 unfold oth
 split
 ·exact ho f hf _ _ h1 (hp.lt h2)
 ·exact ho f hf _ _ (hp.lt h1) h2
theorem wrr {n:Nat}{fs:List (Nat→Nat→Nat)}{f:Nat→Nat→Nat}(hf:f∈fs){p C:Nat→Nat}(hp:Pt n p) (hl:Lep n p C) (hc:Cg n fs C){k i:Nat}(hi:i<n*n):C (f (i / n) (i % n))=C (oth f n p k i):=by
 obtain⟨h1,h2⟩:=wt hi
 unfold oth
 split
 ·rw[(wk hc hf h1 h2).1,(wk hc hf h1 (hp.lt h2)).1,hl _ h2]
 ·rw[(wk hc hf h1 h2).2,(wk hc hf (hp.lt h1) h2).2,hl _ h1]
structure StW (n:Nat) (X:Nat→Nat) (b:Bool) (p:Nat→Nat):Prop where
 eq:b=false→∀x,x<n→p x=X x
 lt:b=true→cls n p<cls n X
theorem xnh {n:Nat}{p:Nat→Nat}{v w:Nat}(hv:v<n) (hw:w<n) (e:p v≠p w):∃x,x<n∧uni p v w x≠p x:=by
 rcases Nat.lt_or_ge (p v) (p w) with c|c
 ·refine⟨w,hw, ?_⟩
  unfold uni
  rw[Nat.max_eq_right (by omega),Nat.min_eq_left (by omega),if_pos rfl];omega
 ·refine⟨v,hv, ?_⟩
  unfold uni
  rw[Nat.max_eq_left (by omega),Nat.min_eq_right (by omega),if_pos rfl];omega
theorem StW.step_ne {n:Nat}{X p:Nat→Nat}{b:Bool}(hp:Pt n p) (h:StW n X b p){v w:Nat}(hv:v<n) (hw:w<n) (e:p v≠p w):StW n X true (uni p v w) where
 eq:=fun h=>absurd h (by simp)
 lt:=fun _=>by
  obtain⟨x,hx,hne⟩:=xnh hv hw e
  have h1:=xnc hp (xe hp hv hw) (wb1 hp v w) hx hne
  cases b with
  | true=>have:=h.lt rfl;omega
  | false=>have:=zm (h.eq rfl);omega
theorem StW.step_eq {n:Nat}{X p:Nat→Nat}{b:Bool}(h:StW n X b p){v w:Nat}(e:p v=p w):StW n X b (uni p v w) where
 eq:=fun hb x hx=>by rw[wmb e];exact h.eq hb x hx
 lt:=fun hb=>by rw[zm (Q:=p) fun x _=>wmb e x];exact h.lt hb
structure IVp (n:Nat) (fs:List (Nat→Nat→Nat)) (P p0:Nat→Nat) (D:Prop) (l:List Int) (was ch:Bool) (p:Nat→Nat):Prop where
 form:l=ptL n p
 pt:Pt n p
 le:Lep n P p
 lst:Lst n fs P p
 st:StW n P was p
 st0:StW n p0 ch p
 done:ch=false→D
theorem IVp.step_ne {n:Nat}{fs:List (Nat→Nat→Nat)}{P p0 p:Nat→Nat}{D D':Prop}{l:List Int}{was ch:Bool}(ho:Opn n fs) (h:IVp n fs P p0 D l was ch p){f:Nat→Nat→Nat}(hf:f∈fs){k i:Nat}(hi:i<n*n) (hP:Pt n P) (e:p (f (i / n) (i % n))≠p (oth f n p k i)) :
  IVp n fs P p0 D' (ptL n (uni p (f (i / n) (i % n)) (oth f n p k i))) true true (uni p (f (i / n) (i % n)) (oth f n p k i)):=by
 obtain⟨h1,h2⟩:=wt hi
 have hv:=ho f hf _ _ h1 h2
 have hw:=wb2 ho hf h.pt (k:=k) hi
 exact⟨rfl,xe h.pt hv hw,Lep.trans hP h.le (wb1 h.pt _ _),fun C hC hl hc=>wf9 h.pt (h.lst C hC hl hc) hv hw (wrr hf h.pt (h.lst C hC hl hc) hc hi),h.st.step_ne h.pt hv hw e,h.st0.step_ne h.pt hv hw e,fun c=>absurd c (by simp)⟩
theorem IVp.step_eq {n:Nat}{fs:List (Nat→Nat→Nat)}{P p0 p:Nat→Nat}{D D':Prop}{l:List Int}{was ch:Bool}(ho:Opn n fs) (h:IVp n fs P p0 D l was ch p){f:Nat→Nat→Nat}(hf:f∈fs){k i:Nat}(hi:i<n*n) (hP:Pt n P) (e:p (f (i / n) (i % n))=p (oth f n p k i)) (hD:D→Wp f n p0 k i→D') :
  IVp n fs P p0 D' (ptL n (uni p (f (i / n) (i % n)) (oth f n p k i))) was ch (uni p (f (i / n) (i % n)) (oth f n p k i)):=by
 obtain⟨h1,h2⟩:=wt hi
 have hv:=ho f hf _ _ h1 h2
 have hw:=wb2 ho hf h.pt (k:=k) hi
 refine⟨rfl,xe h.pt hv hw,Lep.trans hP h.le (wb1 h.pt _ _),fun C hC hl hc=>wf9 h.pt (h.lst C hC hl hc) hv hw (wrr hf h.pt (h.lst C hC hl hc) hc hi),h.st.step_eq e,h.st0.step_eq e,fun c=>hD (h.done c) ?_⟩
 have hq:=h.st0.eq c
 have eo:oth f n p0 k i=oth f n p k i:=by unfold oth;rw[hq _ h1,hq _ h2]
 unfold Wp
 rw[eo,←hq _ hv,←hq _ hw,e]
def PassD (n:Nat) (fs:List (Nat→Nat→Nat)) (p0:Nat→Nat) (t k i:Nat):Prop :=
 (∀j,j<t→∀h:j<fs.length,∀k,k<2→∀i,i<n*n→Wp fs[j] n p0 k i)∧(∀h:t<fs.length,(∀k',k'<k→∀i,i<n*n→Wp fs[t] n p0 k' i)∧∀i',i'<i→Wp fs[t] n p0 k i')
structure ClR (n:Nat) (fs:List (Nat→Nat→Nat)) (P q:Nat→Nat) (was:Bool):Prop where
 pt:Pt n q
 le:Lep n P q
 lst:Lst n fs P q
 cg:Cg n fs q
 st:StW n P was q
def muL (l:List Int):Nat:=((List.range l.length).filter fun(i:Nat)=>decide (l[i]? = some (i:Int))).length
theorem wf7 (n:Nat) (p:Nat→Nat):muL (ptL n p)=cls n p:=by
 unfold muL cls fl
 rw[w8]
 congr 1
 refine List.filter_congr fun x hx => ?_
 rw[show(ptL n p)[x]? = some ((p x:Nat):Int) from ju (List.mem_range.1 hx)]
 refine decide_eq_decide.2 ⟨fun h=>by have:=Option.some.inj h;omega,fun h=>by rw[h]⟩
theorem idx0 {n i:Nat}{p:Nat→Nat}(h10:n≤10) (hi:i<n*n) (hp:Pt n p):IntKind.i64.wrap ((i:Int)+IntKind.i64.wrap (IntKind.i64.wrap (((p (i % n):Nat):Int)-((i % n:Nat):Int))*((n ^ 0:Nat):Int)))=((i / n*n+p (i % n):Nat):Int):=by
 obtain⟨h1,h2⟩:=wt hi
 have hnn:=wlp (i:=n) (n:=n) h10 h10
 have e:=xhs n i
 have l:=hp.lo _ h2
 rw[show((n ^ 0:Nat):Int)=1 by simp,Int.mul_one]
 generalize i / n*n=a at *
 generalize i % n=b at *
 rw[wr (n:=((p b:Nat):Int)-(b:Int)) (by omega) (by omega),wr (n:=((p b:Nat):Int)-(b:Int)) (by omega) (by omega),wr (by omega) (by omega)]
 omega
theorem idx1 {n i:Nat}{p:Nat→Nat}(h10:n≤10) (hi:i<n*n) (hp:Pt n p):IntKind.i64.wrap ((i:Int)+IntKind.i64.wrap (IntKind.i64.wrap (((p (i / n):Nat):Int)-((i / n:Nat):Int))*((n ^ 1:Nat):Int)))=((p (i / n)*n+i % n:Nat):Int):=by
 obtain⟨h1,h2⟩:=wt hi
 have hnn:=wlp (i:=n) (n:=n) h10 h10
 have e:=xhs n i
 have l:=hp.lo _ h1
 have l2:=Nat.mul_le_mul_right n l
 rw[Nat.pow_one]
 generalize i / n=a at *
 generalize i % n=b at *
 rw[wr (n:=((p a:Nat):Int)-(a:Int)) (by omega) (by omega),Int.sub_mul,←Int.natCast_mul,←Int.natCast_mul]
 generalize p a*n=c at *
 generalize a*n=d at *
 rw[wr (n:=(c:Int)-(d:Int)) (by omega) (by omega),wr (by omega) (by omega)]
 omega
theorem wpt {n:Nat}{fs:List (Nat→Nat→Nat)}(h10:n≤10) (ho:Opn n fs){p:Nat→Nat}(hp:Pt n p){f:Nat→Nat→Nat}(hf:f∈fs){k i:Nat}(hk:k<2) (hi:i<n*n){R:Type}(G:List Int×Bool→Option R) :
  ((quoI IntKind.i64 (i:Int) ((n ^ k:Nat):Int)).bind fun xq3=>(remI xq3 (n:Int)).bind fun xq4=>(atI (ptL n p) xq4).bind fun _=>((ptL n p)[xq4.toNat]?).bind fun xq5 =>
   (atI (flt n (fun x y=>((f x y:Nat):Int)) n) (IntKind.i64.wrap ((i:Int)+(IntKind.i64.wrap ((IntKind.i64.wrap (xq5-xq4))*((n ^ k:Nat):Int)))))).bind fun xq6 =>
   (V85 big (ptL n p) ((f (i / n) (i % n):Nat):Int) xq6).bind fun rq7=>G (rq7.2.1,rq7.1)) =
  G (ptL n (uni p (f (i / n) (i % n)) (oth f n p k i)),decide (p (f (i / n) (i % n))≠p (oth f n p k i))):=by
 obtain⟨h1,h2⟩:=wt hi
 have hn:0<n:=Nat.lt_of_le_of_lt (Nat.zero_le _) h1
 have hnn:=wlp (i:=n) (n:=n) h10 h10
 have hv:=ho f hf _ _ h1 h2
 have hw:=wb2 ho hf hp (k:=k) hi
 have g:∀z,z<n→atI (ptL n p) (z:Int)=some ((p z:Nat):Int):=fun z hz=>jd hz
 have g2:∀z,z<n→(ptL n p)[z]? = some ((p z:Nat):Int):=fun z hz=>ju hz
 have hu:=wgs (n:=n) (P:=p) (show n≤1048576 by omega) hv hw
 have hk2:k=0∨k=1:=by omega
 rcases hk2 with rfl|rfl
 ·obtain⟨a1,a2,a3⟩:=w5f h1 (hp.lt h2)
  rw[wrs (by simp) (by omega)]
  simp only[obS,wrt hn,Nat.pow_zero,Nat.div_one,g _ h2,Int.toNat_natCast,g2 _ h2]
  have e:=idx0 h10 hi hp
  simp only[Nat.pow_zero]at e
  rw[e,wp8 a1,a2,a3,obS]
  unfold oth at hu ⊢
  simp only[if_pos]at hu ⊢
  rw[hu,obS]
 ·obtain⟨a1,a2,a3⟩:=w5f (hp.lt h1) h2
  rw[wrs (by rw[Nat.pow_one];exact hn) (by omega)]
  have em:i / n % n=i / n:=Nat.mod_eq_of_lt h1
  simp only[obS,wrt hn,Nat.pow_one,em,g _ h1,Int.toNat_natCast,g2 _ h1]
  have e:=idx1 h10 hi hp
  simp only[Nat.pow_one]at e
  rw[e,wp8 a1,a2,a3,obS]
  unfold oth at hu ⊢
  simp only[if_neg (show ¬(1:Nat)=0 by omega)]at hu ⊢
  rw[hu,obS]
theorem xfs {n:Nat}{fs:List (Nat→Nat→Nat)}(h10:n≤10) (hn:0<n) (hfl:fs.length≤10) (ho:Opn n fs){P:Nat→Nat}(hP:Pt n P):∃was q,V86 big (algL n fs) (ptL n P)=some (was,(ptL n q,()))∧ClR n fs P q was:=by
 have hnn:=wlp (i:=n) (n:=n) h10 h10
 unfold V86 wsr
 refine xch (Q:=fun r=>∃was q,r=some (was,(ptL n q,()))∧ClR n fs P q was) (fun l was ch=>muL l*2+if ch then 1 else 0)
  (fun l was ch=>∃p,l=ptL n p∧Pt n p∧Lep n P p∧Lst n fs P p∧StW n P was p∧(ch=false→Cg n fs p)) ?_ _ _ _ ?_ ⟨P,rfl,hP,Lep.refl hP,fun C _ hl _=>hl,⟨fun _ _ _=>rfl,fun h=>absurd h (by simp)⟩,fun h=>absurd h (by simp)⟩
 ·rintro rc l was ch ⟨p0,rfl,hp0,hle0,hlst0,hst0,hcg0⟩ ih
  unfold wjg
  cases ch with
  | false=>exact⟨was,p0,rfl,hp0,hle0,hlst0,hcg0 rfl,hst0⟩
  | true =>
   rw[cond_true]
   refine xcg (Q:=fun r=>∃was q,r=some (was,(ptL n q,()))∧ClR n fs P q was) fs.length (fun t l was ch=>∃p,IVp n fs P p0 (PassD n fs p0 t 0 0) l was ch p) (by omega) ?_ ?_ 0 (by omega) _ _ _ ⟨p0,rfl,hp0,hle0,hlst0,hst0,⟨fun _ _ _=>rfl,fun h=>absurd h (by simp)⟩,fun _=>⟨fun j hj=>by omega,fun _=>⟨fun j hj=>by omega,fun j hj=>by omega⟩⟩⟩
   ·rintro rc2 t l was ch ht hv ih2
    have hm:=List.getElem_mem ht
    unfold zg
    simp only[algL,wlq,cdt (show(t:Int)<(fs.length:Int) by omega),xng ht,obS]
    refine wrh (Q:=fun r=>∃was q,r=some (was,(ptL n q,()))∧ClR n fs P q was) 2 (fun k l was ch step=>step=((n ^ k:Nat):Int)∧∃p,IVp n fs P p0 (PassD n fs p0 t k 0) l was ch p) (by omega) ?_ ?_ 0 (by omega) _ _ _ _ ⟨by simp,hv⟩
    ·rintro rc3 k l was ch step hk ⟨rfl,hv⟩ ih3
     unfold w5
     simp only[cdt (show(k:Int)<(2:Int) by omega),xj]
     refine wri (Q:=fun r=>∃was q,r=some (was,(ptL n q,()))∧ClR n fs P q was) (n*n) (fun i l was ch=>∃p,IVp n fs P p0 (PassD n fs p0 t k i) l was ch p) (by omega) ?_ ?_ 0 (by omega) _ _ _ hv
     ·rintro rc4 i l was ch hi ⟨p,hv⟩ ih4
      have hl:=hv.form
      subst hl
      unfold xf
      rw[cdt (by omega),wp8 hi,obS]
      refine(congrArg (fun r=>∃was q,r=some (was,(ptL n q,()))∧ClR n fs P q was) (wpt h10 ho hv.pt hm hk hi fun r=>cond r.2 (rc4 r.1 (algL n fs) true true _ _ _ _ _ _ _ _ (IntKind.i64.wrap ((i:Int)+(1:Int)))) (rc4 r.1 (algL n fs) was ch _ _ _ _ _ _ _ _ (IntKind.i64.wrap ((i:Int)+(1:Int)))))).mpr ?_
      rw[wr1 (by omega)]
      by_cases e:p (fs[t] (i / n) (i % n))=p (oth fs[t] n p k i)
      ·simp only[e,ne_eq,not_true_eq_false,decide_false,cond_false]
       have:=hv.step_eq ho hm hi hP e (D':=PassD n fs p0 t k (i+1)) (fun d w=>⟨d.1,fun h=>⟨(d.2 h).1,all_lt_succ.2 ⟨(d.2 h).2,w⟩⟩⟩)
       exact ih4 _ _ _ ⟨_,this⟩
      ·simp only[ne_eq,e,not_false_eq_true,decide_true,cond_true]
       exact ih4 _ _ _ ⟨_,hv.step_ne ho hm hi hP e⟩
     ·rintro rc4 l was ch ⟨p,hv⟩
      unfold xf
      rw[cdf (by omega),xu]
      have e1:IntKind.i64.wrap (((n ^ k:Nat):Int)*(n:Int))=((n ^ (k+1):Nat):Int):=by
       have:n ^ k*n≤100:=by
        have hk2:k=0∨k=1:=by omega
        rcases hk2 with rfl|rfl
        ·simp;omega
        ·rw[Nat.pow_one];exact hnn
       rw[←Int.natCast_mul,←Nat.pow_succ,wr (by have:=Int.natCast_nonneg (n ^ (k+1));omega) (by rw[Nat.pow_succ];generalize n ^ k*n=c at *;omega)]
      rw[show IntKind.i64.wrap (((n ^ k:Nat):Int)*((n:Int),opsL n fs,()).1)=_ from e1,wr1 (by omega)]
      exact ih3 _ _ _ _ ⟨rfl,p,hv.form,hv.pt,hv.le,hv.lst,hv.st,hv.st0,fun c=>⟨(hv.done c).1,fun h=>⟨all_lt_succ.2 ⟨((hv.done c).2 h).1,((hv.done c).2 h).2⟩,fun j hj=>by omega⟩⟩⟩
    ·rintro rc3 l was ch step ⟨rfl,p,hv⟩
     unfold w5
     rw[cdf (by simp),wz,wr1 (by omega)]
     have e2:=ih2 _ _ _ ⟨p,hv.form,hv.pt,hv.le,hv.lst,hv.st,hv.st0,fun c=>⟨all_lt_succ.2 ⟨(hv.done c).1,fun h=>((hv.done c).2 h).1⟩,fun h=>⟨fun j hj=>by omega,fun j hj=>by omega⟩⟩⟩
     simp only[algL,wlq]at e2
     exact e2
   ·rintro rc2 l was ch ⟨p,hv⟩
    unfold zg
    simp only[algL,wlq,cdf (show ¬(fs.length:Int)<(fs.length:Int) by omega),x7]
    refine ih _ _ _ ⟨p,hv.form,hv.pt,hv.le,hv.lst,hv.st,fun c => ?_⟩ ?_
    ·intro f hf k hk i hi
     obtain⟨j,hj,rfl⟩:=List.getElem_of_mem hf
     have w:=(hv.done c).1 j hj hj k hk i hi
     obtain⟨i1,i2⟩:=wt hi
     have hq:=hv.st0.eq c
     have eo:oth fs[j] n p0 k i=oth fs[j] n p k i:=by unfold oth;rw[hq _ i1,hq _ i2]
     unfold Wp at w ⊢
     rw[eo,←hq _ (ho _ hf _ _ i1 i2),←hq _ (wb2 ho hf hv.pt hi)]at w
     exact w
    ·rw[hv.form,wf7,wf7]
     cases ch with
     | true=>have:=hv.st0.lt rfl;simp;omega
     | false=>have:=zm (hv.st0.eq rfl);simp;omega
 ·rw[wf7];have:=xdx (n:=n) P;simp;omega
structure PuR (n:Nat) (fs:List (Nat→Nat→Nat)) (P:Nat→Nat) (D:Prop) (O:Nat→Nat):Prop where
 pt:Pt n O
 le:Lep n P O
 lst:Lst n fs P O
 done:D
def PuD (n:Nat) (fs:List (Nat→Nat→Nat)) (P O:Nat→Nat) (t i k:Nat):Prop :=
 (∀j,j<t→∀h:j<fs.length,∀k,k<2→∀i,i<n*n→O (fs[j] (i / n) (i % n))=O (oth fs[j] n P (1-k) i)) ∧
 (∀h:t<fs.length,(∀i',i'<i→∀k,k<2→O (fs[t] (i' / n) (i' % n))=O (oth fs[t] n P (1-k) i'))∧∀k',k'<k→O (fs[t] (i / n) (i % n))=O (oth fs[t] n P (1-k') i))
theorem PuR.step {n:Nat}{fs:List (Nat→Nat→Nat)}{P O:Nat→Nat}(ho:Opn n fs) (hP:Pt n P){t i k:Nat}(ht:t<fs.length) (hi:i<n*n) (h:PuR n fs P (PuD n fs P O t i k) O) :
  PuR n fs P (PuD n fs P (uni O (fs[t] (i / n) (i % n)) (oth fs[t] n P (1-k) i)) t i (k+1)) (uni O (fs[t] (i / n) (i % n)) (oth fs[t] n P (1-k) i)):=by
 obtain⟨h1,h2⟩:=wt hi
 have hm:=List.getElem_mem ht
 have hv:=ho _ hm _ _ h1 h2
 have hw:=wb2 ho hm hP (k:=1-k) hi
 have hle:=wb1 h.pt (fs[t] (i / n) (i % n)) (oth fs[t] n P (1-k) i)
 have keep:∀{g:Nat→Nat→Nat} {k' i':Nat},g∈fs→i'<n*n→O (g (i' / n) (i' % n))=O (oth g n P k' i')→uni O (fs[t] (i / n) (i % n)) (oth fs[t] n P (1-k) i) (g (i' / n) (i' % n))=uni O (fs[t] (i / n) (i % n)) (oth fs[t] n P (1-k) i) (oth g n P k' i'):=fun hg hi' e =>
  hle.ker (ho _ hg _ _ (wt hi').1 (wt hi').2) (wb2 ho hg hP hi') e
 exact⟨xe h.pt hv hw,Lep.trans hP h.le hle,fun C hC hl hc=>wf9 h.pt (h.lst C hC hl hc) hv hw (wrr hm hP hl hc hi),
  ⟨fun j hj hjl k hk i' hi'=>keep (List.getElem_mem hjl) hi' (h.done.1 j hj hjl k hk i' hi'),fun hh=>⟨fun i' hi' k hk=>keep hm (by omega) ((h.done.2 ht).1 i' hi' k hk),all_lt_succ.2 ⟨fun k' hk'=>keep hm hi ((h.done.2 ht).2 k' hk'),xem _ _ _⟩⟩⟩⟩
structure LeastC (n:Nat) (fs:List (Nat→Nat→Nat)) (P O:Nat→Nat):Prop where
 pt:Pt n O
 le:Lep n P O
 lst:Lst n fs P O
 cg:Cg n fs O
theorem LeastC.eq {n:Nat}{fs:List (Nat→Nat→Nat)}{P O O':Nat→Nat}(h:LeastC n fs P O) (h':LeastC n fs P O'):ptL n O=ptL n O' :=
 xx fun x hx=>Lep.eq h.pt h'.pt (h.lst _ h'.pt h'.le h'.cg) (h'.lst _ h.pt h.le h.cg) hx
def CongL (n:Nat) (fs:List (Nat→Nat→Nat)) (l:List Int):Prop:=∃P,Pt n P∧l=ptL n P∧Cg n fs P
abbrev latF (n:Nat) (le:Nat→Nat→Bool):List (Nat→Nat→Nat):=[mt n le,mt n (du le)]
theorem wln {n:Nat}{le:Nat→Nat→Bool}(h:LatP n le):Opn n (latF n le):=by
 intro f hf x y hx hy
 simp only[List.mem_cons,List.not_mem_nil,or_false]at hf
 rcases hf with rfl|rfl
 ·exact h.mlt hx hy
 ·exact jlt h hx hy
theorem xk9 {n:Nat}{le:Nat→Nat→Bool}{j:Nat}(hi:irr n le j=true):star n le j<n:=by
 unfold irr at hi
 rw[decide_eq_true_eq]at hi
 unfold star
 cases e:fl n fun x=>cov n le x j with
 | nil=>rw[e]at hi;simp at hi
 | cons a l=>exact(fl_mem.1 (show a∈fl n fun x=>cov n le x j by rw[e];exact List.mem_cons_self)).1
theorem wxz {n:Nat}{le:Nat→Nat→Bool}(h:LatP n le){x y z:Nat}(hx:x<n) (hy:y<n) (hz:z<n):mt n le (mt n le x y) z=mt n le x (mt n le y z):=by
 have a:=h.mlt hx hy
 have b:=h.mlt hy hz
 have c:=h.mlt a hz
 have d:=h.mlt hx b
 refine h.as c d ?_ ?_
 ·have e1:=h.tr c a hx (h.m1 a hz) (h.m1 hx hy)
  have e2:=h.tr c a hy (h.m1 a hz) (h.m2 hx hy)
  exact h.mg hx b c e1 (h.mg hy hz c e2 (h.m2 a hz))
 ·have e1:=h.tr d b hy (h.m2 hx b) (h.m1 hy hz)
  have e2:=h.tr d b hz (h.m2 hx b) (h.m2 hy hz)
  exact h.mg a hz d (h.mg hx hy d (h.m1 hx b) e1) e2
theorem wpy (n:Nat):Pt n (fun x=>x):=⟨fun x _=>Nat.le_refl x,fun x _=>rfl⟩
noncomputable def lcO (n:Nat) (fs:List (Nat→Nat→Nat)) (P:Nat→Nat):Nat→Nat := @dite _ (∃O,LeastC n fs P O) (Classical.propDecidable _) (fun h=>Classical.choose h) fun _=>P
theorem wxy {n:Nat}{fs:List (Nat→Nat→Nat)}{P O:Nat→Nat}(h:LeastC n fs P O):LeastC n fs P (lcO n fs P):=by
 unfold lcO
 rw[dif_pos ⟨O,h⟩]
 exact Classical.choose_spec (p:=fun O=>LeastC n fs P O) ⟨O,h⟩
theorem xnf {n:Nat}{fs:List (Nat→Nat→Nat)}{P O:Nat→Nat}(h:LeastC n fs P O):ptL n O=ptL n (lcO n fs P):=h.eq (wxy h)
theorem wgt {n:Nat}(hn:n≤1048576):V89 big (n:Int)=some (ptL n fun x=>x,()):=by
 unfold V89 w4h
 rw[jar (by omega),obS,obS,cdt (by omega),mkR_len]
 refine xmu n (fun i l=>l=mkR n fun x=>if x<i then(x:Int) else 0) (by omega) ?_ ?_ 0 (by omega) _ (jq fun x _=>by rw[if_neg (by omega)])
 ·rintro rc i l hi rfl ih
  unfold wji
  rw[cdt (by omega),jd hi,obS,Int.toNat_natCast,ju hi,obS,wr1 (by omega)]
  refine ih _ ?_
  rw[qy]
  refine jq fun x hx => ?_
  by_cases c:x=i
  ·rw[if_pos c,if_pos (by omega),c]
  ·rw[if_neg c]
   by_cases d:x<i
   ·rw[if_pos d,if_pos (by omega)]
   ·rw[if_neg d,if_neg (by omega)]
 ·rintro rc l rfl
  unfold wji
  rw[cdf (by omega),wfk,show(mkR n fun x=>if x<n then(x:Int) else 0)=ptL n fun x=>x from jq fun x hx=>by rw[if_pos hx]]
abbrev bt1 (b i:Nat):Prop:=b / 2 ^ i % 2=1
theorem w03 (P:Nat→Bool):∀k,∃b,b<2 ^ k∧∀i,i<k→(bt1 b i↔P i=true)
 | 0=>⟨0,by simp,fun i hi=>by omega⟩
 | k+1=>by
  obtain⟨b,hb,h⟩:=w03 P k
  have hp:2 ^ (k+1)=2 ^ k*2:=Nat.pow_succ ..
  have low:∀e i,i<k→(b+2 ^ k*e) / 2 ^ i % 2=b / 2 ^ i % 2:=fun e i hi=>by
   have e1:2 ^ k=2 ^ i*(2*2 ^ (k-i-1)):=by
    rw[←Nat.pow_succ',←Nat.pow_add];congr 1;omega
   rw[e1,Nat.mul_assoc,Nat.add_mul_div_left _ _ (Nat.pow_pos (by omega)),Nat.mul_assoc,Nat.add_mul_mod_self_left]
  have top:∀e,(b+2 ^ k*e) / 2 ^ k=e:=fun e=>by
   rw[Nat.add_mul_div_left _ _ (Nat.pow_pos (by omega)),Nat.div_eq_of_lt hb,Nat.zero_add]
  refine⟨b+2 ^ k*(if P k then 1 else 0),by split<;>omega,fun i hi => ?_⟩
  by_cases c:i=k
  ·subst c
   unfold bt1
   rw[top]
   cases P i<;>simp
  ·unfold bt1
   rw[low _ i (by omega)]
   exact h i (by omega)
theorem xd7 (a b:List Int) (h:a.length=b.length) (h2:a.length≤4294967296):V128 big a b=some (lx a b,()):=by
 unfold V128 wtt
 refine xid a.length (fun i=>lx a b=lx (a.drop i) (b.drop i)) (by omega) ?_ ?_ 0 (by omega) rfl
 ·intro rc i hi hv ih
  have hib:i<b.length:=by omega
  unfold wc3
  simp only[cdt (show(i:Int)<(a.length:Int) by omega),jf a i hi,jf b i hib,obS,wr1 (show i≤4611686018427387904 by omega)]
  rw[xk5 hi hib]at hv
  by_cases e:a[i]=b[i]
  ·rw[cdf (by simp[e])]
   rw[if_neg (by simp[e])]at hv
   exact ih hv
  ·rw[cdt e,hv,if_pos e]
 ·intro rc hv
  rw[List.drop_length]at hv
  unfold wc3
  rw[cdf (by omega),waj,hv];rfl
inductive Wd where
 | v (n:Int)
 | op (g:Int) (a b:Wd)
def Wd.fl:Wd→List Int
 | .v n=>[n]
 | .op g a b=>g::(a.fl++b.fl)
def Wd.hd:Wd→Int
 | .v n=>n
 | .op g _ _=>g
def Wd.ok:Wd→Prop
 | .v n=>0≤n∧n<5
 | .op g a b=>(g = -1∨g = -2)∧a.ok∧b.ok
theorem Wd.pos:∀A:Wd,0<A.fl.length
 | .v n=>by simp[Wd.fl]
 | .op g a b=>by simp[Wd.fl]
def wle:Wd→Wd→Bool
 | .v n,.v m=>decide (n=m)
 | .v n,.op h c d=>if h = -1 then wle (.v n) c&&wle (.v n) d else wle (.v n) c||wle (.v n) d
 | .op g a b,.v m=>if g = -2 then wle a (.v m)&&wle b (.v m) else wle a (.v m)||wle b (.v m)
 | .op g a b,.op h c d=>if g = -2 then wle a (.op h c d)&&wle b (.op h c d) else if h = -1 then wle (.op g a b) c&&wle (.op g a b) d else(wle a (.op h c d)||wle b (.op h c d))||(wle (.op g a b) c||wle (.op g a b) d)
  termination_by A B=>A.fl.length+B.fl.length
  decreasing_by all_goals (simp[Wd.fl];try omega)
def At (s:List Int) (i:Nat) (A:Wd):Prop:=A.ok∧∃r,s.drop i=A.fl++r
theorem At.lt {s:List Int}{i:Nat}{A:Wd}(h:At s i A):i+A.fl.length≤s.length:=by
 obtain⟨_,r,e⟩:=h
 have:=congrArg List.length e
 have:=A.pos
 simp only[List.length_drop,List.length_append]at *
 omega
theorem At.head {s:List Int}{i:Nat}{A:Wd}(h:At s i A):atI s (i:Int)=some A.hd:=by
 have hl:=h.lt
 have hp:=A.pos
 obtain⟨_,r,e⟩:=h
 rw[qc]
 have:s[i]? = (s.drop i)[0]? := by rw[List.getElem?_drop];rfl
 rw[this,e]
 cases A<;>simp[Wd.fl,Wd.hd]
abbrev BS:=List Bool×List Nat
def stp (u:Nat→Nat→Bool) (x:Nat) (S:BS) (i:Nat):BS:=if S.1[i]? = some false∧(u x i||u i x)=true then(S.1.set i true,S.2++[i]) else S
def insK (u:Nat→Nat→Bool) (x:Nat) (S:BS):Nat→BS
 | 0=>S
 | k+1=>stp u x (insK u x S k) k
def bfs (u:Nat→Nat→Bool) (m:Nat) (S:BS):Nat→BS
 | 0=>S
 | i+1=>match (bfs u m S i).2[i]? with
  | some x=>insK u x (bfs u m S i) m
  | none=>bfs u m S i
def ea (E:List P2) (i:Nat):Nat:=(E.getD i (0,0,())).1.toNat
def eb (E:List P2) (i:Nat):Nat:=(E.getD i (0,0,())).2.1.toNat
theorem xed {α:Type}{L:List α}{p:α→Bool}{i:Nat}(hi:i<L.length) (h:∀x∈L.take i,p x=true) (hp:p L[i]=true):∀x∈L.take (i+1),p x=true:=by
 intro x hx
 rw[List.take_succ_eq_append_getElem hi]at hx
 rcases List.mem_append.1 hx with hx|hx
 ·exact h x hx
 ·rw[List.mem_singleton]at hx
  rw[hx];exact hp
theorem xf9 {α:Type}{L:List α}{p:α→Bool}(h:∀x∈L.take L.length,p x=true):L.all p=true:=by
 rw[List.take_length]at h
 exact List.all_eq_true.2 h
theorem xf8 {α:Type}{L:List α}{p:α→Bool}{i:Nat}(hi:i<L.length) (hp:p L[i]=false):L.all p=false:=by
 rw[List.all_eq_false]
 exact⟨_,List.getElem_mem hi,by rw[hp];exact Bool.false_ne_true⟩
theorem xkz {n j:Nat}(h:n≤8) (hj:j≤3):n ^ j≤512 :=
 Nat.le_trans (Nat.pow_le_pow_left h j) (Nat.le_trans (Nat.pow_le_pow_right (by omega) hj) (by decide))
theorem xky {n:Nat}(h:n≤8) (k:Nat) (hk:k≤3):V80 big (n:Int) (k:Int)=some (((n ^ k:Nat):Int),()):=by
 unfold V80 w36
 refine xmq (fun k _=>k.toNat) (fun q o=>∃j:Nat,j≤k∧q=((k-j:Nat):Int)∧o=((n ^ j:Nat):Int)) ?_ _ _ (by simp;omega) ⟨0,by omega,by simp,rfl⟩
 intro rc q o hv ih
 obtain⟨j,hj,e1,e2⟩:=hv
 subst e1;subst e2
 unfold wwl
 by_cases hjk:j<k
 ·have hp:=xkz h (show j+1≤3 by omega)
  rw[Nat.pow_succ]at hp
  rw[cdt (by omega),wr (n:=((k-j:Nat):Int)-1) (by omega) (by omega),←Int.natCast_mul,wr (n:=((n ^ j*n:Nat):Int)) (by omega) (by omega)]
  exact ih _ _ ⟨j+1,by omega,by omega,by rw[Nat.pow_succ]⟩ (by omega)
 ·rw[cdf (by omega),wi8,show j=k by omega]
def opB (n:Nat) (f:OpT):Bool:=decide (0≤f.1∧f.1≤3∧f.2.1.length=n ^ f.1.toNat)&&f.2.1.all (inB n)
theorem xf4 {n:Nat}(h:n≤8) (f:OpT) (hl:f.2.1.length≤1048576):V81 f (n:Int)=some (opB n f,()):=by
 unfold V81 xhc opB
 by_cases h0:0≤f.1
 ·rw[cdt h0]
  by_cases h3:f.1≤3
  ·rw[cdt h3]
   have e:=xky h f.1.toNat (by omega)
   rw[show((f.1.toNat:Nat):Int)=f.1 by omega]at e
   rw[e,obS]
   by_cases hn:f.2.1.length=n ^ f.1.toNat
   ·rw[cdt (by omega),wj7 n f.2.1 (by omega),obS,decide_eq_true ⟨h0,h3,hn⟩,Bool.true_and]
   ·rw[cdf (by omega),decide_eq_false (fun c=>hn c.2.2),Bool.false_and]
  ·rw[cdf h3,decide_eq_false (fun c=>h3 c.2.1),Bool.false_and]
 ·rw[cdf h0,decide_eq_false (fun c=>h0 c.1),Bool.false_and]
def algB (a:AlT):Bool:=decide (1≤a.1∧a.1≤8∧a.2.1.length≤4)&&a.2.1.all (opB a.1.toNat)
theorem xd5 (a:AlT) (h:SmallA a):V82 big a=some (algB a,()):=by
 unfold V82 w38 algB
 by_cases h1:a.1<1
 ·rw[cdt h1,decide_eq_false (by omega),Bool.false_and]
 ·by_cases h8:8<a.1
  ·rw[cdf h1,cdt h8,decide_eq_false (by omega),Bool.false_and]
  ·by_cases h4:4<a.2.1.length
   ·rw[cdf h1,cdf h8,cdt (by omega),decide_eq_false (by omega),Bool.false_and]
   ·rw[cdf h1,cdf h8,cdf (by omega),decide_eq_true (by omega),Bool.true_and]
    refine xmr a.2.1.length (fun i=>∀x∈a.2.1.take i,opB a.1.toNat x=true) (by omega) ?_ ?_ 0 (by omega) (by simp)
    ·intro rc i hi hv ih
     have e:=xf4 (n:=a.1.toNat) (by omega) a.2.1[i] (h.2 _ (List.getElem_mem hi))
     rw[show((a.1.toNat:Nat):Int)=a.1 by omega]at e
     unfold wja
     rw[cdt (by omega),jf _ i hi,obS,e,obS,wr1 (by omega)]
     cases hb:opB a.1.toNat a.2.1[i] with
     | true=>exact ih (xed hi hv hb)
     | false=>rw[xf8 hi hb];rfl
    ·intro rc hv
     unfold wja
     rw[cdf (by omega),wfc,xf9 hv]
abbrev Cu:=List Int×Int×Int×Unit
def COk (k:Nat) (c:Cu):Prop:=0≤c.2.1∧c.2.1+k≤4611686018427387904∧c.1.length≤65536∧∀x∈c.1,0≤x∧x≤255
theorem and255 (x:Int):∃n:Nat,n≤255∧bitI .and .u64 x 255=(n:Int):=by
 refine⟨(BitVec.ofInt IntKind.u64.bits x &&& BitVec.ofInt IntKind.u64.bits 255).toNat, ?_, ?_⟩
 ·rw[BitVec.toNat_and]
  exact Nat.le_trans Nat.and_le_right (by decide)
 ·have h:(BitVec.ofInt IntKind.u64.bits x &&& BitVec.ofInt IntKind.u64.bits 255).toNat≤255:=by
   rw[BitVec.toNat_and]
   exact Nat.le_trans Nat.and_le_right (by decide)
  unfold bitI
  exact IntWalk.u64_in _ (by omega)
theorem wxk {k:Nat}{c:Cu}(h:COk (k+1) c):∃v c',V1 c=some (v,(c',()))∧0≤v∧v≤255∧COk k c':=by
 obtain⟨h0,h1,h2,h3⟩:=h
 obtain⟨l,a,s,u⟩:=c
 simp only at h0 h1 h2 h3
 have hw:IntKind.i64.wrap (a+1)=a+1:=wr (by omega) (by omega)
 have key:∀s':Int,COk k (l,a+1,s',u):=fun s'=>⟨by show 0≤a+1;omega,by show a+1+k≤_;omega,h2,h3⟩
 have tail:∀s':Int,∃v c',((shrI IntKind.u64 s' (40:Int)).bind fun xq=>some (IntKind.i64.wrap (bitI .and IntKind.u64 xq (255:Int)),((l,a+1,s',u),())))=some (v,(c',()))∧0≤v∧v≤255∧COk k c':=by
  intro s'
  obtain⟨n,hn,e⟩:=and255 (s'.fdiv (2 ^ min (40:Int).toNat IntKind.u64.bits))
  unfold shrI
  rw[if_neg (by omega),obS,e,wr (by omega) (by omega)]
  exact⟨_,_,rfl,by omega,by omega,key s'⟩
 unfold V1 V1_s
 dsimp only
 rw[hw]
 by_cases ha:a<(l.length:Int)
 ·rw[cdt ha]
  have hal:a.toNat<l.length:=by omega
  have e:atI l a=some l[a.toNat]:=by
   have:=jf l a.toNat hal
   rwa [show((a.toNat:Nat):Int)=a by omega]at this
  have hb:=h3 _ (List.getElem_mem hal)
  rw[e,obS]
  by_cases c:a+1≤(l.length:Int)
  ·rw[cdt c,wr (by omega) (by omega)]
   exact⟨_,_,rfl,hb.1,hb.2,key _⟩
  ·rw[cdf c]
   exact tail _
 ·rw[cdf ha]
  by_cases c:a+1≤(l.length:Int)
  ·rw[cdt c]
   exact⟨_,_,rfl,by omega,by omega,key _⟩
  ·rw[cdf c]
   exact tail _
theorem COk.mono {k j:Nat}{c:Cu}(h:COk k c) (hj:j≤k):COk j c:=by
 obtain⟨h0,h1,h2,h3⟩:=h
 exact⟨h0,by omega,h2,h3⟩
theorem wx3 {a n:Int}(ha:0≤a) (hn:0<n):∃v,remI a n=some v∧0≤v∧v<n:=by
 refine⟨a.tmod n, ?_,Int.tmod_nonneg n ha,Int.tmod_lt_of_pos a hn⟩
 unfold remI
 rw[if_neg (by omega)]
theorem wg {k:Nat}{c:Cu}(h:COk (k+2) c) (n:Int):∃v c',V2 c n=some (v,(c',()))∧0≤v∧(1≤n→v<n)∧COk k c':=by
 unfold V2 V2_s
 by_cases h1:n≤1
 ·rw[cdt h1]
  exact⟨_,_,rfl,by omega,by omega,h.mono (by omega)⟩
 ·obtain⟨v,c1,e1,a1,a2,k1⟩:=wxk (k:=k+1) h
  rw[cdf h1,e1,obS]
  by_cases h2:200<n
  ·obtain⟨v2,c2,e2,b1,b2,k2⟩:=wxk k1
   rw[cdt h2]
   dsimp only
   rw[e2,obS]
   dsimp only
   rw[wr (n:=v*256) (by omega) (by omega),wr (by omega) (by omega)]
   obtain⟨z,ez,z0,z1⟩:=wx3 (a:=v*256+v2) (n:=n) (by omega) (by omega)
   rw[ez,obS]
   exact⟨_,_,rfl,z0,fun _=>z1,k2⟩
  ·rw[cdf h2]
   dsimp only
   obtain⟨z,ez,z0,z1⟩:=wx3 (a:=v) (n:=n) a1 (by omega)
   rw[ez,obS]
   exact⟨_,_,rfl,z0,fun _=>z1,k1.mono (by omega)⟩
theorem wq {k:Nat}{c:Cu}(h:COk (k+2) c) (n:Int):∃b c',V3 c n=some (b,(c',()))∧COk k c':=by
 obtain⟨v,c1,e1,_,_,k1⟩:=wg h n
 unfold V3 V3_s
 rw[e1,obS]
 exact⟨_,_,rfl,k1⟩
theorem xd {k:Nat}{c:Cu}(h:COk (k+2) c){l:List Int}(hl:l≠[]):∃v c',V4 c l=some (v,(c',()))∧v∈l∧COk k c':=by
 obtain⟨v,c1,e1,h0,h1,k1⟩:=wg h (l.length:Int)
 have hp:=List.length_pos_iff.2 hl
 have hv:=h1 (by omega)
 have hvl:v.toNat<l.length:=by omega
 have e:atI l v=some l[v.toNat]:=by
  have:=jf l v.toNat hvl
  rwa [show((v.toNat:Nat):Int)=v by omega]at this
 unfold V4 V4_s
 rw[e1,obS]
 dsimp only
 rw[e,obS]
 exact⟨_,_,rfl,List.getElem_mem hvl,k1⟩
def Codes (code:List Int):Prop:=code.length≤65536∧∀x∈code,0≤x∧x≤255
theorem Codes.start {code:List Int}(h:Codes code):COk 10000 (code,(0:Int),(0:Int),()):=⟨Int.le_refl _,by show(0:Int)+(10000:Nat)≤_;omega,h.1,h.2⟩
theorem sl0 {α:Type}(xs:List α) (n:Nat) (h:n≤xs.length):slI xs 0 (n:Int)=some (xs.take n):=by
 have:=qn xs 0 n (Nat.zero_le _) h
 simpa using this
abbrev PTd:=List (List Int)×Unit
def DrP (m:Nat) (p:PTd):Prop:=p.1.length≤m∧∀r∈p.1,r.length≤m
theorem wxm {n:Int}(h1 : -1000≤n) (h2:n≤1000){l:List Int}(hl:l.length≤1000):∃b,V7 big n l=some (b,())∧(b=true→∀x∈l,0≤x∧x<n):=by
 unfold V7 V7_s
 refine xnm (Q:=fun r=>∃b,r=some (b,())∧(b=true→∀x∈l,0≤x∧x<n)) l.length (fun i=>∀x∈l.take i,0≤x∧x<n) (by omega) (fun rc i hi hI hr => ?_) (fun rc hI => ?_) 0 (by omega) (by simp)
 ·unfold zq
  rw[cdt (by omega),jf l i hi,obS,wrp,obS,wr (by omega) (by omega)]
  by_cases c:0≤l[i]∧l[i]≤n-1
  ·rw[decide_eq_true c]
   simp only[Bool.not_true,cond_false]
   rw[wr (by omega) (by omega)]
   refine hr fun x hx => ?_
   rw[List.take_succ_eq_append_getElem hi,List.mem_append,List.mem_singleton]at hx
   rcases hx with hx|rfl
   ·exact hI x hx
   ·omega
  ·rw[decide_eq_false c]
   simp only[Bool.not_false,cond_true]
   exact⟨_,rfl,fun h=>by cases h⟩
 ·unfold zq yq
  rw[cdf (by omega)]
  refine⟨_,rfl,fun _ => ?_⟩
  have hI:∀x∈l.take l.length,0≤x∧x<n:=hI
  rwa [List.take_of_length_le (Nat.le_refl _)]at hI
theorem wl9 {n:Nat}(hn:n≤1000){l:List Int}(hl:l.length≤1000):∃b,V8 big l (n:Int)=some (b,())∧(b=true→l.length=n∧∀x∈l,0≤x∧x<n):=by
 unfold V8 V8_s
 by_cases h:(l.length:Int)≠(n:Int)
 ·rw[cdt h]
  exact⟨_,rfl,fun h=>by cases h⟩
 ·rw[cdf h]
  have hln:l.length=n:=by omega
  obtain⟨b,e,hb⟩:=wxm (n:=(n:Int)) (by omega) (by omega) hl
  rw[e,obS]
  cases b with
  | false=>exact⟨_,rfl,fun h=>by cases h⟩
  | true =>
   have hb:=hb rfl
   simp only[Bool.not_true,cond_false]
   rw[uo false n (by omega),obS,obS,cdt (by omega)]
   refine xnn (Q:=fun r=>∃b,r=some (b,())∧(b=true→l.length=n∧∀x∈l,0≤x∧x<n)) n (fun i s=>s.length=n) (by omega) (fun rc i s hi hI hr => ?_) (fun rc s hI => ?_) 0 (by omega) _ (by simp)
   ·unfold wo6
    have hil:i<l.length:=by omega
    have hx:=hb _ (List.getElem_mem hil)
    have hxl:l[i].toNat<s.length:=by rw[hI];omega
    have ea:atI s l[i]=some s[l[i].toNat]:=by
     have:=jf s l[i].toNat hxl
     rwa [show((l[i].toNat:Nat):Int)=l[i] by omega]at this
    rw[cdt (by omega),jf l i hil,obS,ea,obS,List.getElem?_eq_getElem hxl,obS]
    cases s[l[i].toNat] with
    | true=>exact⟨_,rfl,fun h=>by cases h⟩
    | false =>
     rw[cond_false,obS,ea,obS,List.getElem?_eq_getElem hxl,obS,wr (by omega) (by omega)]
     exact hr _ (by simpa using hI)
   ·unfold wo6 wld
    rw[cdf (by omega)]
    exact⟨_,rfl,fun _=>⟨hln,hb⟩⟩
theorem wgq {k n:Nat}(hn:n≤1000){c:Cu}(h:COk (k+2*n+6) c):∃l c',V5 big c (n:Int)=some (l,(c',()))∧l.length≤n+1∧COk k c':=by
 unfold V5 V5_s
 refine xnk (Q:=fun r=>∃l c',r=some (l,(c',()))∧l.length≤n+1∧COk k c') n (fun i c l=>l.length=i∧COk (k+2*(n-i)+6) c) (by omega) (fun rc i c l hi hI hr => ?_) (fun rc c l hI => ?_) 0 (by omega) _ _ ⟨rfl,by simpa using h⟩
 ·obtain⟨hl,hc⟩:=hI
  unfold woc
  obtain⟨v,c',e,v0,v1,hc'⟩:=wg (k:=k+2*(n-(i+1))+6) (hc.mono (by omega)) ((l.length:Int)+1)
  have hv:=v1 (by omega)
  rw[cdt (by omega),wr (n:=(l.length:Int)+1) (by omega) (by omega),e,obS]
  dsimp only
  have s1:slI l 0 v=some ((l.drop 0).take (v-0).toNat):=by unfold slI;rw[if_pos (by omega)];rfl
  have s2:slI l v (l.length:Int)=some ((l.drop v.toNat).take ((l.length:Int)-v).toNat):=by unfold slI;rw[if_pos (by omega)]
  rw[s1,obS,jk (by simp;omega),obS,jk (by simp;omega),obS,s2,obS,jk (by simp;omega),obS,wr (by omega) (by omega)]
  refine hr _ _ ⟨?_,hc'⟩
  simp
  omega
 ·obtain⟨hl,hc⟩:=hI
  unfold woc wk8
  rw[cdf (by omega)]
  obtain⟨v,c',e,v0,v1,hc'⟩:=wg (k:=k+4) (hc.mono (by omega)) 24
  rw[e,obS]
  dsimp only
  by_cases h0:v=0
  ·rw[cdt h0,jk (by simp;omega),obS]
   exact⟨_,_,rfl,by simp[hl],hc'.mono (by omega)⟩
  ·rw[cdf h0]
   by_cases h1:v=1
   ·rw[cdt h1]
    by_cases h2:(0:Int)<n
    ·rw[cdt h2]
     obtain⟨v2,c2,e2,a0,a1,hc2⟩:=wg (k:=k+2) (hc'.mono (by omega)) (n:Int)
     have ha:=a1 (by omega)
     obtain⟨v3,c3,e3,_,hc3⟩:=xd (k:=k) hc2 (l:=[(0:Int), -1,(n:Int)]) (by simp)
     have hvl:v2.toNat<l.length:=by omega
     have ea:atI l v2=some l[v2.toNat]:=by
      have:=jf l v2.toNat hvl
      rwa [show((v2.toNat:Nat):Int)=v2 by omega]at this
     rw[e2,obS]
     dsimp only
     rw[e3,obS]
     dsimp only
     rw[ea,obS,List.getElem?_eq_getElem hvl,obS]
     exact⟨_,_,rfl,by simp[hl],hc3⟩
    ·rw[cdf h2]
     exact⟨_,_,rfl,by omega,hc'.mono (by omega)⟩
   ·rw[cdf h1]
    exact⟨_,_,rfl,by omega,hc'.mono (by omega)⟩
def MX (n:Nat) (m:List (List Bool)):Prop:=m.length=n∧(∀r∈m,r.length=n)∧∀i,i<n→∃r,m[i]? = some r∧r[i]? = some true
theorem MX.set {n:Nat}{m:List (List Bool)}(h:MX n m){x y:Nat}{r:List Bool}(hr:m[x]? = some r){v:Bool}(hv:x=y→v=true):MX n (m.set x (r.set y v)):=by
 obtain⟨h1,h2,h3⟩:=h
 have hx:=(List.getElem?_eq_some_iff.1 hr).1
 refine⟨by simpa using h1,fun q hq => ?_,fun i hi => ?_⟩
 ·rcases List.mem_or_eq_of_mem_set hq with hq|rfl
  ·exact h2 q hq
  ·rw[List.length_set];exact h2 r (List.mem_of_getElem? hr)
 ·obtain⟨q,q1,q2⟩:=h3 i hi
  by_cases e:x=i
  ·subst e
   rw[hr]at q1
   cases q1
   refine⟨_,by rw[List.getElem?_set_self hx], ?_⟩
   by_cases e:y=x
   ·subst e
    have hl:y<r.length:=(List.getElem?_eq_some_iff.1 q2).1
    rw[List.getElem?_set_self hl,hv rfl]
   ·rw[List.getElem?_set_ne e];exact q2
  ·exact⟨q,by rw[List.getElem?_set_ne e];exact q1,q2⟩
theorem MX.at {n:Nat}{m:List (List Bool)}(h:MX n m){x y:Nat}(hx:x<n) (hy:y<n):∃r v,m[x]? = some r∧atI m (x:Int)=some r∧r[y]? = some v∧atI r (y:Int)=some v∧(x=y→v=true):=by
 obtain⟨h1,h2,h3⟩:=h
 have hl:x<m.length:=by omega
 have hr:=h2 _ (List.getElem_mem hl)
 have hyl:y<(m[x]).length:=by omega
 refine⟨m[x],(m[x])[y],List.getElem?_eq_getElem hl,jf m x hl,List.getElem?_eq_getElem hyl,jf _ y hyl,fun e => ?_⟩
 subst e
 obtain⟨q,q1,q2⟩:=h3 x hx
 rw[List.getElem?_eq_getElem hl]at q1
 cases q1
 rw[List.getElem?_eq_getElem hyl]at q2
 exact Option.some.inj q2
def Fr (n:Nat) (r:Option (PTd×Unit)):Prop:=∃p:PTd,r=some (p,())∧p.1.length=n∧∀q∈p.1,1≤q.length∧q.length≤n
theorem xd4 {n:Nat}(hn:n≤100){t4:PTd}{m:List (List Bool)}(hm:MX n m):Fr n (x8 big (n:Int) t4 m ([],()) (0:Int)):=by
 refine xm8 (Q:=Fr n) n (fun i p=>p.1.length=i∧∀q∈p.1,1≤q.length∧q.length≤n) (by omega) (fun rc i p hi hI hr => ?_) (fun rc p hI => ?_) 0 (by omega) _ ⟨rfl,by simp⟩
 ·obtain⟨hI1,hI2⟩:=hI
  unfold wf3
  rw[cdt (by omega)]
  refine xm9 (Q:=Fr n) n (fun j b=>b.length≤j∧(i<j→1≤b.length)) (by omega) (fun rc2 j b hj hJ hr2 => ?_) (fun rc2 b hJ => ?_) 0 (by omega) _ ⟨by simp,by omega⟩
  ·unfold wj4
   obtain⟨r,v,e1,e2,e3,e4,e5⟩:=hm.at hj hi
   rw[cdt (by omega),e2,obS,Int.toNat_natCast,e1,obS,obS,e4,obS,obS,Int.toNat_natCast,e3,obS]
   cases v with
   | true =>
    rw[cond_true,jk (by simp;omega),obS,wr (by omega) (by omega)]
    exact hr2 _ ⟨by simp;omega,fun _=>by simp⟩
   | false =>
    rw[cond_false,wr (by omega) (by omega)]
    refine hr2 _ ⟨by omega,fun h=>hJ.2 ?_⟩
    rcases Nat.lt_or_ge i j with h'|h'
    ·exact h'
    ·have:j=i:=by omega
     exact absurd (e5 this) (by simp)
  ·unfold wj4 wf0
   rw[cdf (by omega),jk (by simp;omega),obS,wr (by omega) (by omega)]
   refine hr _ ⟨by simp[hI1],fun q hq => ?_⟩
   rcases List.mem_append.1 hq with hq|hq
   ·exact hI2 q hq
   ·rw[List.mem_singleton]at hq
    subst hq
    exact⟨hJ.2 hi,hJ.1⟩
 ·unfold wf3 zk
  rw[cdf (by omega)]
  exact⟨_,rfl,hI.1,hI.2⟩
theorem w5a {n:Nat}(hn:n≤100){t4:PTd}{m:List (List Bool)}(hm:MX n m):Fr n (wbw big (n:Int) t4 m (0:Int)):=by
 refine xm5 (Q:=Fr n) n (fun _ m=>MX n m) (by omega) (fun rc z m hz hm hr => ?_) (fun rc m hm => ?_) 0 (by omega) _ hm
 ·unfold wf1
  rw[cdt (by omega)]
  refine xm6 (Q:=Fr n) n (fun _ m=>MX n m) (by omega) (fun rc x m hx hm hr2 => ?_) (fun rc m hm => ?_) 0 (by omega) _ hm
  ·unfold wf2
   rw[cdt (by omega)]
   refine xm7 (Q:=Fr n) n (fun _ m=>MX n m) (by omega) (fun rc y m hy hm hr3 => ?_) (fun rc m hm => ?_) 0 (by omega) _ hm
   ·unfold wj3
    obtain⟨r,v,e1,e2,e3,e4,e5⟩:=hm.at hx hy
    obtain⟨r',v',f1,f2,f3,f4,f5⟩:=hm.at hx hz
    rw[e1]at f1
    cases f1
    obtain⟨s,u,g1,g2,g3,g4,g5⟩:=hm.at hz hy
    simp only[Int.toNat_natCast,cdt (show(y:Int)<n by omega),e1,e2,e3,e4,f3,f4,g1,g2,g3,g4,obS]
    rw[wr (by omega) (by omega),show(y:Int)+1=((y+1:Nat):Int) by omega]
    cases v with
    | true =>
     rw[cond_true]
     exact hr3 _ (hm.set e1 fun _=>rfl)
    | false =>
     have hxy:x≠y:=fun e=>by have:=e5 e;cases this
     rw[cond_false]
     cases v' with
     | true=>rw[cond_true];exact hr3 _ (hm.set e1 fun e=>absurd e hxy)
     | false=>rw[cond_false];exact hr3 _ (hm.set e1 fun e=>absurd e hxy)
   ·unfold wj3 wfz
    rw[cdf (by omega),wr (by omega) (by omega)]
    exact hr2 _ hm
  ·unfold wf2 zj
   rw[cdf (by omega),wr (by omega) (by omega)]
   exact hr _ hm
 ·unfold wf1 zi
  rw[cdf (by omega)]
  exact xd4 hn hm
theorem wl6 {n:Nat}(hn:n≤100){ps:List (Int×(Int×Unit))}(hl:ps.length≤100000) (hp:∀p∈ps,(0≤p.1∧p.1<n)∧0≤p.2.1∧p.2.1<n):Fr n (V9 big (n:Int) ps):=by
 unfold V9 V9_s
 refine xno (Q:=Fr n) n (fun i m=>m.length=i∧(∀r∈m,r.length=n)∧∀j,j<i→∃r,m[j]? = some r∧r[j]? = some true) (by omega) (fun rc i m hi hI hr => ?_) (fun rc m hI => ?_) 0 (by omega) _ ⟨rfl,by simp,by omega⟩
 ·obtain⟨h1,h2,h3⟩:=hI
  unfold wpq
  have hil:i<(List.replicate n false).length:=by simpa using hi
  rw[cdt (by omega),uo false n (by omega),obS,obS,cdt (by omega),jf _ i hil,obS,Int.toNat_natCast,List.getElem?_eq_getElem hil,obS,jk (by simp;omega),obS,wr (by omega) (by omega)]
  refine hr _ ⟨by simp[h1],fun r hr => ?_,fun j hj => ?_⟩
  ·rcases List.mem_append.1 hr with hr|hr
   ·exact h2 r hr
   ·rw[List.mem_singleton]at hr;rw[hr];simp
  ·by_cases e:j<i
   ·obtain⟨r,r1,r2⟩:=h3 j e
    exact⟨r,by rw[List.getElem?_append_left (by omega)];exact r1,r2⟩
   ·have e:j=i:=by omega
    subst e
    refine⟨_,by rw[List.getElem?_append_right (by omega),h1,Nat.sub_self];rfl, ?_⟩
    rw[List.getElem?_set_self hil]
 ·unfold wpq wlj
  rw[cdf (by omega)]
  refine xnp (Q:=Fr n) ps.length (fun _ m=>MX n m) (by omega) (fun rc i m hi hm hr => ?_) (fun rc m hm => ?_) 0 (by omega) _ hI
  ·unfold wpr
   obtain⟨⟨a0,a1⟩,b0,b1⟩:=hp _ (List.getElem_mem hi)
   generalize hq:ps[i]=q at a0 a1 b0 b1
   obtain⟨x,y,u⟩:=q
   simp only at a0 a1 b0 b1
   obtain⟨x,rfl⟩:∃x':Nat,x=(x':Int):=⟨x.toNat,by omega⟩
   obtain⟨y,rfl⟩:∃y':Nat,y=(y':Int):=⟨y.toNat,by omega⟩
   obtain⟨r,v,e1,e2,e3,e4,e5⟩:=hm.at (x:=x) (y:=y) (by omega) (by omega)
   have ea:atI ps (i:Int)=some ((x:Int),((y:Int),u)):=by rw[jf ps i hi,hq]
   simp only[Int.toNat_natCast,cdt (show(i:Int)<ps.length by omega),ea,e1,e2,e3,e4,obS]
   rw[wr (by omega) (by omega)]
   exact hr _ (hm.set e1 fun _=>rfl)
  ·unfold wpr wlk
   rw[cdf (by omega)]
   exact w5a hn hm
theorem xk8 {l:List Int}(hl:l.length≤1000000) (n:Int):∃l',V10 big l n=some (l',())∧l'.length≤l.length+1:=by
 have done:∀i:Nat,i≤l.length→∃l',wa4 l n (i:Int)=some (l',())∧l'.length≤l.length+1:=by
  intro i hi
  unfold wa4
  have s1:slI l 0 (i:Int)=some ((l.drop 0).take i):=by unfold slI;rw[if_pos (by omega)];simp
  have s2:slI l (i:Int) (l.length:Int)=some ((l.drop i).take (l.length-i)):=by unfold slI;rw[if_pos (by omega),show((l.length:Int)-(i:Int)).toNat=l.length-i by omega,Int.toNat_natCast]
  have tail:∃l',((slI l 0 (i:Int)).bind fun xq8=>(appI [] xq8).bind fun xq9=>(appI xq9 [n]).bind fun xq10=>(slI l (i:Int) (l.length:Int)).bind fun xq11=>(appI xq10 xq11).bind fun xq12=>some (xq12,(())))=some (l',())∧l'.length≤l.length+1:=by
   rw[s1,obS,jk (by simp;omega),obS,jk (by simp;omega),obS,s2,obS,jk (by simp;omega),obS]
   exact⟨_,rfl,by simp;omega⟩
  by_cases h:i<l.length
  ·rw[cdt (by omega),jf l i h,obS]
   by_cases c:l[i]=n
   ·rw[cdt c];exact⟨l,rfl,by omega⟩
   ·rw[cdf c];exact tail
  ·rw[cdf (by omega)];exact tail
 unfold V10 w1t
 refine xla (Q:=fun r=>∃l',r=some (l',())∧l'.length≤l.length+1) l.length (fun _=>True) (by omega) (fun rc i hi _ hr => ?_) (fun rc _ => ?_) 0 (by omega) trivial
 ·unfold wgw
  rw[cdt (by omega),jf l i hi,obS]
  by_cases c:l[i]<n
  ·rw[cdt c,wr (by omega) (by omega)];exact hr trivial
  ·rw[cdf c];exact done i (by omega)
 ·unfold wgw
  rw[cdf (by omega)]
  exact done _ (by omega)
def Dq (m k:Nat) (r:Option (PTd×(Cu×Unit))):Prop:=∃p c',r=some (p,(c',()))∧DrP m p∧COk k c'
theorem w5j {k:Nat}{t2:PTd}{p:PTd}{c:Cu}(hp:p.1.length≤11) (hr:∀r∈p.1,r.length≤12) (hc:COk (k+2*(12-p.1.length)+2) c):Dq 12 k (wi big c t2 p):=by
 refine xh8 (Q:=Dq 12 k) (fun _ p=>12-p.1.length) (fun c p=>p.1.length≤11∧(∀r∈p.1,r.length≤12)∧COk (k+2*(12-p.1.length)+2) c) (fun rc c p hI hrec => ?_) c p (by omega) ⟨hp,hr,hc⟩
 obtain⟨h1,h2,h3⟩:=hI
 unfold wqq wcq
 obtain⟨v,c',e,v0,v1,hc'⟩:=wg (k:=k+2*(12-p.1.length)) h3 2
 have hv:=v1 (by omega)
 rw[e,obS]
 dsimp only
 rw[wr (by omega) (by omega)]
 by_cases c:(p.1.length:Int)<10+v
 ·rw[cdt c,jk (by simp;omega),obS]
  refine hrec _ _ ⟨by simp;omega,fun r hr => ?_, ?_⟩ (by simp;omega)
  ·rcases List.mem_append.1 hr with hr|hr
   ·exact h2 r hr
   ·rw[List.mem_singleton]at hr;rw[hr];simp
  ·simp only[List.length_append,List.length_singleton]
   exact hc'.mono (by omega)
 ·rw[cdf c]
  exact⟨_,_,rfl,⟨by omega,h2⟩,hc'.mono (by omega)⟩
theorem wkb {k n:Nat}(hn:n≤7){t2:PTd}{c:Cu}{ps:List (Int×(Int×Unit))}(hl:ps.length≤1000) (hp:∀p∈ps,(0≤p.1∧p.1<n)∧0≤p.2.1∧p.2.1<n) (hc:COk (k+40) c) :
  Dq 12 k (yj (wi big) c t2 (n:Int) ps):=by
 obtain⟨p,e,p1,p2⟩:=wl6 (n:=n) (by omega) (by omega) hp
 have hd:DrP 12 p:=⟨by omega,fun r hr=>by have:=p2 r hr;omega⟩
 unfold yj
 rw[e,obS]
 by_cases h0:(n:Int)=0
 ·rw[cdt h0]
  exact⟨_,_,rfl,hd,hc.mono (by omega)⟩
 ·rw[cdf h0]
  obtain⟨b,c1,e1,hc1⟩:=wq (k:=k+38) hc 16
  rw[e1,obS]
  cases b with
  | false=>exact⟨_,_,rfl,hd,hc1.mono (by omega)⟩
  | true =>
   simp only[Bool.not_true,cond_false]
   obtain⟨x,c2,e2,x0,x1,hc2⟩:=wg (k:=k+36) hc1 (n:Int)
   have hx:=x1 (by omega)
   obtain⟨v,c3,e3,_,_,hc3⟩:=wg (k:=k+34) hc2 4
   rw[e2,obS]
   dsimp only
   rw[e3,obS]
   dsimp only
   have hxl:x.toNat<p.1.length:=by omega
   have ea:atI p.1 x=some p.1[x.toNat]:=by
    have:=jf p.1 x.toNat hxl
    rwa [show((x.toNat:Nat):Int)=x by omega]at this
   have eb:p.1[x.toNat]? = some p.1[x.toNat]:=List.getElem?_eq_getElem hxl
   have hrow:=p2 _ (List.getElem_mem hxl)
   have upd:∀r:List Int,r.length≤12→DrP 12 (p.1.set x.toNat r,p.2):=fun r hr=>⟨by simp;omega,fun q hq=>by
    rcases List.mem_or_eq_of_mem_set hq with hq|rfl
    ·exact hd.2 q hq
    ·exact hr⟩
   simp only[ea,eb,obS]
   by_cases c0:v=0
   ·rw[cdt c0]
    have s1:slI p.1[x.toNat] (1:Int) (p.1[x.toNat].length:Int)=some ((p.1[x.toNat].drop 1).take (p.1[x.toNat].length-1)):=by unfold slI;rw[if_pos (by omega),show((p.1[x.toNat].length:Int)-1).toNat=p.1[x.toNat].length-1 by omega];rfl
    rw[s1,obS]
    exact⟨_,_,rfl,upd _ (by simp;omega),hc3.mono (by omega)⟩
   ·rw[cdf c0]
    by_cases c1:v=1
    ·rw[cdt c1,jk (by simp;omega),obS]
     exact⟨_,_,rfl,upd _ (by simp;omega),hc3.mono (by omega)⟩
    ·rw[cdf c1]
     by_cases c2':v=2
     ·rw[cdt c2']
      obtain⟨y,c4,e4,_,_,hc4⟩:=wg (k:=k+32) hc3 (n:Int)
      obtain⟨l',e5,hl'⟩:=xk8 (l:=p.1[x.toNat]) (by omega) y
      rw[e4,obS]
      dsimp only
      rw[e5,obS]
      exact⟨_,_,rfl,upd _ (by simp only;omega),hc4.mono (by omega)⟩
     ·rw[cdf c2']
      by_cases c3':v=3
      ·rw[cdt c3']
       exact w5j (by omega) (fun r hr=>by have:=p2 r hr;omega) (hc3.mono (by omega))
      ·rw[cdf c3']
       exact⟨_,_,rfl,hd,hc3.mono (by omega)⟩
theorem wf8 {n:Nat}{names:List Int}(hl:names.length=n) (hn:∀x∈names,0≤x∧x<n){x:Int}(h0:0≤x) (h1:x<n):∃v,atI names x=some v∧names[x.toNat]? = some v∧0≤v∧v<n:=by
 have hx:x.toNat<names.length:=by omega
 refine⟨names[x.toNat], ?_,List.getElem?_eq_getElem hx,hn _ (List.getElem_mem hx)⟩
 have:=jf names x.toNat hx
 rwa [show((x.toNat:Nat):Int)=x by omega]at this
theorem xeb {k:Nat}{c:Cu}(hc:COk (k+300) c):Dq 12 k (V11 big c):=by
 unfold V11 w10
 obtain⟨n,c0,e,hn,hc0⟩:=xd (k:=k+298) hc (l:=[(0:Int),1,2,3,4,4,5,5,6,7]) (by simp)
 rw[e,obS]
 dsimp only
 obtain⟨n,rfl⟩:∃m:Nat,n=(m:Int):=⟨n.toNat,by simp at hn;omega⟩
 have hn7:n≤7:=by simp at hn;omega
 refine xlb (Q:=Dq 12 k) n (fun i c ps=>ps.length≤i*n∧(∀p∈ps,(0≤p.1∧p.1<n)∧0≤p.2.1∧p.2.1<n)∧COk (k+100+2*(n*(n-i))) c) (by omega) (fun rc i c ps hi hI hr => ?_) (fun rc c ps hI => ?_) 0 (by omega) _ _ ⟨by simp,by simp,hc0.mono (by have:n*(n-0)≤7*7:=Nat.mul_le_mul hn7 (by omega);omega)⟩
 ·obtain⟨h1,h2,h3⟩:=hI
  unfold wct
  rw[cdt (by omega),wr (by omega) (by omega),show(i:Int)+1=((i+1:Nat):Int) by omega]
  have hmul:n*(n-i)=n*(n-(i+1))+n:=by
   rw[show n-i=(n-(i+1))+1 by omega,Nat.mul_succ]
  have hmul2:(i+1)*n=i*n+n:=Nat.succ_mul i n
  refine xlc (Q:=Dq 12 k) n (fun j c ps=>ps.length≤i*n+j∧(∀p∈ps,(0≤p.1∧p.1<n)∧0≤p.2.1∧p.2.1<n)∧COk (k+100+2*(n*(n-(i+1)))+2*(n-j)) c) (by omega) (fun rc2 j c ps hj hJ hr2 => ?_) (fun rc2 c ps hJ => ?_) (i+1) (by omega) _ _ ⟨by omega,h2,h3.mono (by omega)⟩
  ·obtain⟨j1,j2,j3⟩:=hJ
   unfold wgz
   obtain⟨b,c',e,hc'⟩:=wq (k:=k+100+2*(n*(n-(i+1)))+2*(n-(j+1))) (j3.mono (by omega)) 3
   have hin:i*n≤7*7:=Nat.mul_le_mul (by omega) hn7
   rw[cdt (by omega),e,obS,wr (by omega) (by omega)]
   cases b with
   | true =>
    rw[cond_true,jk (by simp;omega),obS]
    refine hr2 _ _ ⟨by simp;omega,fun p hp => ?_,hc'⟩
    rcases List.mem_append.1 hp with hp|hp
    ·exact j2 p hp
    ·rw[List.mem_singleton]at hp
     rw[hp]
     exact⟨⟨by simp,by simp;omega⟩,by simp,by simp;omega⟩
   | false =>
    rw[cond_false]
    exact hr2 _ _ ⟨by omega,j2,hc'⟩
  ·obtain⟨j1,j2,j3⟩:=hJ
   unfold wgz wcr
   rw[cdf (by omega),wr (by omega) (by omega)]
   exact hr _ _ ⟨by omega,j2,j3.mono (by omega)⟩
 ·obtain⟨h1,h2,h3⟩:=hI
  have hnn:n*n≤7*7:=Nat.mul_le_mul hn7 hn7
  unfold wct yu
  rw[cdf (by omega)]
  obtain⟨names,c1,e1,hl1,hc1⟩:=wgq (k:=k+60) (n:=n) (by omega) (h3.mono (by omega))
  obtain⟨b,e2,hb⟩:=wl9 (n:=n) (by omega) (l:=names) (by omega)
  rw[e1,obS]
  dsimp only
  rw[e2,obS]
  cases b with
  | false =>
   rw[cond_false]
   exact wkb hn7 (by omega) h2 (hc1.mono (by omega))
  | true =>
   obtain⟨hb1,hb2⟩:=hb rfl
   obtain⟨b,c2,e3,hc2⟩:=wq (k:=k+58) hc1 2
   rw[cond_true,e3,obS]
   cases b with
   | false =>
    rw[cond_false]
    exact wkb hn7 (by omega) h2 (hc2.mono (by omega))
   | true =>
    rw[cond_true]
    refine xh7 (Q:=Dq 12 k) ps.length (fun _ qs=>qs.length=ps.length∧∀p∈qs,(0≤p.1∧p.1<n)∧0≤p.2.1∧p.2.1<n) (by omega) (fun rc2 i qs hi hI hr => ?_) (fun rc2 qs hI => ?_) 0 (by omega) _ ⟨rfl,h2⟩
    ·obtain⟨i1,i2⟩:=hI
     have hil:i<qs.length:=by omega
     obtain⟨⟨a0,a1⟩,b0,b1⟩:=i2 _ (List.getElem_mem hil)
     obtain⟨x,x1,x2,x3,x4⟩:=wf8 hb1 hb2 a0 a1
     obtain⟨y,y1,y2,y3,y4⟩:=wf8 hb1 hb2 b0 b1
     unfold wcs
     simp only[Int.toNat_natCast,cdt (show(i:Int)<qs.length by omega),jf qs i hil,List.getElem?_eq_getElem hil,x1,x2,y1,y2,obS]
     rw[wr (by omega) (by omega)]
     refine hr _ ⟨by simpa using i1,fun p hp => ?_⟩
     rcases List.mem_or_eq_of_mem_set hp with hp|rfl
     ·exact i2 p hp
     ·exact⟨⟨x3,x4⟩,y3,y4⟩
    ·obtain⟨i1,i2⟩:=hI
     unfold wcs
     rw[cdf (by omega)]
     exact wkb hn7 (by omega) i2 (hc2.mono (by omega))
def okKnown (k:Nat):Bool:=match V13 (k:Int) with
 | some (p,())=>decide (p.1.length≤9)&&p.1.all (fun r=>decide (r.length≤9))&&(match V18 big p with
  | some (ps,())=>decide (ps.length≤100)&&ps.all fun q=>decide (0≤q.1)&&decide (q.1<(p.1.length:Int))&&decide (0≤q.2.1)&&decide (q.2.1<(p.1.length:Int))
  | none=>false)
 | none=>false
theorem wyl:(List.range 12).all okKnown=true:=by kernel_rfl
theorem xd6 {k:Int}(h0:0≤k) (h1:k<12):∃p ps,V13 k=some (p,())∧DrP 9 p∧V18 big p=some (ps,())∧ps.length≤100∧∀q∈ps,(0≤q.1∧q.1<p.1.length)∧0≤q.2.1∧q.2.1<p.1.length:=by
 have h:=List.all_eq_true.1 wyl k.toNat (List.mem_range.2 (by omega))
 unfold okKnown at h
 rw[show((k.toNat:Nat):Int)=k by omega]at h
 split at h
 case h_2=>cases h
 rename_i p e
 simp only[Bool.and_eq_true,decide_eq_true_eq,List.all_eq_true]at h
 obtain⟨⟨h1,h2⟩,h3⟩:=h
 split at h3
 case h_2=>cases h3
 rename_i ps e2
 simp only[Bool.and_eq_true,decide_eq_true_eq,List.all_eq_true]at h3
 exact⟨p,ps,e,⟨h1,h2⟩,e2,h3.1,fun q hq=>by
  obtain⟨⟨⟨a,b⟩,c⟩,d⟩:=h3.2 q hq
  exact⟨⟨a,b⟩,c,d⟩⟩
theorem wlt {k:Nat}{c:Cu}(hc:COk (k+400) c):Dq 12 k (V19 big c):=by
 unfold V19 w2f
 obtain⟨b,c1,e1,hc1⟩:=wq (k:=k+398) hc 10
 rw[e1,obS]
 cases b with
 | true =>
  rw[cond_true]
  obtain⟨p,c2,e2,hp,hc2⟩:=xeb (k:=k+98) hc1
  rw[e2,obS]
  exact⟨_,_,rfl,hp,hc2.mono (by omega)⟩
 | false =>
  rw[cond_false]
  obtain⟨v,c2,e2,v0,v1,hc2⟩:=wg (k:=k+396) hc1 12
  obtain⟨p,ps,e3,hp,e4,hl,hps⟩:=xd6 v0 (v1 (by omega))
  have hp':DrP 12 p:=⟨by have:=hp.1;omega,fun r hr=>by have:=hp.2 r hr;omega⟩
  have hn:=hp.1
  obtain⟨names,c3,e5,hl1,hc3⟩:=wgq (k:=k+300) (n:=p.1.length) (by omega) (hc2.mono (by omega))
  obtain⟨b,e6,hb⟩:=wl9 (n:=p.1.length) (by omega) (l:=names) (by omega)
  rw[e2,obS]
  dsimp only
  rw[e3,obS]
  dsimp only
  rw[e5,obS]
  dsimp only
  rw[e6,obS]
  cases b with
  | false=>exact⟨_,_,rfl,hp',hc3.mono (by omega)⟩
  | true =>
   obtain⟨hb1,hb2⟩:=hb rfl
   obtain⟨b,c4,e7,hc4⟩:=wq (k:=k+298) hc3 2
   rw[cond_true,e7,obS]
   cases b with
   | false=>exact⟨_,_,rfl,hp',hc4.mono (by omega)⟩
   | true =>
    rw[cond_true,e4,obS]
    refine xlg (Q:=Dq 12 k) ps.length (fun _ qs=>qs.length=ps.length∧∀q∈qs,(0≤q.1∧q.1<p.1.length)∧0≤q.2.1∧q.2.1<p.1.length) (by omega) (fun rc2 i qs hi hI hr => ?_) (fun rc2 qs hI => ?_) 0 (by omega) _ ⟨rfl,hps⟩
    ·obtain⟨i1,i2⟩:=hI
     have hil:i<qs.length:=by omega
     obtain⟨⟨a0,a1⟩,b0,b1⟩:=i2 _ (List.getElem_mem hil)
     obtain⟨x,x1,x2,x3,x4⟩:=wf8 hb1 hb2 a0 a1
     obtain⟨y,y1,y2,y3,y4⟩:=wf8 hb1 hb2 b0 b1
     unfold wg6
     simp only[Int.toNat_natCast,cdt (show(i:Int)<qs.length by omega),jf qs i hil,List.getElem?_eq_getElem hil,x1,x2,y1,y2,obS]
     rw[wr (by omega) (by omega)]
     refine hr _ ⟨by simpa using i1,fun q hq => ?_⟩
     rcases List.mem_or_eq_of_mem_set hq with hq|rfl
     ·exact i2 q hq
     ·exact⟨⟨x3,x4⟩,y3,y4⟩
    ·obtain⟨i1,i2⟩:=hI
     unfold wg6 wdf
     obtain⟨p',e8,p1,p2⟩:=wl6 (n:=p.1.length) (by omega) (by omega) i2
     rw[cdf (by omega),e8,obS]
     exact⟨_,_,rfl,⟨by show p'.1.length≤12;omega,fun r hr=>by have:=p2 r hr;omega⟩,hc4.mono (by omega)⟩
theorem wlx {k:Nat}{c:Cu}(hc:COk (k+4) c){p:PTd}(hp:p.1.length≤1000):∃v c',V23 c p=some (v,(c',())) ∧ -1≤v∧v≤p.1.length∧COk k c':=by
 unfold V23 xgl
 by_cases h:(p.1.length:Int)=0
 ·obtain⟨v,c1,e,hv,hc1⟩:=xd (k:=k+2) hc (l:=[(-1:Int),(p.1.length:Int)]) (by simp)
  rw[cdt h,e,obS]
  refine⟨_,_,rfl, ?_, ?_,hc1.mono (by omega)⟩<;>(simp at hv;simp only;omega)
 ·obtain⟨b,c1,e,hc1⟩:=wq (k:=k+2) hc 24
  rw[cdf h,e,obS]
  cases b with
  | true =>
   obtain⟨v,c2,e,hv,hc2⟩:=xd (k:=k) hc1 (l:=[(-1:Int),(p.1.length:Int)]) (by simp)
   rw[cond_true,e,obS]
   refine⟨_,_,rfl, ?_, ?_,hc2⟩<;>(simp at hv;simp only;omega)
  | false =>
   obtain⟨v,c2,e,v0,v1,hc2⟩:=wg (k:=k) hc1 (p.1.length:Int)
   have:=v1 (by omega)
   rw[cond_false,e,obS]
   exact⟨_,_,rfl,by simp only;omega,by simp only;omega,hc2⟩
theorem xft {code:List Int}(hw:Wf (.pair (.sl (.int .u8)) .unit) (code,())) (h:code.length≤65536):Codes code:=by
 refine⟨h,fun x hx => ?_⟩
 have:=hw.1.2 x hx
 have h2:(Lit.int .u8 x).wf=true:=this
 simp only[Lit.wf,Bool.and_eq_true,decide_eq_true_eq]at h2
 have e1:IntKind.u8.min=0:=rfl
 have e2:IntKind.u8.max=255:=rfl
 rw[e1,e2]at h2
 exact h2
def Wd.dual:Wd→Wd
 | .v n => .v n
 | .op g a b => .op (-3-g) a.dual b.dual
theorem cmp_mem {n:Nat}{le:Nat→Nat→Bool}{x y:Nat}:y∈comp n le x↔y<n∧mt n le y x=bt n le∧mt n (du le) y x=tp n le:=by
 unfold comp rel
 rw[fl_mem,Bool.and_eq_true,decide_eq_true_eq,decide_eq_true_eq]
theorem xkv {n:Nat}{le:Nat→Nat→Bool}{x y:Nat}(hx:x<n) (hy:y∈comp n le x):x∈comp n le y:=by
 obtain⟨h1,h2,h3⟩:=cmp_mem.1 hy
 exact cmp_mem.2 ⟨hx,by rw[we];exact h2,by rw[we];exact h3⟩
def UniC (n:Nat) (le:Nat→Nat→Bool):Prop:=∀x,x<n→(comp n le x).length=1
theorem UniC.cmp {n:Nat}{le:Nat→Nat→Bool}(h:UniC n le):Cmp n le:=fun x hx e=>by have:=h x hx;rw[e]at this;cases this
theorem wsx {n:Nat}{le:Nat→Nat→Bool}(h:LatP n le){x:Nat}(hx:x<n) (e:le x (bt n le)=true):x=bt n le:=h.as hx (xi h) e (wgi h hx)
theorem xht {n:Nat}{le:Nat→Nat→Bool}(h:LatP n le){x:Nat}(hx:x<n) (e:le (tp n le) x=true):x=tp n le:=h.as hx (yc h) (wlo h hx) e
theorem xd1 {n:Nat}{le:Nat→Nat→Bool}(h:LatP n le) (hd:Dis n le){v a b:Nat}(hv:v<n) (ha:a<n) (hb:b<n) (e:le v (mt n (du le) a b)=true):le v (mt n (du le) (mt n le v a) (mt n le v b))=true:=by
 rw[←hd v a b hv ha hb]
 exact h.mg hv (jlt h ha hb) hv (h.ord.refl v hv) e
theorem xfp {n:Nat}{le:Nat→Nat→Bool}(h:LatP n le) (hd:Dis n le){x y:Nat}(hx:x<n) (hy:y∈comp n le x):Cen n le x y:=fun z hz=>by
 obtain⟨y1,y2,y3⟩:=cmp_mem.1 hy
 have h1:mt n (du le) (mt n le z x) (mt n le z y)=z:=by
  rw[←hd z x y hz hx y1,we (le:=du le),y3]
  exact h.as (h.mlt hz (yc h)) hz (h.m1 hz (yc h)) (h.mg hz (yc h) hz (h.ord.refl z hz) (wlo h hz))
 refine⟨h1, ?_⟩
 have l1:=jlt h hz hx
 have l2:=jlt h hz y1
 have l3:=h.mlt l1 l2
 refine h.as l3 hz ?_ (h.mg l1 l2 hz (j1 h hz hx) (j1 h hz y1))
 refine h.tr l3 (jlt h (h.mlt l3 hz) (h.mlt l3 hx)) hz (xd1 h hd l3 hz hx (h.m1 l1 l2)) ?_
 refine jg h (h.mlt l3 hz) (h.mlt l3 hx) hz (h.m2 l3 hz) ?_
 have k1:=h.mlt l3 hx
 refine h.tr k1 (jlt h (h.mlt k1 hz) (h.mlt k1 y1)) hz (xd1 h hd k1 hz y1 (h.tr k1 l3 l2 (h.m1 l3 hx) (h.m2 l1 l2))) ?_
 refine jg h (h.mlt k1 hz) (h.mlt k1 y1) hz (h.m2 k1 hz) ?_
 have k2:=h.mlt k1 y1
 have k3:=h.mg y1 hx k2 (h.m2 k1 y1) (h.tr k2 k1 hx (h.m1 k1 y1) (h.m2 l3 hx))
 rw[y2]at k3
 exact h.tr k2 (xi h) hz k3 (wgi h hz)
theorem cenB_iff {n:Nat}{le:Nat→Nat→Bool}{x:Nat}:cenB n le x=true↔∃y,y∈comp n le x∧Cen n le x y:=by
 unfold cenB
 rw[List.any_eq_true]
 exact⟨fun⟨y,h1,h2⟩=>⟨y,h1,tv_iff.1 h2⟩,fun⟨y,h1,h2⟩=>⟨y,h1,tv_iff.2 h2⟩⟩
theorem cenA {n:Nat}{le:Nat→Nat→Bool}(h:LatP n le){x y w:Nat}(hx:x<n) (hy:y<n) (hw:w<n) (hc:Cen n le x y){u:Nat}(hu:u<n) (h1:le (mt n le w x) u=true) (h2:le (mt n le w y) u=true):le w u=true:=by
 have:=(hc w hw).1
 rw[←this]
 exact jg h (h.mlt hw hx) (h.mlt hw hy) hu h1 h2
theorem cenBm {n:Nat}{le:Nat→Nat→Bool}(h:LatP n le){x y w:Nat}(hx:x<n) (hy:y<n) (hw:w<n) (hc:Cen n le x y){u:Nat}(hu:u<n) (h1:le u (mt n (du le) w x)=true) (h2:le u (mt n (du le) w y)=true):le u w=true:=by
 have:=(hc w hw).2
 rw[←this]
 exact h.mg (jlt h hw hx) (jlt h hw hy) hu h1 h2
theorem xdv {n:Nat}{le:Nat→Nat→Bool}(h:LatP n le){x y:Nat}(hx:x<n) (hy:y<n) (hA:∀w u,w<n→u<n→le (mt n le w x) u=true→le (mt n le w y) u=true→le w u=true)
  (hB:∀w u,w<n→u<n→le u (mt n (du le) w x)=true→le u (mt n (du le) w y)=true→le u w=true):Cen n le x y:=fun z hz=>by
 have a1:=h.mlt hz hx
 have a2:=h.mlt hz hy
 have b1:=jlt h hz hx
 have b2:=jlt h hz hy
 exact⟨h.as (jlt h a1 a2) hz (jg h a1 a2 hz (h.m1 hz hx) (h.m1 hz hy)) (hA z _ hz (jlt h a1 a2) (j1 h a1 a2) (j2 h a1 a2)),
  h.as (h.mlt b1 b2) hz (hB z _ hz (h.mlt b1 b2) (h.m1 b1 b2) (h.m2 b1 b2)) (h.mg b1 b2 hz (j1 h hz hx) (j1 h hz hy))⟩
theorem Cen.dual {n:Nat}{le:Nat→Nat→Bool}{x y:Nat}(hc:Cen n le x y):Cen n (du le) x y:=fun z hz=>⟨(hc z hz).2,(hc z hz).1⟩
theorem comp_dual {n:Nat}{le:Nat→Nat→Bool}{x y:Nat}:y∈comp n (du le) x↔y∈comp n le x:=by
 rw[cmp_mem,cmp_mem]
 exact⟨fun⟨a,b,c⟩=>⟨a,c,b⟩,fun⟨a,b,c⟩=>⟨a,c,b⟩⟩
structure CP (n:Nat) (le:Nat→Nat→Bool) (x y:Nat):Prop where
 lx:x<n
 c:y∈comp n le x
 z:Cen n le x y
theorem CP.ly {n:Nat}{le:Nat→Nat→Bool}{x y:Nat}(p:CP n le x y):y<n:=(cmp_mem.1 p.c).1
theorem CP.sym {n:Nat}{le:Nat→Nat→Bool}{x y:Nat}(p:CP n le x y):CP n le y x:=⟨p.ly,xkv p.lx p.c,fun z hz=>by
 have:=p.z z hz
 rw[we (le:=du le) (mt n le z y),we (mt n (du le) z y)];exact this⟩
theorem CP.dual {n:Nat}{le:Nat→Nat→Bool}{x y:Nat}(p:CP n le x y):CP n (du le) x y:=⟨p.lx,comp_dual.2 p.c,p.z.dual⟩
theorem CP.meet {n:Nat}{le:Nat→Nat→Bool}(h:LatP n le){x x' a a':Nat}(p:CP n le x x') (q:CP n le a a'):CP n le (mt n le x a) (mt n (du le) x' a'):=by
 have hx:=p.lx
 have hx':=p.ly
 have ha:=q.lx
 have ha':=q.ly
 have lm:=h.mlt hx ha
 have lj:=jlt h hx' ha'
 obtain⟨_,px1,px2⟩:=cmp_mem.1 p.c
 obtain⟨_,qa1,qa2⟩:=cmp_mem.1 q.c
 refine⟨lm,cmp_mem.2 ⟨lj, ?_, ?_⟩,xdv h lm lj ?_ ?_⟩
 ·have k:=h.mlt lj lm
  refine wsx h k ?_
  have k1:=h.m1 lj lm
  have k2:=h.tr k lm hx (h.m2 lj lm) (h.m1 hx ha)
  have k3:=h.tr k lm ha (h.m2 lj lm) (h.m2 hx ha)
  have k4:=cenBm h ha ha' hx' q.z k (h.tr k ha (jlt h hx' ha) k3 (j2 h hx' ha)) k1
  rw[←px1]
  exact h.mg hx' hx k k4 k2
 ·have k:=jlt h lj lm
  refine xht h k ?_
  rw[←px2]
  refine jg h hx' hx k (h.tr hx' lj k (j1 h hx' ha') (j1 h lj lm)) ?_
  refine cenA h ha ha' hx q.z k (j2 h lj lm) ?_
  exact h.tr (h.mlt hx ha') ha' k (h.m2 hx ha') (h.tr ha' lj k (j2 h hx' ha') (j1 h lj lm))
 ·intro w u hw hu e1 e2
  have wx:=h.mlt hw hx
  have wj:=h.mlt hw lj
  refine cenA h hx hx' hw p.z hu (cenA h ha ha' wx q.z hu ?_ ?_) ?_
  ·have k:=h.mlt wx ha
   have k1:=h.tr k wx hw (h.m1 wx ha) (h.m1 hw hx)
   have k2:=h.tr k wx hx (h.m1 wx ha) (h.m2 hw hx)
   exact h.tr k (h.mlt hw lm) hu (h.mg hw lm k k1 (h.mg hx ha k k2 (h.m2 wx ha))) e1
  ·have k:=h.mlt wx ha'
   have k1:=h.tr k wx hw (h.m1 wx ha') (h.m1 hw hx)
   exact h.tr k wj hu (h.mg hw lj k k1 (h.tr k ha' lj (h.m2 wx ha') (j2 h hx' ha'))) e2
  ·have k:=h.mlt hw hx'
   exact h.tr k wj hu (h.mg hw lj k (h.m1 hw hx') (h.tr k hx' lj (h.m2 hw hx') (j1 h hx' ha'))) e2
 ·intro w u hw hu e1 e2
  have uz:=h.mlt hu hx
  have uz':=h.mlt hu hx'
  have wm:=jlt h hw lm
  have wj:=jlt h hw lj
  refine cenA h hx hx' hu p.z hw (cenA h ha ha' uz q.z hw ?_ ?_) ?_
  ·have k:=h.mlt uz ha
   have k0:=h.tr k uz hu (h.m1 uz ha) (h.m1 hu hx)
   have k1:=h.tr k uz hx (h.m1 uz ha) (h.m2 hu hx)
   have k2:=h.m2 uz ha
   have wx':=jlt h hw hx'
   have k3:le (mt n le (mt n le u x) a) (mt n (du le) w x')=true:=by
    refine cenBm h ha ha' wx' q.z k (h.tr k ha (jlt h wx' ha) k2 (j2 h wx' ha)) ?_
    have t:=jlt h wx' ha'
    refine h.tr k wj t (h.tr k hu wj k0 e2) (jg h hw lj t (h.tr hw wx' t (j1 h hw hx') (j1 h wx' ha')) (jg h hx' ha' t (h.tr hx' wx' t (j2 h hw hx') (j1 h wx' ha')) (j2 h wx' ha')))
   exact cenBm h hx hx' hw p.z k (h.tr k hx (jlt h hw hx) k1 (j2 h hw hx)) k3
  ·have k:=h.mlt uz ha'
   have k0:=h.tr k uz hu (h.m1 uz ha') (h.m1 hu hx)
   have wa:=jlt h hw ha
   exact cenBm h ha ha' hw q.z k (h.tr k wm wa (h.tr k hu wm k0 e1) (jg h hw lm wa (j1 h hw ha) (h.tr lm ha wa (h.m2 hx ha) (j2 h hw ha)))) (h.tr k ha' (jlt h hw ha') (h.m2 uz ha') (j2 h hw ha'))
  ·have wx:=jlt h hw hx
   exact cenBm h hx hx' hw p.z uz' (h.tr uz' wm wx (h.tr uz' hu wm (h.m1 hu hx') e1) (jg h hw lm wx (j1 h hw hx) (h.tr lm hx wx (h.m1 hx ha) (j2 h hw hx)))) (h.tr uz' hx' (jlt h hw hx') (h.m2 hu hx') (j2 h hw hx'))
theorem CP.join {n:Nat}{le:Nat→Nat→Bool}(h:LatP n le){x x' a a':Nat}(p:CP n le x x') (q:CP n le a a'):CP n le (mt n (du le) x a) (mt n le x' a') :=
 (CP.meet h.du p.dual q.dual).dual
theorem xkt {n:Nat}{le:Nat→Nat→Bool}{x:Nat}(hx:x<n):cenB n le x=true↔∃y,CP n le x y:=by
 rw[cenB_iff]
 exact⟨fun⟨y,a,b⟩=>⟨y,hx,a,b⟩,fun⟨y,p⟩=>⟨y,p.c,p.z⟩⟩
theorem CP.bot {n:Nat}{le:Nat→Nat→Bool}(h:LatP n le):CP n le (bt n le) (tp n le):=by
 have b:=xi h
 have t:=yc h
 refine⟨b,cmp_mem.2 ⟨t,wsx h (h.mlt t b) (h.m2 t b),xht h (jlt h t b) (j1 h t b)⟩,xdv h b t ?_ ?_⟩
 ·intro w u hw hu _ e
  exact h.tr hw (h.mlt hw t) hu (h.mg hw t hw (h.ord.refl w hw) (wlo h hw)) e
 ·intro w u hw hu e _
  exact h.tr hu (jlt h hw b) hw e (jg h hw b hw (h.ord.refl w hw) (wgi h hw))
noncomputable def cbl (n:Nat) (le:Nat→Nat→Bool) (c:Nat):List Nat:=fl n fun z=>cenB n le z&&le z c
theorem w7 {n:Nat}{le:Nat→Nat→Bool}{c z:Nat}(hz:z<n):z∈cbl n le c↔(∃y,CP n le z y)∧le z c=true:=by
 unfold cbl
 rw[fl_mem,Bool.and_eq_true,xkt hz]
 exact⟨fun q=>q.2,fun q=>⟨hz,q⟩⟩
theorem zl {n:Nat}{le:Nat→Nat→Bool}{c z:Nat}(hz:z∈cbl n le c):z<n:=(fl_mem.1 hz).1
theorem cbl_nodup {n:Nat}{le:Nat→Nat→Bool}{c:Nat}:(cbl n le c).Nodup:=List.nodup_range.filter _
theorem wgo {α:Type}{A B:List α}(f:α→α) (hA:A.Nodup) (hf:∀a,a∈A→f a∈B) (hi:∀a b,a∈A→b∈A→f a=f b→a=b):A.length≤B.length:=by
 have hn:(A.map f).Nodup:=List.pairwise_map.2 (hA.imp_of_mem fun {a b} ha hb hne e=>hne (hi a b ha hb e))
 have:=hn.length_le_of_subset (l₂:=B) fun x hx=>by
  obtain⟨a,ha,rfl⟩:=List.mem_map.1 hx
  exact hf a ha
 simpa using this
theorem wj6 {α:Type}(p:α→Bool):∀l:List α,l.length=(l.filter p).length+(l.filter fun z => !p z).length
 | []=>rfl
 | x::l=>by
  have:=wj6 p l
  rw[List.filter_cons,List.filter_cons]
  cases p x<;>simp<;>omega
theorem xfq {n:Nat}{le:Nat→Nat→Bool}(h:LatP n le){c a c' a':Nat}(pc:CP n le c c') (pa:CP n le a a') (hac:le a c=true) (hm:∀z y,CP n le z y→le z a=true→z=bt n le∨z=a) (hab:a≠bt n le) :
  (cbl n le c).length=2*(cbl n le (mt n le c a')).length:=by
 have la:=pa.lx
 have la':=pa.ly
 have lc:=pc.lx
 have lca:=h.mlt lc la'
 obtain⟨_,pa1,pa2⟩:=cmp_mem.1 pa.c
 have hsplit:=wj6 (fun z=>le a z) (cbl n le c)
 have dich:∀z,z∈cbl n le c→¬le a z=true→le z a'=true:=fun z hz hn=>by
  have lz:=zl hz
  obtain⟨⟨y,pz⟩,hzc⟩:=(w7 lz).1 hz
  have hb:mt n le z a=bt n le:=by
   rcases hm _ _ (CP.meet h pz pa) (h.m2 lz la) with r|r
   ·exact r
   ·exact absurd (r▸h.m1 lz la) hn
  exact cenA h la la' lz pa.z la' (by rw[hb];exact wgi h la') (h.m2 lz la')
 have naa':¬le a a'=true:=fun e=>hab (wsx h la (by rw[←pa1];exact h.mg la' la la e (h.ord.refl a la)))
 have e2:(cbl n le c).filter (fun z => !le a z)=cbl n le (mt n le c a'):=by
  unfold cbl fl
  rw[List.filter_filter]
  refine List.filter_congr fun z hz => ?_
  have lz:=List.mem_range.1 hz
  rw[Bool.eq_iff_iff]
  simp only[Bool.and_eq_true,Bool.not_eq_true']
  constructor
  ·rintro⟨h1,h2,h3⟩
   exact⟨h2,h.mg lc la' lz h3 (dich z (fl_mem.2 ⟨lz,by simp[h2,h3]⟩) (by simp[h1]))⟩
  ·rintro⟨h1,h2⟩
   have k1:=h.tr lz lca lc h2 (h.m1 lc la')
   have k2:=h.tr lz lca la' h2 (h.m2 lc la')
   refine⟨?_,h1,k1⟩
   cases e:le a z with
   | false=>rfl
   | true=>exact absurd (h.tr la lz la' e k2) naa'
 have inv1:∀z,z<n→le a z=true→mt n (du le) (mt n le z a') a=z:=fun z lz e=>by
  have r:=(pa.z z lz).1
  have:mt n le z a=a:=h.as (h.mlt lz la) la (h.m2 lz la) (h.mg lz la la e (h.ord.refl a la))
  rw[this,we (le:=du le)]at r
  exact r
 have inv2:∀z,z<n→le z a'=true→mt n le (mt n (du le) z a) a'=z:=fun z lz e=>by
  have r:=(pa.z z lz).2
  have:mt n (du le) z a'=a':=h.as (jlt h lz la') la' (jg h lz la' la' e (h.ord.refl a' la')) (j2 h lz la')
  rw[this]at r
  exact r
 have mem2:∀z,z∈(cbl n le c).filter (fun z => !le a z)↔z∈cbl n le (mt n le c a'):=fun z=>by rw[e2]
 have hA:∀z,z∈(cbl n le c).filter (fun z=>le a z)↔z∈cbl n le c∧le a z=true:=fun z=>List.mem_filter
 have le1:((cbl n le c).filter fun z=>le a z).length≤(cbl n le (mt n le c a')).length:=by
  refine wgo (fun z=>mt n le z a') (cbl_nodup.filter _) (fun z hz => ?_) (fun z w hz hw e => ?_)
  ·have ⟨h1,h2⟩:=(hA z).1 hz
   have lz:=zl h1
   obtain⟨⟨y,pz⟩,hzc⟩:=(w7 lz).1 h1
   have lm:=h.mlt lz la'
   exact(w7 lm).2 ⟨⟨_,CP.meet h pz pa.sym⟩,h.mg lc la' lm (h.tr lm lz lc (h.m1 lz la') hzc) (h.m2 lz la')⟩
  ·have ⟨h1,h2⟩:=(hA z).1 hz
   have ⟨h3,h4⟩:=(hA w).1 hw
   rw[←inv1 z (zl h1) h2,←inv1 w (zl h3) h4]
   exact congrArg (fun t=>mt n (du le) t a) e
 have le2:(cbl n le (mt n le c a')).length≤((cbl n le c).filter fun z=>le a z).length:=by
  refine wgo (fun z=>mt n (du le) z a) cbl_nodup (fun z hz => ?_) (fun z w hz hw e => ?_)
  ·have lz:=zl hz
   obtain⟨⟨y,pz⟩,hzc⟩:=(w7 lz).1 hz
   have lj:=jlt h lz la
   exact(hA _).2 ⟨(w7 lj).2 ⟨⟨_,CP.join h pz pa⟩,jg h lz la lc (h.tr lz lca lc hzc (h.m1 lc la')) hac⟩,j2 h lz la⟩
  ·have lz:=zl hz
   have lw:=zl hw
   have z1:=h.tr lz lca la' ((w7 lz).1 hz).2 (h.m2 lc la')
   have w1:=h.tr lw lca la' ((w7 lw).1 hw).2 (h.m2 lc la')
   rw[←inv2 z lz z1,←inv2 w lw w1]
   exact congrArg (fun t=>mt n le t a') e
 have e3:((cbl n le c).filter fun z => !le a z).length=(cbl n le (mt n le c a')).length:=by rw[e2]
 omega
theorem w05 {n:Nat}{le:Nat→Nat→Bool}(h:LatP n le):∀k x y,CP n le x y→x≠bt n le→(fl n fun y=>le y x).length≤k→∃p p',CP n le p p'∧p≠bt n le∧le p x=true∧∀z y,CP n le z y→le z p=true→z=bt n le∨z=p
 | 0,x,y,hx,_,hk=>by
  have:x∈fl n fun y=>le y x:=fl_mem.2 ⟨hx.lx,h.ord.refl x hx.lx⟩
  have:=List.length_pos_of_mem this
  omega
 | k+1,x,y,hx,hb,hk=>by
  by_cases ha:∀z y,CP n le z y→le z x=true→z=bt n le∨z=x
  ·exact⟨x,y,hx,hb,h.ord.refl x hx.lx,ha⟩
  ·have ⟨q,hq⟩:=Classical.not_forall.1 ha
   have ⟨q',hq⟩:=Classical.not_forall.1 hq
   have ⟨hq1,hq2⟩:=Classical.not_imp.1 hq
   have ⟨hq3,hq4⟩:=Classical.not_imp.1 hq2
   have h1:q≠bt n le:=fun e=>hq4 (.inl e)
   have h2:q≠x:=fun e=>hq4 (.inr e)
   have hlt:(fl n fun y=>le y q).length<(fl n fun y=>le y x).length :=
    wpu (fun y hy e=>h.tr hy hq1.lx hx.lx e hq3) hx.lx (h.ord.refl x hx.lx) (by
     cases e:le x q with
     | false=>rfl
     | true=>exact absurd (h.as hq1.lx hx.lx hq3 e) h2)
   obtain⟨p,p',hp,hpb,hpq,hpm⟩:=w05 h k q q' hq1 h1 (by omega)
   exact⟨p,p',hp,hpb,h.tr hp.lx hq1.lx hx.lx hpq hq3,hpm⟩
theorem w06 {n:Nat}{le:Nat→Nat→Bool}(h:LatP n le):∀k c c',CP n le c c'→(cbl n le c).length≤k→∃m,(cbl n le c).length=2 ^ m
 | 0,c,c',hc,hk=>by
  have:c∈cbl n le c:=(w7 hc.lx).2 ⟨⟨_,hc⟩,h.ord.refl c hc.lx⟩
  have:=List.length_pos_of_mem this
  omega
 | k+1,c,c',hc,hk=>by
  have hmem:c∈cbl n le c:=(w7 hc.lx).2 ⟨⟨_,hc⟩,h.ord.refl c hc.lx⟩
  have hpos:=List.length_pos_of_mem hmem
  by_cases hb:c=bt n le
  ·refine⟨0, ?_⟩
   have h1:(cbl n le c).length≤[bt n le].length:=wgo id cbl_nodup (fun z hz=>by
    have lz:=zl hz
    have:=((w7 lz).1 hz).2
    rw[hb]at this
    have:=wsx h lz this
    simp[this]) (fun _ _ _ _ e=>e)
   simp at h1
   omega
  ·obtain⟨a,a',pa,hab,hac,hm⟩:=w05 h _ c c' hc hb (Nat.le_refl _)
   have e:=xfq h hc pa hac hm hab
   obtain⟨m,hm2⟩:=w06 h k _ _ (CP.meet h hc pa.sym) (by omega)
   exact⟨m+1,by rw[e,hm2,Nat.pow_succ];omega⟩
theorem xku {n:Nat}{le:Nat→Nat→Bool}(h:LatP n le):∃m,(fl n (cenB n le)).length=2 ^ m:=by
 obtain⟨m,hm⟩:=w06 h _ _ _ (CP.bot h).sym (Nat.le_refl _)
 refine⟨m, ?_⟩
 rw[←hm]
 unfold cbl
 congr 1
 refine ux fun x hx => ?_
 rw[wlo h hx,Bool.and_true]
theorem zx (a:List Int) (h:a.length≤400000000000):V74 big a a=some (true,()):=by
 unfold V74 w3z
 rw[cdf (by omega)]
 refine xmm a.length (fun i=>True) (by omega) (fun rc i hi hI hr => ?_) (fun rc hI => ?_) 0 (by omega) trivial
 ·unfold wi1
  rw[cdt (by omega),jf a i hi,obS,obS,cdf (by omega),wr1 (by omega)]
  exact hr trivial
 ·unfold wi1 we8
  rw[cdf (by omega)]
theorem wl4 {code:List Int}(hc:Codes code):∃p c,V19 big (code,((0:Int),((0:Int),())))=some (p,(c,()))∧DrP 12 p∧COk 9600 c:=wlt (k:=9600) hc.start
theorem DrP.rows12 {p:PT}(h:DrP 12 p):∀r∈p.1,r.length≤4294967296:=fun r hr=>by have:=h.2 r hr;omega
theorem xd9:∀{a b:List Int},a.length=b.length→lx a b=decide (cmpL a b<0)
 | [],[],_=>by simp[lx,cmpL]
 | [],_::_,h=>by simp at h
 | _::_,[],h=>by simp at h
 | x::a,y::b,h=>by
  have ih:=xd9 (a:=a) (b:=b) (by simpa using h)
  unfold lx cmpL
  by_cases e:x=y
  ·rw[if_neg (by simp[e]),if_pos e];exact ih
  ·rw[if_pos e,if_neg e]
   by_cases l:x<y
   ·rw[if_pos l];simp[l]
   ·rw[if_neg l];simp[l]
theorem xk2 {a b:List Int}(h:a.length<b.length):ltOf cmpT a b=true:=by simp[ltOf,cmpT,h]
theorem xk3 {a b:List Int}(h:b.length<a.length):ltOf cmpT a b=false:=by
 unfold ltOf cmpT
 rw[if_neg (by omega),if_pos h];decide
theorem xk4 {a b:List Int}(h:a.length=b.length):ltOf cmpT a b=lx a b:=by
 rw[xd9 h]
 unfold ltOf cmpT
 rw[if_neg (by omega),if_neg (by omega)]
theorem xee {ls:List (List Int)}{l:List Int}(hs:SortedL cmpT ls){m:Nat}(hm:m≤ls.length) (h1:∀(j:Nat) (hj:j<ls.length),m≤j→ltOf cmpT l ls[j]=true) (h2:∀(hk:0<m) ,ltOf cmpT l (ls[m-1]'(by omega))=false) :
  ls.take m++[l]++ls.drop m=insBy cmpT l ls:=by
 refine jan jx ?_ ?_ (jad jx l ls hs)
 ·refine List.Perm.trans ?_ (vp l ls).symm
  rw[List.append_assoc,List.singleton_append]
  refine List.perm_middle.trans ?_
  rw[List.take_append_drop]
 ·have hs':SortedL cmpT (ls.take m++ls.drop m):=by rw[List.take_append_drop];exact hs
  obtain⟨s1,s2,s3⟩:=List.pairwise_append.1 hs'
  have e1:∀x∈ls.take m,ltOf cmpT l x=false:=fun x hx=>by
   obtain⟨j,hj,rfl⟩:=List.mem_iff_getElem.1 hx
   rw[List.length_take]at hj
   have hm0:0<m:=by omega
   rw[List.getElem_take]
   by_cases q:j=m-1
   ·subst q;exact h2 hm0
   ·exact jep jx _ _ _ (h2 hm0) ((List.pairwise_iff_getElem.1 hs) j (m-1) (by omega) (by omega) (by omega))
  have e2:∀x∈ls.drop m,ltOf cmpT x l=false:=fun x hx=>by
   obtain⟨j,hj,rfl⟩:=List.mem_iff_getElem.1 hx
   rw[List.length_drop]at hj
   rw[List.getElem_drop]
   have:=h1 (m+j) (by omega) (by omega)
   cases q:ltOf cmpT ls[m+j] l with
   | false=>rfl
   | true=>have:=jgb jx _ _ _ this q;rw[jdg jx]at this;cases this
  unfold SortedL
  rw[List.append_assoc,List.singleton_append,List.pairwise_append]
  refine⟨s1,List.pairwise_cons.2 ⟨e2,s2⟩,fun x hx y hy => ?_⟩
  rcases List.mem_cons.1 hy with rfl|hy
  ·exact e1 x hx
  ·exact s3 x hx y hy
theorem xgc (ls:List (List Int)) (l:List Int) (hll:l.length≤4294967296) (h:ls.length≤4294967290) (hs:SortedL cmpT ls):V129 big ls l=some (insBy cmpT l ls,()):=by
 have fin:∀k:Nat,k≤ls.length→(∀(j:Nat) (hj:j<ls.length),k≤j→ltOf cmpT l ls[j]=true)→(∀(hk:0<k) (hq:k-1<ls.length),ltOf cmpT l ls[k-1]=false)→yk ls l (k:Int)=some (insBy cmpT l ls,()):=by
  intro k hk h1 h2
  have e1:slI ls 0 (k:Int)=some (ls.take k):=by have:=qn ls 0 k (by omega) hk;simpa using this
  have e2:slI ls (k:Int) (ls.length:Int)=some (ls.drop k):=by
   have:=qn ls k ls.length hk (Nat.le_refl _)
   rw[this,List.take_of_length_le (by rw[List.length_drop];omega)]
  have hl:(ls.take k).length≤ls.length:=by rw[List.length_take];omega
  unfold yk
  rw[e1,obS]
  have a1:appI ([]:List (List Int)) (ls.take k)=some (ls.take k):=by
   unfold appI;rw[if_pos (by simp;omega)];rfl
  rw[a1,obS,app1 (by omega),obS,e2,obS]
  have a2:appI (ls.take k++[l]) (ls.drop k)=some (ls.take k++[l]++ls.drop k):=by
   unfold appI
   rw[if_pos (by rw[List.length_append,List.length_drop,List.length_take];simp;omega)]
  rw[a2,obS,xee hs hk h1 fun q=>h2 q (by omega)]
 unfold V129 wtv
 refine xie (Q:=fun r=>r=some (insBy cmpT l ls,())) (fun k=>k.toNat) (fun k=>∃m:Nat,k=(m:Int)∧m≤ls.length∧∀(j:Nat) (hj:j<ls.length),m≤j→ltOf cmpT l ls[j]=true) ?_ _ (by omega) ⟨ls.length,rfl,Nat.le_refl _,fun j hj hm=>absurd hm (by omega)⟩
 rintro rc k ⟨m,rfl,hm,hgt⟩ ih
 unfold wq4
 by_cases c:m=0
 ·subst c
  rw[cdf (by omega)]
  exact fin 0 (by omega) hgt fun q=>absurd q (by omega)
 ·have e:IntKind.i64.wrap ((m:Int)-1)=((m-1:Nat):Int):=by rw[wr (by omega) (by omega)];omega
  have hat:atI ls ((m-1:Nat):Int)=some ls[m-1]:=jf ls (m-1) (by omega)
  have go:ltOf cmpT l ls[m-1]=true→rc ls l ((m-1:Nat):Int)=some (insBy cmpT l ls,()):=fun q=>ih ((m-1:Nat):Int) ⟨m-1,rfl,by omega,fun j hj hq=>by
   by_cases z:j=m-1
   ·subst z;exact q
   ·exact hgt j hj (by omega)⟩ (by omega)
  have stop:ltOf cmpT l ls[m-1]=false→yk ls l (m:Int)=some (insBy cmpT l ls,()):=fun q=>fin m hm hgt fun _ _=>q
  rw[cdt (by omega),e,hat,obS]
  by_cases c1:(l.length:Int)<(ls[m-1].length:Int)
  ·rw[cdt c1];exact go (xk2 (by omega))
  ·rw[cdf c1,obS]
   by_cases c2:(l.length:Int)=(ls[m-1].length:Int)
   ·have hle:V128 big l ls[m-1]=some (lx l ls[m-1],()):=xd7 l ls[m-1] (by omega) hll
    rw[cdt c2,obS,hle,obS]
    have hq:=xk4 (a:=l) (b:=ls[m-1]) (by omega)
    cases hx:lx l ls[m-1] with
    | true=>exact go (hq.trans hx)
    | false=>exact stop (hq.trans hx)
   ·rw[cdf c2];exact stop (xk3 (by omega))
theorem wyo (c:List Int→List Int→Int) (l:List (List Int)) (x:List Int):sortBy c (l++[x])=insBy c x (sortBy c l):=by unfold sortBy;rw[List.foldl_append];rfl
theorem zv {c:List Int→List Int→Int}(h:CmpOk c) (l:List (List Int)):(sortBy c l).length=l.length:=(vx h l).length_eq
theorem w5l {c:List Int→List Int→Int}(h:CmpOk c){l:List (List Int)}{x:List Int}:x∈sortBy c l↔x∈l:=(vx h l).mem_iff
theorem wl0 (c:List Int→List Int→Int) (l:List (List Int)) (h:l.length≤4294967296):sortRowsV c l=some ((),(sortBy c l,())):=by unfold sortRowsV;rw[if_pos h]
def ultL (n:Nat) (le:Nat→Nat→Bool):List (List Int):=(atm n le).map fun a=>cs (fl n fun y=>le a y)
theorem w1l {n:Nat}{le:Nat→Nat→Bool}(h:LatP n le) (h1:V59 big (pos n le)=some (true,())) (h2:V35 (pos n le)=some ((some (lat n le),true,()),())):V130 big (pos n le)=some ((sortBy cmpT (ultL n le),true,()),())∧V126 big (pos n le)=some ((sortBy cmpT (ultL n le),true,()),()):=by
 unfold V130 wmm V126 wmh
 have h10:=h.le10
 have hal:(atm n le).length≤n:=jh _ _
 have hat:∀i (hi:i<(atm n le).length),(atm n le)[i]<n:=fun i hi=>(fl_mem.1 (List.getElem_mem hi)).1
 have hul:∀i,i<(atm n le).length→((ultL n le).take (i+1))=(ultL n le).take i++[cs (fl n fun y=>le ((atm n le).getD i 0) y)]:=fun i hi=>by
  rw[List.take_succ_eq_append_getElem (by unfold ultL;rw[List.length_map];exact hi)]
  unfold ultL
  rw[List.getElem_map,List.getD_eq_getElem?_getD,List.getElem?_eq_getElem hi];rfl
 have hull:(ultL n le).length=(atm n le).length:=List.length_map _
 have htl:∀i,((ultL n le).take i).length≤10:=fun i=>by rw[List.length_take];omega
 rw[h1,h2]
 simp only[obS,Bool.not_true,cond_false,wxh h,wx4 h]
 constructor
 ·refine xii (atm n le).length (fun i l=>l=sortBy cmpT ((ultL n le).take i)) (by omega) ?_ ?_ 0 (by omega) _ rfl
  ·rintro rc i l hi rfl ih
   have ht:=htl i
   have hA:=hat i hi
   unfold wc9
   rw[cs_len,cdt (by omega),jo hi,obS,Int.toNat_natCast,jz hi,obS,wb3 (by omega) hA,obS,
    xgc _ _ (by rw[cs_len];have:=jh n fun y=>le (atm n le)[i] y;omega) (by rw[zv jx];omega) (ue jx _),obS,wr1 (by omega)]
   refine ih _ ?_
   rw[hul i hi,wyo,List.getD_eq_getElem?_getD,List.getElem?_eq_getElem hi];rfl
  ·rintro rc l rfl
   unfold wc9
   rw[cs_len,cdf (by omega),wal,←hull,List.take_length]
 ·rw[cs_len]
  refine xib (atm n le).length (fun i l=>l=(ultL n le).take i) (by omega) ?_ ?_ 0 (by omega) _ rfl
  ·rintro rc i l hi rfl ih
   have ht:=htl i
   have hA:=hat i hi
   unfold wcz
   rw[cdt (by omega),jo hi,obS,Int.toNat_natCast,jz hi,obS,obS,lat1,wgf (by omega) hA,obS,app1 (by omega),obS,wr1 (by omega)]
   refine ih _ ?_
   rw[hul i hi,List.getD_eq_getElem?_getD,List.getElem?_eq_getElem hi];rfl
  ·rintro rc l rfl
   unfold wcz
   rw[cdf (by omega),wah]
   unfold qg
   rw[←hull,List.take_length,wl0 _ _ (by omega)];rfl
noncomputable def hv (n:Nat) (H:Nat→Bool) (E:Nat→Prop):List Bool:=mkR n fun z=>H z||tv (E z)
def joinF (n:Nat) (P Q:Nat→Nat):Nat→Nat:=(List.range n).foldl (fun R x=>uni R x (Q x)) P
theorem wxs {n:Nat}{Q:Nat→Nat}(hQ:Pt n Q):∀(l:List Nat) (P:Nat→Nat),(∀x∈l,x<n)→Pt n P→Pt n (l.foldl (fun R x=>uni R x (Q x)) P)
 | [],P,_,hP=>hP
 | x::l,P,hl,hP=>wxs hQ l _ (fun y hy=>hl y (List.mem_cons_of_mem _ hy)) (xe hP (hl x (by simp)) (hQ.lt (hl x (by simp))))
theorem wl7 {n:Nat}{Q:Nat→Nat}(hQ:Pt n Q):∀(l:List Nat) (P:Nat→Nat),(∀x∈l,x<n)→Pt n P→Lep n P (l.foldl (fun R x=>uni R x (Q x)) P)∧∀x∈l,(l.foldl (fun R x=>uni R x (Q x)) P) (Q x)=(l.foldl (fun R x=>uni R x (Q x)) P) x
 | [],P,_,hP=>⟨Lep.refl hP,by simp⟩
 | x::l,P,hl,hP=>by
  have hx:=hl x (by simp)
  have hu:=xe hP hx (hQ.lt hx)
  obtain⟨h1,h2⟩:=wl7 hQ l (uni P x (Q x)) (fun y hy=>hl y (List.mem_cons_of_mem _ hy)) hu
  refine⟨Lep.trans hP (wb1 hP x (Q x)) h1,fun y hy => ?_⟩
  rcases List.mem_cons.1 hy with rfl|hy
  ·exact h1.ker (hQ.lt hx) hx (xem P y (Q y)).symm
  ·exact h2 y hy
theorem wls {n:Nat}{Q C:Nat→Nat}(hQ:Pt n Q) (hc:Lep n Q C):∀(l:List Nat) (P:Nat→Nat),(∀x∈l,x<n)→Pt n P→Lep n P C→Lep n (l.foldl (fun R x=>uni R x (Q x)) P) C
 | [],P,_,_,h=>h
 | x::l,P,hl,hP,h=>by
  have hx:=hl x (by simp)
  exact wls hQ hc l _ (fun y hy=>hl y (List.mem_cons_of_mem _ hy)) (xe hP hx (hQ.lt hx)) (wf9 hP h hx (hQ.lt hx) (hc x hx).symm)
theorem wro {n:Nat}{P Q:Nat→Nat}(hP:Pt n P) (hQ:Pt n Q):Pt n (joinF n P Q):=wxs hQ _ _ (fun x hx=>List.mem_range.1 hx) hP
theorem wxt {n:Nat}{P Q:Nat→Nat}(hP:Pt n P) (hQ:Pt n Q):Lep n P (joinF n P Q):=(wl7 hQ _ _ (fun x hx=>List.mem_range.1 hx) hP).1
theorem wxu {n:Nat}{P Q:Nat→Nat}(hP:Pt n P) (hQ:Pt n Q):Lep n Q (joinF n P Q):=fun x hx=>(wl7 hQ _ _ (fun x hx=>List.mem_range.1 hx) hP).2 x (List.mem_range.2 hx)
theorem wgm {n:Nat}{P Q C:Nat→Nat}(hP:Pt n P) (hQ:Pt n Q) (h1:Lep n P C) (h2:Lep n Q C):Lep n (joinF n P Q) C:=wls hQ h2 _ _ (fun x hx=>List.mem_range.1 hx) hP h1
theorem xk1 {n:Nat}{fs:List (Nat→Nat→Nat)}(ho:Opn n fs){P Q:Nat→Nat}(hP:Pt n P) (hQ:Pt n Q) (cP:Cg n fs P) (cQ:Cg n fs Q):Cg n fs (joinF n P Q):=by
 have hR:=wro hP hQ
 refine w45 fun f hf x y hx hy=>⟨?_, ?_⟩
 ·have:Lep n (joinF n P Q) (fun y=>joinF n P Q (f x y)):=wgm hP hQ
   (fun z hz=>(wxt hP hQ).ker (ho f hf x _ hx (hP.lt hz)) (ho f hf x z hx hz) (wk cP hf hx hz).1.symm)
   (fun z hz=>(wxu hP hQ).ker (ho f hf x _ hx (hQ.lt hz)) (ho f hf x z hx hz) (wk cQ hf hx hz).1.symm)
  exact(this y hy).symm
 ·have:Lep n (joinF n P Q) (fun x=>joinF n P Q (f x y)):=wgm hP hQ
   (fun z hz=>(wxt hP hQ).ker (ho f hf _ y (hP.lt hz) hy) (ho f hf z y hz hy) (wk cP hf hz hy).2.symm)
   (fun z hz=>(wxu hP hQ).ker (ho f hf _ y (hQ.lt hz) hy) (ho f hf z y hz hy) (wk cQ hf hz hy).2.symm)
  exact(this x hx).symm
theorem xel {n:Nat}{P P':Nat→Nat}(e:∀x,x<n→P x=P' x){x y:Nat}(hx:x<n) (hy:y<n):∀z,z<n→uni P x y z=uni P' x y z:=fun z hz=>by
 unfold uni;rw[e x hx,e y hy,e z hz]
theorem wlr {n:Nat}{Q Q':Nat→Nat}(hQ:Pt n Q) (eQ:∀x,x<n→Q x=Q' x):∀(l:List Nat) (P P':Nat→Nat),(∀x∈l,x<n)→(∀x,x<n→P x=P' x)→∀z,z<n→l.foldl (fun R x=>uni R x (Q x)) P z=l.foldl (fun R x=>uni R x (Q' x)) P' z
 | [],_,_,_,e=>e
 | x::l,P,P',hl,e=>by
  have hx:=hl x (by simp)
  have:=wlr hQ eQ l (uni P x (Q x)) (uni P' x (Q' x)) (fun y hy=>hl y (List.mem_cons_of_mem _ hy)) (by rw[←eQ x hx];exact xel e hx (hQ.lt hx))
  exact this
def fnL (l:List Int) (x:Nat):Nat:=(l.getD x 0).toNat
theorem wlm {n:Nat}{P:Nat→Nat}{x:Nat}(hx:x<n):fnL (ptL n P) x=P x:=by
 unfold fnL ptL
 rw[List.getD_eq_getElem?_getD,ju hx];simp
def Jl (n:Nat) (a b:List Int):List Int:=ptL n (joinF n (fnL a) (fnL b))
theorem w1m {n:Nat}{P Q:Nat→Nat}(hQ:Pt n Q):Jl n (ptL n P) (ptL n Q)=ptL n (joinF n P Q) :=
 xx fun z hz=>(wlr hQ (fun x hx=>(wlm hx).symm) _ P (fnL (ptL n P)) (fun x hx=>List.mem_range.1 hx) (fun x hx=>(wlm hx).symm) z hz).symm
theorem w5g {n:Nat}{P Q:Nat→Nat}{i:Nat}(hi:i<n):(List.range (i+1)).foldl (fun R x=>uni R x (Q x)) P=uni ((List.range i).foldl (fun R x=>uni R x (Q x)) P) i (Q i):=by
 rw[List.range_succ,List.foldl_append];rfl
theorem wxp {n:Nat}{P Q:Nat→Nat}(hn:n≤1048576) (hQ:Pt n Q):V92 big (ptL n P) (ptL n Q)=some (ptL n (joinF n P Q),()):=by
 unfold V92 w4p
 rw[xfr _ (by rw[w8];omega),obS,w8]
 refine xmy n (fun i l=>l=ptL n ((List.range i).foldl (fun R x=>uni R x (Q x)) P)) (by omega) ?_ ?_ 0 (by omega) _ rfl
 ·rintro rc i l hi rfl ih
  have hq:atI (ptL n Q) (i:Int)=some ((Q i:Nat):Int):=jd hi
  unfold wjo
  rw[cdt (by omega),hq,obS,wgs hn hi (hQ.lt hi),obS,wr1 (by omega)]
  exact ih _ (by rw[w5g hi])
 ·rintro rc l rfl
  unfold wjo
  rw[cdf (by omega),wfn];rfl
noncomputable def prinL (n:Nat) (fs:List (Nat→Nat→Nat)) (x y:Nat):List Int:=ptL n (lcO n fs (uni (fun z=>z) x y))
theorem w1i {n:Nat}{fs:List (Nat→Nat→Nat)}(h10:n≤10) (hn:0<n) (hfl:fs.length≤10) (ho:Opn n fs){x y:Nat}(hx:x<n) (hy:y<n):LeastC n fs (uni (fun z=>z) x y) (lcO n fs (uni (fun z=>z) x y)):=by
 obtain⟨_,q,_,hq⟩:=xfs (fs:=fs) h10 hn hfl ho (xe (wpy n) hx hy)
 exact wxy ⟨hq.pt,hq.le,hq.lst,hq.cg⟩
def GP (n:Nat) (fs:List (Nat→Nat→Nat)) (g:List Int):Prop:=∃x y,x<y∧y<n∧g=prinL n fs x y
inductive Rch (n:Nat) (fs:List (Nat→Nat→Nat)):List Int→Prop where
 | id:Rch n fs (ptL n fun x=>x)
 | step {a g:List Int} (h:Rch n fs a) (hg:GP n fs g):Rch n fs (Jl n a g)
theorem xnr {n:Nat}{fs:List (Nat→Nat→Nat)}:Cg n fs (fun x=>x):=w45 fun f hf x y hx hy=>⟨rfl,rfl⟩
theorem GP.cong {n:Nat}{fs:List (Nat→Nat→Nat)}(h10:n≤10) (hn:0<n) (hfl:fs.length≤10) (ho:Opn n fs){g:List Int}(h:GP n fs g):CongL n fs g:=by
 obtain⟨x,y,h1,h2,rfl⟩:=h
 have:=w1i (fs:=fs) h10 hn hfl ho (show x<n by omega) h2
 exact⟨_,this.pt,rfl,this.cg⟩
theorem xhu {n:Nat}{fs:List (Nat→Nat→Nat)}(ho:Opn n fs){a b:List Int}(ha:CongL n fs a) (hb:CongL n fs b):CongL n fs (Jl n a b):=by
 obtain⟨P,p1,rfl,p3⟩:=ha
 obtain⟨Q,q1,rfl,q3⟩:=hb
 rw[w1m q1]
 exact⟨_,wro p1 q1,rfl,xk1 ho p1 q1 p3 q3⟩
theorem Rch.cong {n:Nat}{fs:List (Nat→Nat→Nat)}(h10:n≤10) (hn:0<n) (hfl:fs.length≤10) (ho:Opn n fs){a:List Int}(h:Rch n fs a):CongL n fs a:=by
 induction h with
 | id=>exact⟨_,wpy n,rfl,xnr⟩
 | step h hg ih=>exact xhu ho ih (hg.cong h10 hn hfl ho)
theorem Rch.of_closed {n:Nat}{fs:List (Nat→Nat→Nat)}{L:List (List Int)}(h0:(ptL n fun x=>x)∈L) (h1:∀a∈L,∀g,GP n fs g→Jl n a g∈L){a:List Int}(h:Rch n fs a):a∈L:=by
 induction h with
 | id=>exact h0
 | step h hg ih=>exact h1 _ ih _ hg
theorem w5h {α:Type}{L M:List α}(h1:L.Nodup) (h2:M.Nodup) (h:∀a,a∈L↔a∈M):L.Perm M:=(List.perm_ext_iff_of_nodup h1 h2).2 h
def kyB (x:Int):List Int:=[IntKind.u8.wrap (x.fdiv 256),IntKind.u8.wrap x]
def keyL (l:List Int):List UInt8:=(l.flatMap kyB).map fun n=>UInt8.ofNat n.toNat
theorem wxo {α β:Type}(f:α→List β) (l:List α) (x:α):(l++[x]).flatMap f=l.flatMap f++f x:=by simp
theorem w1d:∀(l:List Int),(l.flatMap kyB).length=2*l.length
 | []=>rfl
 | x::l=>by simp only[List.flatMap_cons,List.length_append,w1d l,List.length_cons];simp[kyB];omega
theorem shr8 (x:Int):shrI IntKind.i64 x 8=some (x.fdiv 256):=rfl
theorem wxw {l:List Int}(hl:l.length≤1048576) (hx:∀x∈l,0≤x∧x≤1000):V91 big l=some (keyL l,()):=by
 unfold V91 w4n
 rw[wr (by omega) (by omega),show(2:Int)*(l.length:Int)=((2*l.length:Nat):Int) by omega,uo _ _ (by omega),obS,show((0:Int))=((0:Nat):Int) from rfl,uo _ _ (by omega),obS,cdt (by omega)]
 refine xmx l.length (fun i b=>b=(l.take i).flatMap kyB) (by omega) ?_ ?_ 0 (by omega) _ rfl
 ·rintro rc i b hi rfl ih
  have hxi:=hx _ (List.getElem_mem hi)
  have hkl:((l.take i).flatMap kyB).length≤2097152:=by rw[w1d,List.length_take];omega
  have hd:l[i].fdiv 256=l[i] / 256:=Int.fdiv_eq_ediv_of_nonneg _ (by omega)
  unfold wjm
  rw[cdt (by omega),jf l i hi,obS,shr8,obS]
  have ha:appI ((l.take i).flatMap kyB) [IntKind.u8.wrap (l[i].fdiv 256),IntKind.u8.wrap l[i]]=some ((l.take i).flatMap kyB++kyB l[i]):=by
   unfold appI
   rw[if_pos (by simp only[List.length_cons,List.length_nil];omega)];rfl
  rw[ha,obS,wr1 (by omega)]
  refine ih _ ?_
  rw[List.take_succ_eq_append_getElem hi,wxo]
 ·rintro rc b rfl
  unfold wjm
  rw[cdf (by omega),wfm,List.take_length];rfl
theorem u8w {x:Int}(h1:0≤x) (h2:x≤255):IntKind.u8.wrap x=x:=by
 unfold IntKind.wrap
 simp[IntKind.bits,IntKind.signed]
 omega
theorem wb6 {x:Int}(h1:0≤x) (h2:x≤255) (l:List Int):keyL (x::l)=0::UInt8.ofNat x.toNat::keyL l:=by
 have hd:x.fdiv 256=0:=by rw[Int.fdiv_eq_ediv_of_nonneg _ (by omega)];omega
 unfold keyL
 rw[List.flatMap_cons,List.map_append]
 unfold kyB
 rw[hd,u8w (by omega) (by omega),u8w h1 h2]
 rfl
theorem wxv:∀{l m:List Int},(∀x∈l,0≤x∧x≤255)→(∀x∈m,0≤x∧x≤255)→keyL l=keyL m→l=m
 | [],[],_,_,_=>rfl
 | [],y::m,_,h2,e=>by
  rw[wb6 (h2 y (by simp)).1 (h2 y (by simp)).2]at e
  simp[keyL]at e
 | x::l,[],h1,_,e=>by
  rw[wb6 (h1 x (by simp)).1 (h1 x (by simp)).2]at e
  simp[keyL]at e
 | x::l,y::m,h1,h2,e=>by
  have hx:=h1 x (by simp)
  have hy:=h2 y (by simp)
  rw[wb6 hx.1 hx.2,wb6 hy.1 hy.2]at e
  simp only[List.cons.injEq,true_and]at e
  have e1:=congrArg UInt8.toNat e.1
  rw[UInt8.toNat_ofNat',UInt8.toNat_ofNat',Nat.mod_eq_of_lt (by omega),Nat.mod_eq_of_lt (by omega)]at e1
  rw[show x=y by omega,wxv (fun z hz=>h1 z (List.mem_cons_of_mem _ hz)) (fun z hz=>h2 z (List.mem_cons_of_mem _ hz)) e.2]
theorem wp0 (m:List (List UInt8×Bool)) (a b:List UInt8):mget .str .bool (mput .str .bool m a true) b=if b=a then some true else mget .str .bool m b:=by
 induction m with
 | nil =>
  simp only[mput,mget,eqD]
  by_cases e:b=a
  ·rw[cdt e,if_pos e]
  ·rw[cdf e,if_neg e]
 | cons p m ih =>
  obtain⟨k,v⟩:=p
  simp only[mput,eqD]
  by_cases e:a=k
  ·rw[cdt e]
   simp only[mget,eqD]
   by_cases e2:b=a
   ·rw[cdt e2,if_pos e2]
   ·rw[cdf e2,if_neg e2,cdf (by rw[←e];exact e2)]
  ·rw[cdf e]
   simp only[mget,eqD]
   by_cases e2:b=k
   ·rw[cdt e2,cdt e2,if_neg (by rw[e2];exact fun q=>e q.symm)]
   ·rw[cdf e2,cdf e2,ih]
theorem ls_iff {le:Nat→Nat→Bool}{x y:Nat}:ls le x y=true↔x≠y∧le x y=true:=by unfold ls;simp
theorem xnd {n:Nat}{P:Nat→Bool}{s:Nat}(hs:s<n) (h:∀x,x<n→(P x=true↔x=s)):fl n P=[s]:=by
 have hpw:(fl n P).Pairwise (·<·):=List.Pairwise.filter _ List.pairwise_lt_range
 have h1:∀x,x∈fl n P↔x=s:=fun x=>by
  rw[fl_mem]
  exact⟨fun q=>(h x q.1).1 q.2,fun q=>⟨q▸hs,(h x (q▸hs)).2 q⟩⟩
 cases e:fl n P with
 | nil=>have:=(h1 s).2 rfl;rw[e]at this;cases this
 | cons a l =>
  have ea:a=s:=(h1 a).1 (by rw[e];simp)
  cases l with
  | nil=>rw[ea]
  | cons b l =>
   have eb:b=s:=(h1 b).1 (by rw[e];simp)
   rw[e]at hpw
   have:=(List.pairwise_cons.1 hpw).1 b (by simp)
   omega
theorem xne {n:Nat}{le:Nat→Nat→Bool}(h:LatP n le){j s:Nat}(hj:j<n) (hs:s<n) (h1:ls le s j=true) (h2:∀z,z<n→ls le z j=true→le z s=true):irr n le j=true∧star n le j=s:=by
 have e:(fl n fun x=>cov n le x j)=[s]:=xnd hs fun x hx=>by
  constructor
  ·intro hc
   apply Classical.byContradiction
   intro q
   have hl:=xdz hc
   rw[w47 hs (ls_iff.2 ⟨q,h2 x hx hl⟩) h1]at hc
   cases hc
  ·rintro rfl
   refine w48 h1 fun z hz q => ?_
   have q1:=ls_iff.1 q.1
   exact q1.1 (h.as hx hz q1.2 (h2 z hz q.2))
 refine⟨?_, ?_⟩
 ·unfold irr;rw[e];rfl
 ·unfold star;rw[e];rfl
theorem wry {n:Nat}{le:Nat→Nat→Bool}(h:LatP n le){a:Nat}(ha:a<n):∀(k b:Nat),b<n→(fl n fun z=>le z b).length≤k→le b a≠true→∃j,j<n∧le j b=true∧le j a≠true∧∀z,z<n→ls le z j=true→le z a=true
 | 0,b,hb,hk,_=>by
  have:b∈fl n fun z=>le z b:=fl_mem.2 ⟨hb,h.ord.refl b hb⟩
  have:=List.length_pos_of_mem this
  omega
 | k+1,b,hb,hk,hab=>by
  by_cases q:∀z,z<n→ls le z b=true→le z a=true
  ·exact⟨b,hb,h.ord.refl b hb,hab,q⟩
  ·obtain⟨z,hz⟩:=Classical.not_forall.1 q
   obtain⟨hz,q⟩:=Classical.not_imp.1 hz
   obtain⟨q1,q2⟩:=Classical.not_imp.1 q
   have q3:=ls_iff.1 q1
   have hlt:(fl n fun y=>le y z).length<(fl n fun y=>le y b).length :=
    wpu (fun y hy hyz=>h.tr hy hz hb hyz q3.2) hb (h.ord.refl b hb) (by
     cases w:le b z with
     | false=>rfl
     | true=>exact absurd (h.as hz hb q3.2 w) q3.1)
   obtain⟨j,j1,j2,j3,j4⟩:=wry h ha k z hz (by omega) q2
   exact⟨j,j1,h.tr j1 hz hb j2 q3.2,j3,j4⟩
theorem m_le {n:Nat}{le:Nat→Nat→Bool}(h:LatP n le){x y:Nat}(hx:x<n) (hy:y<n) (e:le x y=true):mt n le x y=x :=
 h.as (h.mlt hx hy) hx (h.m1 hx hy) (h.mg hx hy hx (h.ord.refl x hx) e)
theorem j_le {n:Nat}{le:Nat→Nat→Bool}(h:LatP n le){x y:Nat}(hx:x<n) (hy:y<n) (e:le y x=true):mt n (du le) x y=x:=m_le h.du hx hy e
theorem w09 {n:Nat}{le:Nat→Nat→Bool}(h:LatP n le){P Q:Nat→Nat}(hP:Pt n P) (hQ:Pt n Q) (cP:Cg n (latF n le) P) (cQ:Cg n (latF n le) Q)
  (hc:∀j,j<n→irr n le j=true→P j=P (star n le j)→Q j=Q (star n le j)) {b:Nat} (hb:b<n) :
  ∀(k a:Nat),a<n→le a b=true→(fl n fun z=>le z b && !le z a).length≤k→P a=P b→Q a=Q b:=by
 have fm:mt n le∈latF n le:=by simp
 have fj:mt n (du le)∈latF n le:=by simp
 intro k
 induction k with
 | zero =>
  intro a ha hab hk e
  by_cases q:le b a=true
  ·rw[h.as ha hb hab q]
  ·have:b∈fl n fun z=>le z b && !le z a:=fl_mem.2 ⟨hb,by rw[h.ord.refl b hb];cases w:le b a<;>simp_all⟩
   have:=List.length_pos_of_mem this
   omega
 | succ k ih =>
  intro a ha hab hk e
  by_cases q:le b a=true
  ·rw[h.as ha hb hab q]
  ·obtain⟨j,hj,jb,ja,jm⟩:=wry h ha _ b hb (Nat.le_refl _) q
   have hs:=h.mlt hj ha
   have sj:=h.m1 hj ha
   have sa:=h.m2 hj ha
   have s1:ls le (mt n le j a) j=true:=ls_iff.2 ⟨fun w=>ja (by rw[w]at sa;exact sa),sj⟩
   obtain⟨i1,i2⟩:=xne h hj hs s1 fun z hz w=>h.mg hj ha hz (ls_iff.1 w).2 (jm z hz w)
   have hpj:P j=P (mt n le j a):=by
    have e1:=(wk cP fm hj hb).1
    have e2:=(wk cP fm hj ha).1
    rw[m_le h hj hb jb,←e,←e2]at e1
    exact e1
   have hqj:=hc j hj i1 (by rw[i2];exact hpj)
   rw[i2]at hqj
   have ha':=jlt h ha hj
   have q1:Q (mt n (du le) a j)=Q a:=by
    have e1:=(wk cQ fj ha hj).1
    have e2:=(wk cQ fj ha hs).1
    rw[hqj,←e2,j_le h ha hs sa]at e1
    exact e1
   have p1:P (mt n (du le) a j)=P b:=by
    have e1:=(wk cP fj ha hj).2
    have e2:=(wk cP fj hb hj).2
    rw[e,←e2,j_le h hb hj jb]at e1
    exact e1
   rw[←q1]
   refine ih _ ha' (jg h ha hj hb hab jb) ?_ p1
   have:(fl n fun z=>le z b && !le z (mt n (du le) a j)).length<(fl n fun z=>le z b && !le z a).length :=
    wpu (fun z hz w=>by
     simp only[Bool.and_eq_true,Bool.not_eq_true']at w ⊢
     refine⟨w.1, ?_⟩
     cases w2:le z a with
     | false=>rfl
     | true=>rw[h.tr hz ha ha' w2 (j1 h ha hj)]at w;cases w.2) hj (by
      rw[jb,Bool.true_and]
      cases w:le j a with
      | false=>rfl
      | true=>exact absurd w ja) (by rw[j2 h ha hj];simp)
   omega
theorem xfv {n:Nat}{le:Nat→Nat→Bool}(h:LatP n le){P Q:Nat→Nat}(hP:Pt n P) (hQ:Pt n Q) (cP:Cg n (latF n le) P) (cQ:Cg n (latF n le) Q)
  (hc:∀j,j<n→irr n le j=true→(P j=P (star n le j)↔Q j=Q (star n le j))) {x:Nat} (hx:x<n):P x=Q x:=by
 have fm:mt n le∈latF n le:=by simp
 have key:∀{P Q:Nat→Nat},Pt n P→Pt n Q→Cg n (latF n le) P→Cg n (latF n le) Q→(∀j,j<n→irr n le j=true→P j=P (star n le j)→Q j=Q (star n le j))→Lep n P Q:=by
  intro P Q hP hQ cP cQ hc x hx
  have hp:=hP.lt hx
  have e1:P (mt n le (P x) x)=P x:=by rw[←(wk cP fm hx hx).2,w1h h hx]
  have hm:=h.mlt hp hx
  have a1:=w09 h hP hQ cP cQ hc hx _ _ hm (h.m2 hp hx) (Nat.le_refl _) e1
  have a2:=w09 h hP hQ cP cQ hc hp _ _ hm (h.m1 hp hx) (Nat.le_refl _) (by rw[e1,hP.id x hx])
  rw[←a1,←a2]
 exact Lep.eq hP hQ (key hP hQ cP cQ fun j hj hi=>(hc j hj hi).1) (key hQ hP cQ cP fun j hj hi=>(hc j hj hi).2) hx
theorem xk0 {n:Nat}{le:Nat→Nat→Bool}(h:LatP n le):(fl n fun j=>irr n le j).length<n:=by
 obtain⟨t,ht⟩:=topEx h.du
 have hb:∀z,z<n→le t z=true:=fun z hz=>ht.gr z hz (by simp)
 have:(fl n fun j=>irr n le j).length<(fl n fun _=>true).length:=wpu (fun _ _ _=>rfl) ht.lt rfl (by
  cases w:irr n le t with
  | false=>rfl
  | true =>
   unfold irr at w
   rw[decide_eq_true_eq]at w
   cases e:fl n fun x=>cov n le x t with
   | nil=>rw[e]at w;simp at w
   | cons a l =>
    have hm:a∈fl n fun x=>cov n le x t:=by rw[e];simp
    obtain⟨ha,hc⟩:=fl_mem.1 hm
    have hl:=ls_iff.1 (xdz hc)
    exact absurd (h.as ha ht.lt hl.2 (hb a ha)) hl.1)
 have:=jh n fun _=>true
 omega
theorem xf6:∀(N:Nat) (L:List Nat),L.Nodup→(∀x∈L,x<N)→L.length≤N:=fun N L h1 h2=>by
 have:=h1.length_le_of_subset (l₂:=List.range N) fun x hx=>List.mem_range.2 (h2 x hx)
 rwa [List.length_range]at this
theorem wj9 {α β:Type}{f:α→β}:∀{l:List α},(∀a∈l,∀b∈l,f a=f b→a=b)→l.Nodup→(l.map f).Nodup
 | [],_,_=>List.nodup_nil
 | a::l,hf,h=>by
  obtain⟨h1,h2⟩:=List.nodup_cons.1 h
  rw[List.map_cons,List.nodup_cons]
  refine⟨fun q => ?_,wj9 (fun x hx y hy=>hf x (List.mem_cons_of_mem _ hx) y (List.mem_cons_of_mem _ hy)) h2⟩
  obtain⟨b,hb,e⟩:=List.mem_map.1 q
  exact h1 (hf b (List.mem_cons_of_mem _ hb) a (by simp) e▸hb)
theorem xfw {n:Nat}{le:Nat→Nat→Bool}(h:LatP n le) (h8:n≤8) (L:List (List Int)) (hn:L.Nodup) (hc:∀a∈L,CongL n (latF n le) a):L.length≤128:=by
 have hk:=xk0 h
 generalize hI:(fl n fun j=>irr n le j)=I at hk
 have hex:∀a:List Int,∃b,b<2 ^ I.length∧∀i,i<I.length→(bt1 b i↔decide (fnL a (I.getD i 0)=fnL a (star n le (I.getD i 0)))=true):=fun a=>w03 _ _
 let code:List Int→Nat:=fun a=>Classical.choose (hex a)
 have hcode:∀a,code a<2 ^ I.length∧∀i,i<I.length→(bt1 (code a) i↔decide (fnL a (I.getD i 0)=fnL a (star n le (I.getD i 0)))=true):=fun a=>Classical.choose_spec (hex a)
 have hinj:∀a∈L,∀b∈L,code a=code b→a=b:=fun a ha b hb e=>by
  obtain⟨P,hP,rfl,cP⟩:=hc a ha
  obtain⟨Q,hQ,rfl,cQ⟩:=hc b hb
  refine xx fun x hx=>xfv h hP hQ cP cQ (fun j hj hi => ?_) hx
  have hm:j∈I:=by rw[←hI];exact fl_mem.2 ⟨hj,hi⟩
  obtain⟨i,hil,ei⟩:=List.getElem_of_mem hm
  have e1:=(hcode (ptL n P)).2 i hil
  have e2:=(hcode (ptL n Q)).2 i hil
  have hg:I.getD i 0=j:=by rw[List.getD_eq_getElem?_getD,List.getElem?_eq_getElem hil,ei];rfl
  have hst:=xk9 hi
  rw[hg,wlm hj,wlm hst,decide_eq_true_eq]at e1 e2
  rw[e]at e1
  exact e1.symm.trans e2
 have:=xf6 (2 ^ I.length) (L.map code) (wj9 hinj hn) (fun x hx=>by
  obtain⟨a,_,rfl⟩:=List.mem_map.1 hx
  exact(hcode a).1)
 rw[List.length_map]at this
 have:2 ^ I.length≤2 ^ 7:=Nat.pow_le_pow_right (by omega) (by omega)
 omega
theorem wgk {n:Nat}{fs:List (Nat→Nat→Nat)}(h8:n≤8){a:List Int}(h:CongL n fs a):a.length=n∧∀x∈a,0≤x∧x≤255:=by
 obtain⟨P,hP,rfl,_⟩:=h
 refine⟨w8 n P,fun x hx => ?_⟩
 obtain⟨i,hi⟩:=List.mem_iff_getElem?.1 hx
 have hil:i<n:=by
  have:=(List.getElem?_eq_some_iff.1 hi).1
  rwa [w8]at this
 unfold ptL at hi
 rw[ju hil]at hi
 have:=Option.some.inj hi
 have:=hP.lt hil
 omega
theorem wr6 {n:Nat}{fs:List (Nat→Nat→Nat)}(hn:n≤1048576){a b:List Int}(ha:CongL n fs a) (hb:CongL n fs b):V92 big a b=some (Jl n a b,()):=by
 obtain⟨P,p1,rfl,p3⟩:=ha
 obtain⟨Q,q1,rfl,q3⟩:=hb
 rw[w1m q1,wxp hn q1]
theorem wyf {n:Nat}{le:Nat→Nat→Bool}(h:LatP n le) (h8:n≤8){RL:List (List Int)}(hn:RL.Nodup) (hm:∀a,a∈RL↔Rch n (latF n le) a){A:AlT}(hA:A.1=(n:Int)) (hP:∀i j:Nat,i<n→j<n→V90 big A [((i:Int),((j:Int),()))]=some (prinL n (latF n le) i j,())) :
  V93 big A=some ((sortBy cmpC RL,true,()),()):=by
 have h10:=h.le10
 have h0:=h.lat.ne
 have ho:=wln h
 have hfl:(latF n le).length≤10:=by simp
 have hcg:∀{a},Rch n (latF n le) a→CongL n (latF n le) a:=fun r=>r.cong h10 h0 hfl ho
 have h128:∀L:List (List Int),L.Nodup→(∀a∈L,Rch n (latF n le) a)→L.length≤128:=fun L h1 h2=>xfw h h8 L h1 fun a ha=>hcg (h2 a ha)
 have hR:=h128 RL hn fun a ha=>(hm a).1 ha
 have fin:∀L:List (List Int),L.Nodup→(∀a,a∈L↔Rch n (latF n le) a)→w6 L=some ((sortBy cmpC RL,true,()),()):=by
  intro L h1 h2
  have hp:L.Perm RL:=w5h h1 hn fun a=>(h2 a).trans (hm a).symm
  have hl:=hp.length_eq
  have e:sortBy cmpC L=sortBy cmpC RL:=jbe qh ((vx qh L).trans hp) (ue qh L)
  unfold w6 ug
  rw[wl0 _ _ (by omega),obS,e]
 have bfs:∀(G:List (List Int)),(∀g,g∈G↔GP n (latF n le) g)→G.length≤1000→∀(seen:List (List UInt8×Bool)),(∀k,Option.getD (mget .str .bool seen k) false=true↔∃a∈[ptL n fun x=>x],keyL a=k) →
   xg big G [ptL n fun x=>x] seen (0:Int)=some ((sortBy cmpC RL,true,()),()):=by
  intro G hG hGl seen hseen
  have done:∀(i:Nat) (L:List (List Int)) (s:List (List UInt8×Bool)),L.length≤i→(L.Nodup∧(∀a∈L,Rch n (latF n le) a)∧(ptL n fun x=>x)∈L∧∀k,(Option.getD (mget .str .bool s k) false=true↔∃a∈L,keyL a=k)) →
    (∀(i':Nat) (a:List Int),i'<i→L[i']? = some a→∀g,GP n (latF n le) g→Jl n a g∈L)→w6 L=some ((sortBy cmpC RL,true,()),()):=by
   intro i L s hil hst hcl
   refine fin L hst.1 fun a=>⟨hst.2.1 a,fun r=>Rch.of_closed hst.2.2.1 (fun a ha g hg => ?_) r⟩
   obtain⟨i',hi'⟩:=List.mem_iff_getElem?.1 ha
   have:=(List.getElem?_eq_some_iff.1 hi').1
   exact hcl i' a (by omega) hi' g hg
  refine xkg RL.length (fun i L s=>(L.Nodup∧(∀a∈L,Rch n (latF n le) a)∧(ptL n fun x=>x)∈L∧∀k,(Option.getD (mget .str .bool s k) false=true↔∃a∈L,keyL a=k)) ∧
    ∀(i':Nat) (a:List Int),i'<i→L[i']? = some a→∀g,GP n (latF n le) g→Jl n a g∈L) (by omega) ?_ ?_ 0 (by omega) _ _ ⟨⟨by simp,fun a ha => ?_,by simp,hseen⟩,fun i' a q=>by omega⟩
  ·rintro rc i L s hi ⟨hst,hcl⟩ ih
   unfold waz
   by_cases c:i<L.length
   ·rw[cdt (by omega)]
    have hcurR:=hst.2.1 _ (List.getElem_mem c)
    generalize hcur0:L[i]=cur at hcurR
    have hcurL:L[i]? = some cur:=by rw[List.getElem?_eq_getElem c,hcur0]
    refine xkh G.length (fun j L s=>(L.Nodup∧(∀a∈L,Rch n (latF n le) a)∧(ptL n fun x=>x)∈L∧∀k,(Option.getD (mget .str .bool s k) false=true↔∃a∈L,keyL a=k))∧L[i]? = some cur ∧
     (∀(i':Nat) (a:List Int),i'<i→L[i']? = some a→∀g,GP n (latF n le) g→Jl n a g∈L)∧∀(j':Nat) (g:List Int),j'<j→G[j']? = some g→Jl n cur g∈L) (by omega) ?_ ?_ 0 (by omega) _ _ ⟨hst,hcurL,hcl,fun j' g q=>by omega⟩
    ·rintro rc2 j L s hj ⟨hst,hcur,hcl,hdone⟩ ih2
     have hil:i<L.length:=(List.getElem?_eq_some_iff.1 hcur).1
     have hLl:=h128 L hst.1 hst.2.1
     have hgR:=(hG _).1 (List.getElem_mem hj)
     have hcu:atI L (i:Int)=some cur:=by rw[qc,hcur]
     have hgj:G[j]? = some G[j]:=List.getElem?_eq_getElem hj
     generalize G[j]=g at hgR hgj
     have hxR:Rch n (latF n le) (Jl n cur g) := .step hcurR hgR
     have hxf:=wgk h8 (hcg hxR)
     have hgg:atI G (j:Int)=some g:=by rw[qc,hgj]
     have nxt:∀L':List (List Int),Jl n cur g∈L'→(∀a∈L,a∈L')→∀(j':Nat) (g:List Int),j'<j+1→G[j']? = some g→Jl n cur g∈L':=by
      intro L' h1 h2 j' g' hj' e
      by_cases q:j'=j
      ·subst q;rw[hgj]at e;cases e;exact h1
      ·exact h2 _ (hdone j' g' (by omega) e)
     unfold wfs
     rw[cdt (by omega)]
     simp only[hgg,hcu,Int.toNat_natCast,hgj,hcur,obS,wr6 (show n≤1048576 by omega) (hcg hcurR) (hgR.cong h10 h0 hfl ho),wxw (show(Jl n cur g).length≤1048576 by omega) (fun x hx=>by have:=hxf.2 x hx;omega)]
     by_cases hin:Jl n cur g∈L
     ·rw[(hst.2.2.2 _).2 ⟨_,hin,rfl⟩,Bool.not_true,cond_false,cdf (by omega),wr1 (by omega)]
      exact ih2 _ _ ⟨hst,hcur,hcl,nxt L hin fun _ q=>q⟩
     ·have hno:Option.getD (mget .str .bool s (keyL (Jl n cur g))) false=false:=by
       cases e:Option.getD (mget .str .bool s (keyL (Jl n cur g))) false with
       | false=>rfl
       | true =>
        obtain⟨a,ha,ek⟩:=(hst.2.2.2 _).1 e
        have:=wxv (wgk h8 (hcg (hst.2.1 a ha))).2 hxf.2 ek
        exact absurd (this▸ha) hin
      rw[hno,Bool.not_false,cond_true,app1 (by omega),obS,cdf (by rw[List.length_append,List.length_singleton];omega),wr1 (by omega)]
      refine ih2 _ _ ⟨⟨?_, ?_, ?_, ?_⟩, ?_, ?_,nxt _ (by simp) fun a q=>List.mem_append_left _ q⟩
      ·rw[List.nodup_append]
       exact⟨hst.1,by simp,fun a ha b hb e=>hin (by rw[List.mem_singleton]at hb;rw[←hb,←e];exact ha)⟩
      ·intro a ha
       rcases List.mem_append.1 ha with q|q
       ·exact hst.2.1 a q
       ·rw[List.mem_singleton]at q;rw[q];exact hxR
      ·exact List.mem_append_left _ hst.2.2.1
      ·intro k
       rw[wp0]
       by_cases e:k=keyL (Jl n cur g)
       ·rw[if_pos e]
        exact⟨fun _=>⟨_,List.mem_append_right _ (by simp),e.symm⟩,fun _=>rfl⟩
       ·rw[if_neg e,hst.2.2.2 k]
        constructor
        ·rintro⟨a,ha,q⟩;exact⟨a,List.mem_append_left _ ha,q⟩
        ·rintro⟨a,ha,q⟩
         rcases List.mem_append.1 ha with w|w
         ·exact⟨a,w,q⟩
         ·rw[List.mem_singleton]at w;rw[w]at q;exact absurd q.symm e
      ·rw[List.getElem?_append_left hil,hcur]
      ·intro i' a hi' e g' hg'
       rw[List.getElem?_append_left (by omega)]at e
       exact List.mem_append_left _ (hcl i' a hi' e g' hg')
    ·rintro rc2 L s ⟨hst,hcur,hcl,hdone⟩
     unfold wfs
     rw[cdf (by omega),way,wr1 (by omega)]
     refine ih _ _ ⟨hst,fun i' a hi' e g hg => ?_⟩
     by_cases q:i'=i
     ·subst q
      rw[hcur]at e;cases e
      obtain⟨j',hj'⟩:=List.mem_iff_getElem?.1 ((hG g).2 hg)
      exact hdone j' g (List.getElem?_eq_some_iff.1 hj').1 hj'
     ·exact hcl i' a (by omega) e g hg
   ·rw[cdf (by omega)]
    exact done i L s (by omega) hst hcl
  ·rintro rc L s ⟨hst,hcl⟩
   have hle:=hst.1.length_le_of_subset (l₂:=RL) fun a ha=>(hm a).2 (hst.2.1 a ha)
   unfold waz
   rw[cdf (by omega)]
   exact done _ L s hle hst hcl
  ·rw[List.mem_singleton]at ha;rw[ha];exact .id
 unfold V93 w4t
 refine xmz n (fun i l=>(∀g,g∈l↔∃x y,x<y∧y<n∧x<i∧g=prinL n (latF n le) x y)∧l.length≤i*10) (by omega) ?_ ?_ 0 (by omega) _ ⟨fun g=>⟨fun q=>by simp at q,fun⟨x,y,_,_,q,_⟩=>by omega⟩,by simp⟩
 ·rintro rc i l hi ⟨hv,hl⟩ ih
  unfold wft
  rw[hA,cdt (by omega),wr1 (by omega)]
  refine xm0 n (fun j l=>i<j∧(∀g,g∈l↔∃x y,x<y∧y<n∧(x<i∨x=i∧y<j)∧g=prinL n (latF n le) x y)∧l.length≤i*10+j) (by omega) ?_ ?_ (i+1) (by omega) l ⟨by omega,fun g=>(hv g).trans ⟨?_, ?_⟩,by omega⟩
  ·rintro rc2 j l hj ⟨hij,hv,hl⟩ ih2
   unfold wjr
   rw[hA,cdt (by omega),hP _ _ hi hj,obS,app1 (by omega),obS,wr1 (by omega)]
   refine ih2 _ ⟨by omega,fun g => ?_,by rw[List.length_append,List.length_singleton];omega⟩
   rw[List.mem_append,hv g,List.mem_singleton]
   constructor
   ·rintro (⟨x,y,a,b,c,d⟩|rfl)
    ·exact⟨x,y,a,b,by omega,d⟩
    ·exact⟨i,j,hij,hj,by omega,rfl⟩
   ·rintro⟨x,y,a,b,c,rfl⟩
    by_cases q:x=i∧y=j
    ·obtain⟨rfl,rfl⟩:=q;exact .inr rfl
    ·exact .inl ⟨x,y,a,b,by omega,rfl⟩
  ·rintro rc2 l ⟨hij,hv,hl⟩
   unfold wjr
   rw[hA,cdf (by omega),wfr,wr1 (by omega)]
   refine ih _ ⟨fun g=>(hv g).trans ⟨?_, ?_⟩,by omega⟩
   ·rintro⟨x,y,a,b,c,d⟩;exact⟨x,y,a,b,by omega,d⟩
   ·rintro⟨x,y,a,b,c,d⟩;exact⟨x,y,a,b,by omega,d⟩
  ·rintro⟨x,y,a,b,c,d⟩;exact⟨x,y,a,b,by omega,d⟩
  ·rintro⟨x,y,a,b,c,d⟩;exact⟨x,y,a,b,by omega,d⟩
 ·rintro rc l ⟨hv,hl⟩
  have hidf:=wgk h8 (hcg (Rch.id (n:=n) (fs:=latF n le)))
  unfold wft
  rw[hA,cdf (by omega),zh,hA,wgt (by omega),obS]
  show(atI [ptL n fun x=>x] (0:Int)).bind _=_
  rw[show atI [ptL n fun x=>x] (0:Int)=some (ptL n fun x=>x) from rfl,obS]
  show(V91 big (ptL n fun x=>x)).bind _=_
  rw[wxw (show(ptL n fun x=>x).length≤1048576 by omega) (fun x hx=>by have:=hidf.2 x hx;omega),obS]
  refine bfs l (fun g=>(hv g).trans ⟨?_, ?_⟩) (by omega) _ fun k => ?_
  ·rintro⟨x,y,a,b,c,d⟩;exact⟨x,y,a,b,d⟩
  ·rintro⟨x,y,a,b,d⟩;exact⟨x,y,a,b,by omega,d⟩
  ·show Option.getD (mget .str .bool (mput .str .bool [] (keyL (ptL n fun x=>x)) true) k) false=true↔_
   rw[wp0]
   by_cases e:k=keyL (ptL n fun x=>x)
   ·rw[if_pos e]
    exact⟨fun _=>⟨_,by simp,e.symm⟩,fun _=>rfl⟩
   ·rw[if_neg e]
    constructor
    ·intro q;simp[mget]at q
    ·rintro⟨a,ha,q⟩;rw[List.mem_singleton]at ha;rw[ha]at q;exact absurd q.symm e
theorem xkw {n:Nat}{f:Nat→Nat→Int}{k:Nat}(hn:0<n){x:Int}(hx:x∈flt n f k):∃i,i<k*n∧x=f (i / n) (i % n):=by
 obtain⟨i,hi⟩:=List.mem_iff_getElem?.1 hx
 have hil:=(List.getElem?_eq_some_iff.1 hi).1
 rw[xj]at hil
 rw[wrm hn hil]at hi
 exact⟨i,hil,(Option.some.inj hi).symm⟩
theorem latOp {n:Nat}{le:Nat→Nat→Bool}(h:LatP n le):opB n ((2:Int),flt n (meetF n le) n,())=true:=by
 have h0:=h.lat.ne
 unfold opB
 rw[Bool.and_eq_true]
 refine⟨decide_eq_true ⟨by omega,by omega, ?_⟩,List.all_eq_true.2 fun x hx => ?_⟩
 ·rw[xj]
  show n*n=n ^ 2
  rw[Nat.pow_two]
 ·obtain⟨i,hi,rfl⟩:=xkw h0 hx
  obtain⟨i1,i2⟩:=wt hi
  have:=h.mlt i1 i2
  unfold inB meetF
  exact decide_eq_true (by omega)
def blkF (P:Nat→Nat) (i r:Nat):List Nat:=fl i fun y=>decide (P y=r)
theorem xna {n:Nat}{P:Nat→Nat}{r:Nat}:∀s∈blkF P n r,s<n:=fun s hs=>(fl_mem.1 hs).1
theorem latcg {n:Nat}{le:Nat→Nat→Bool}{P:Nat→Nat}(hg:Cg n (latF n le) P){x y z:Nat}(hx:x<n) (hy:y<n) (hz:z<n) (e:P y=P z):P (mt n le x y)=P (mt n le x z)∧P (mt n (du le) x y)=P (mt n (du le) x z):=by
 have m1:mt n le∈latF n le:=by simp
 have m2:mt n (du le)∈latF n le:=by simp
 constructor
 ·rw[(wk hg m1 hx hy).1,(wk hg m1 hx hz).1,e]
 ·rw[(wk hg m2 hx hy).1,(wk hg m2 hx hz).1,e]
theorem blk_mem {n:Nat}{P:Nat→Nat}{r y:Nat}:y∈blkF P n r↔y<n∧P y=r:=by
 unfold blkF;rw[fl_mem,decide_eq_true_eq]
theorem xks {n:Nat}{le:Nat→Nat→Bool}{P:Nat→Nat}(h:LatP n le) (hg:Cg n (latF n le) P){r:Nat}(hr:r<n) (hrr:P r=r):gb n le (blkF P n r)∈blkF P n r:=by
 have hmem:r∈blkF P n r:=blk_mem.2 ⟨hr,hrr⟩
 refine wl5 h (S:=blkF P n r) xna (fun s hs y hy => ?_) _ (fun e=>by rw[e]at hmem;cases hmem) fun t ht=>ht
 obtain⟨s1,s2⟩:=blk_mem.1 hs
 obtain⟨y1,y2⟩:=blk_mem.1 hy
 refine blk_mem.2 ⟨h.mlt s1 y1, ?_⟩
 rw[(latcg hg s1 y1 s1 (y2.trans s2.symm)).1,w1h h s1,s2]
theorem xnq {n:Nat}{le:Nat→Nat→Bool}{P:Nat→Nat}(hg:Cg n (latF n le) P):Cg n (latF n (du le)) P:=fun f hf=>hg f (by
 simp only[List.mem_cons,List.not_mem_nil,or_false]at hf ⊢
 exact hf.symm)
structure GLat {α:Type}(le:α→α→Prop) (m j:α→α→α):Prop where
 rf:∀a,le a a
 tr:∀{a b c},le a b→le b c→le a c
 asy:∀{a b},le a b→le b a→a=b
 m1:∀a b,le (m a b) a
 m2:∀a b,le (m a b) b
 mg:∀{a b c},le c a→le c b→le c (m a b)
 j1:∀a b,le a (j a b)
 j2:∀a b,le b (j a b)
 jg:∀{a b c},le a c→le b c→le (j a b) c
def GMod {α:Type}(le:α→α→Prop) (m j:α→α→α):Prop:=∀x y z,le x z→j x (m y z)=m (j x y) z
theorem GLat.op {α:Type}{le:α→α→Prop}{m j:α→α→α}(H:GLat le m j):GLat (fun a b=>le b a) j m:=⟨H.rf,fun a b=>H.tr b a,fun a b=>H.asy b a,H.j1,H.j2,H.jg,H.m1,H.m2,H.mg⟩
theorem GLat.mc {α:Type}{le:α→α→Prop}{m j:α→α→α}(H:GLat le m j) (a b:α):m a b=m b a:=H.asy (H.mg (H.m2 a b) (H.m1 a b)) (H.mg (H.m2 b a) (H.m1 b a))
theorem GLat.jc {α:Type}{le:α→α→Prop}{m j:α→α→α}(H:GLat le m j) (a b:α):j a b=j b a:=H.op.mc a b
theorem GMod.op {α:Type}{le:α→α→Prop}{m j:α→α→α}(H:GLat le m j) (M:GMod le m j):GMod (fun a b=>le b a) j m:=fun x y z h=>by
 have:=M z y x h
 rw[H.mc x (j y z),H.jc y z,←this,H.jc,H.mc y x]
def Bst (Q:List Int→Prop) (b:List Int):Prop:=b=[]∧(∀l,¬Q l)∨Q b∧∀l,Q l→lx l b=false
theorem Bst.congr {Q R:List Int→Prop}{b:List Int}(h:Bst Q b) (e:∀l,Q l↔R l):Bst R b:=by
 have:Q=R:=funext fun l=>propext (e l)
 rw[←this];exact h
def n5 (x y:Nat):Bool:=x==y||(x==0||(y==4||(x==1&&y==2)))
def m3 (x y:Nat):Bool:=x==y||(x==0||y==4)
def tlF (n x:Nat) (P:Nat→Bool):List Nat:=((List.range (n-x-1)).map fun i=>x+1+i).filter P
theorem xd2 {n x:Nat}{P:Nat→Bool}(hx:x<n):fl n P=fl x P++((if P x=true then [x] else [])++tlF n x P):=by
 obtain⟨m,rfl⟩:∃m,n=x+(m+1):=⟨n-x-1,by omega⟩
 unfold fl tlF
 rw[List.range_add,List.filter_append,List.range_succ_eq_map,List.map_cons,List.filter_cons,Nat.add_zero,show x+(m+1)-x-1=m by omega,List.map_map]
 have e:((fun i=>x+i) ∘ Nat.succ)=fun i=>x+1+i:=funext fun i=>by show x+(i+1)=_;omega
 rw[e]
 cases P x<;>rfl
theorem xei {n x y:Nat}{P:Nat→Bool}(hy:y∈tlF n x P):x<y:=by
 unfold tlF at hy
 obtain⟨i,_,rfl⟩:=List.mem_map.1 (List.mem_filter.1 hy).1
 omega
theorem xeh {n x:Nat}{P Q:Nat→Bool}(h:∀y,x<y→P y=Q y):tlF n x P=tlF n x Q:=by
 unfold tlF
 refine List.filter_congr fun y hy => ?_
 obtain⟨i,_,rfl⟩:=List.mem_map.1 hy
 exact h _ (by omega)
def SetL (n:Nat) (l:List Int):Prop:=∃P,l=cs (fl n P)
theorem SetL.len {n:Nat}{l:List Int}(h:SetL n l):l.length≤n:=by obtain⟨P,rfl⟩:=h;rw[cs_len];exact jh n P
theorem wyp (R:List (List Int)) (hl:R.length≤1000000000) (hr:∀x∈R,x.length≤10):V131 big R R=some (true,()):=by
 unfold V131 wty
 rw[cdf (by omega)]
 refine xij R.length (fun i=>True) (by omega) (fun rc i hi hI hr2 => ?_) (fun rc hI => ?_) 0 (by omega) trivial
 ·have:=hr _ (List.getElem_mem hi)
  unfold wdb
  rw[cdt (by omega),jf R i hi,obS,obS,zx _ (by omega),obS,wr1 (by omega)]
  exact hr2 trivial
 ·unfold wdb wam
  rw[cdf (by omega)]
theorem wsw {n:Nat}{le:Nat→Nat→Bool}(h:LatP n le){x:Nat}(hx:x<n):mt n le x (tp n le)=x :=
 h.as (h.mlt hx (yc h)) hx (h.m1 hx (yc h)) (h.mg hx (yc h) hx (h.ord.refl x hx) (wlo h hx))
theorem wsv {n:Nat}{le:Nat→Nat→Bool}(h:LatP n le){x:Nat}(hx:x<n):mt n (du le) x (bt n le)=x:=wsw h.du hx
theorem wxi {n:Nat}{le:Nat→Nat→Bool}(h:LatP n le){x:Nat}(hx:x<n):mt n le x (bt n le)=bt n le :=
 h.as (h.mlt hx (xi h)) (xi h) (h.m2 hx (xi h)) (wgi h (h.mlt hx (xi h)))
theorem xfy {n:Nat}{le:Nat→Nat→Bool}(h:BoolP n le){P:Nat→Nat}(hg:Cg n (latF n le) P){x y:Nat}(hx:x<n) (hy:y<n) (e:P x=P y):P (cpl n le x)=P (cpl n le y):=by
 have key:∀{x y:Nat},x<n→y<n→P x=P y→P (cpl n le x)=P (mt n le (cpl n le x) (cpl n le y)):=by
  intro x y hx hy e
  obtain⟨c1,c2,c3⟩:=wd h.cmp hx
  obtain⟨d1,d2,d3⟩:=wd h.cmp hy
  have m1:=h.lp.mlt c1 hy
  have m2:=h.lp.mlt c1 d1
  have e1:cpl n le x=mt n (du le) (mt n le (cpl n le x) (cpl n le y)) (mt n le (cpl n le x) y):=by
   rw[←h.dis _ _ _ c1 d1 hy,d3,wsw h.lp c1]
  have e2:P (mt n le (cpl n le x) y)=P (bt n le):=by
   rw[←(latcg hg c1 hx hy e).1,c2]
  conv=>lhs;rw[e1]
  rw[(latcg hg m2 m1 (xi h.lp) e2).2,wsv h.lp m2]
 rw[key hx hy e,key hy hx e.symm,we]
def cgP (n:Nat) (le:Nat→Nat→Bool) (x y:Nat):Nat:=fst_ n fun z=>decide (mt n le (cpl n le x) z=mt n le (cpl n le x) y)
theorem wll (n:Nat) (le:Nat→Nat→Bool) (x:Nat):cgB n le x=ptL n (cgP n le x):=rfl
theorem wf5 {n:Nat}{le:Nat→Nat→Bool}{x y:Nat}(hy:y<n):cgP n le x y<n∧mt n le (cpl n le x) (cgP n le x y)=mt n le (cpl n le x) y∧cgP n le x y≤y:=by
 have:=wgl (P:=fun z=>decide (mt n le (cpl n le x) z=mt n le (cpl n le x) y)) hy (by simp)
 exact⟨this.1,of_decide_eq_true this.2.1,this.2.2.2⟩
theorem wb0 {n:Nat}{le:Nat→Nat→Bool}{x y z:Nat}(e:mt n le (cpl n le x) y=mt n le (cpl n le x) z):cgP n le x y=cgP n le x z:=by unfold cgP;rw[e]
theorem w08 {n:Nat}{le:Nat→Nat→Bool}{x y z:Nat}(hy:y<n) (hz:z<n):cgP n le x y=cgP n le x z↔mt n le (cpl n le x) y=mt n le (cpl n le x) z :=
 ⟨fun e=>by rw[←(wf5 (x:=x) (le:=le) hy).2.1,e,(wf5 hz).2.1],wb0⟩
theorem xdw (n:Nat) (le:Nat→Nat→Bool) (x:Nat):Pt n (cgP n le x):=⟨fun y hy=>(wf5 hy).2.2,fun y hy=>wb0 (wf5 hy).2.1⟩
theorem xnb {n:Nat}{le:Nat→Nat→Bool}(h:BoolP n le){x:Nat}(hx:x<n):Cg n (latF n le) (cgP n le x):=by
 have hc:=(wd h.cmp hx).1
 have one:∀{a b b':Nat},a<n→b<n→b'<n→mt n le (cpl n le x) b'=mt n le (cpl n le x) b→mt n le (cpl n le x) (mt n le a b)=mt n le (cpl n le x) (mt n le a b')∧mt n le (cpl n le x) (mt n (du le) a b)=mt n le (cpl n le x) (mt n (du le) a b'):=by
  intro a b b' ha hb hb' e
  constructor
  ·rw[we a b,we a b',←wxz h.lp hc hb ha,←wxz h.lp hc hb' ha,e]
  ·rw[h.dis _ _ _ hc ha hb,h.dis _ _ _ hc ha hb',e]
 refine w45 fun f hf a b ha hb => ?_
 have pa:=wf5 (x:=x) (le:=le) ha
 have pb:=wf5 (x:=x) (le:=le) hb
 simp only[List.mem_cons,List.not_mem_nil,or_false]at hf
 rcases hf with rfl|rfl
 ·refine⟨wb0 (one ha hb pb.1 pb.2.1).1,wb0 ?_⟩
  rw[we a b,we _ b]
  exact(one hb ha pa.1 pa.2.1).1
 ·refine⟨wb0 (one ha hb pb.1 pb.2.1).2,wb0 ?_⟩
  rw[we a b,we _ b]
  exact(one hb ha pa.1 pa.2.1).2
theorem wxj {n:Nat}{le:Nat→Nat→Bool}(h:BoolP n le){x:Nat}(hx:x<n):CongL n (latF n le) (cgB n le x):=⟨_,xdw n le x,wll n le x,xnb h hx⟩
theorem xfu {n:Nat}{le:Nat→Nat→Bool}(h:BoolP n le){a:List Int}(ha:CongL n (latF n le) a):∃x,x<n∧a=cgB n le x:=by
 obtain⟨P,hP,rfl,hg⟩:=ha
 have L:=h.lp
 have hb:=xi L
 have hx:=xks L.du (xnq hg) (hP.lt hb) (hP.id _ hb)
 obtain⟨x,hxe⟩:∃x,gb n (du le) (blkF P n (P (bt n le)))=x:=⟨_,rfl⟩
 rw[hxe]at hx
 obtain⟨hxn,hxb⟩:=blk_mem.1 hx
 have top:∀y,y<n→P y=P (bt n le)→le y x=true:=fun y hy e=>by
  have:=(L.du.gbs (S:=blkF P n (P (bt n le))) fun s hs=>(blk_mem.1 hs).1).lo y (blk_mem.2 ⟨hy,e⟩)
  rw[hxe]at this
  exact this
 have below:∀y,y<n→le y x=true→P y=P (bt n le):=fun y hy e=>by
  have e2:mt n le y x=y:=L.as (L.mlt hy hxn) hy (L.m1 hy hxn) (L.mg hy hxn hy (L.ord.refl y hy) e)
  have:=(latcg hg hy hxn hb hxb).1
  rw[e2,wxi L hy]at this
  exact this
 refine⟨x,hxn, ?_⟩
 rw[wll]
 have ker:∀y z,y<n→z<n→(P y=P z↔cgP n le x y=cgP n le x z):=by
  intro y z hy hz
  rw[w08 hy hz,←wp7 h hxn hy hz]
  have cy:=(wd h.cmp hy).1
  have cz:=(wd h.cmp hz).1
  have m1:=L.mlt hy cz
  have m2:=L.mlt cy hz
  have m3:=L.mlt hy hz
  constructor
  ·intro e
   refine top _ (xh h hy hz) ?_
   have e1:P (mt n le y (cpl n le z))=P (bt n le):=by
    rw[we,(latcg hg cz hy hz e).1,(wd h.cmp hz).2.1]
   have e2:P (mt n le (cpl n le y) z)=P (bt n le):=by
    rw[(latcg hg cy hz hy e.symm).1,(wd h.cmp hy).2.1]
   unfold bsum
   rw[(latcg hg m1 m2 hb e2).2,wsv L m1,e1]
  ·intro hs
   have s1:=L.tr m1 (xh h hy hz) hxn (j1 L m1 m2) hs
   have s2:=L.tr m2 (xh h hy hz) hxn (j2 L m1 m2) hs
   have g1:P y=P (mt n le y z):=by
    have e:y=mt n (du le) (mt n le y z) (mt n le y (cpl n le z)):=by
     rw[←h.dis _ _ _ hy hz cz,we z,(wd h.cmp hz).2.2,wsw L hy]
    conv=>lhs;rw[e]
    rw[(latcg hg m3 m1 hb (below _ m1 s1)).2,wsv L m3]
   have g2:P z=P (mt n le y z):=by
    have e:z=mt n (du le) (mt n le y z) (mt n le (cpl n le y) z):=by
     rw[we y z,we (cpl n le y) z,←h.dis _ _ _ hz hy cy,we y,(wd h.cmp hy).2.2,wsw L hz]
    conv=>lhs;rw[e]
    rw[(latcg hg m3 m2 hb (below _ m2 s2)).2,wsv L m3]
   rw[g1,g2]
 have hQ:=xdw n le x
 exact xx fun y hy=>Lep.eq hP hQ (fun z hz=>(ker _ _ (hP.lt hz) hz).1 (hP.id z hz)) (fun z hz=>(ker _ _ (hQ.lt hz) hz).2 (hQ.id z hz)) hy
theorem w07 {n:Nat}{le:Nat→Nat→Bool}(h:BoolP n le){x y:Nat}(hx:x<n) (hy:y<n) (e:cgB n le x=cgB n le y):x=y:=by
 have one:∀{x y:Nat},x<n→y<n→cgB n le x=cgB n le y→le y x=true:=by
  intro x y hx hy e
  rw[wll,wll]at e
  have hb:=xi h.lp
  have cx:=wd h.cmp hx
  have cy:=wd h.cmp hy
  have e1:cgP n le y y=cgP n le y (bt n le):=wb0 (by rw[cy.2.1,wxi h.lp cy.1])
  rw[←w1j e hy,←w1j e hb]at e1
  have e2:=(w08 hy hb).1 e1
  rw[wxi h.lp cx.1]at e2
  refine x9 h hy hx hx (fun t _ _ h2=>h2) fun t ht h1 h2 => ?_
  have:=h.lp.mg cx.1 hy ht h2 h1
  rw[e2]at this
  exact h.lp.tr ht hb hx this (wgi h.lp hx)
 exact h.lp.as hx hy (one hy hx e.symm) (one hx hy e)
theorem xfx {n:Nat}{fs:List (Nat→Nat→Nat)}(h10:n≤10) (hn:0<n) (hfl:fs.length≤10) (ho:Opn n fs){a:List Int}(ha:CongL n fs a):Rch n fs a:=by
 obtain⟨P,hP,rfl,hg⟩:=ha
 have key:∀k,k≤n→∃Q,Rch n fs (ptL n Q)∧Pt n Q∧Lep n Q P∧∀y,y<k→Q (P y)=Q y:=by
  intro k
  induction k with
  | zero=>exact fun _=>⟨fun x=>x,.id,wpy n,fun x _=>rfl,fun y hy=>by omega⟩
  | succ k ih =>
   intro hk
   obtain⟨Q,r,q1,q2,q3⟩:=ih (by omega)
   have hkn:k<n:=by omega
   by_cases e:P k=k
   ·refine⟨Q,r,q1,q2,fun y hy => ?_⟩
    by_cases c:y=k
    ·rw[c,e]
    ·exact q3 y (by omega)
   ·have hlt:P k<k:=by have:=hP.lo k hkn;omega
    have hpk:=hP.lt hkn
    have O:=w1i (fs:=fs) h10 hn hfl ho hpk hkn
    have hu:Lep n (uni (fun z=>z) (P k) k) P:=wf9 (wpy n) (fun x _=>rfl) hpk hkn (hP.id k hkn)
    refine⟨joinF n Q (lcO n fs (uni (fun z=>z) (P k) k)), ?_,wro q1 O.pt,wgm q1 O.pt q2 (O.lst _ hP hu hg),fun y hy => ?_⟩
    ·rw[←w1m O.pt]
     exact .step r ⟨P k,k,hlt,hkn,rfl⟩
    ·have jl:=wxt q1 O.pt
     have jr:=wxu q1 O.pt
     by_cases c:y=k
     ·subst c
      have e1:uni (fun z=>z) (P y) y (P y)=uni (fun z=>z) (P y) y y:=by
       unfold uni
       simp only
       rw[Nat.max_eq_right (Nat.le_of_lt hlt),Nat.min_eq_left (Nat.le_of_lt hlt),if_neg (by omega),if_pos rfl]
      have e2:lcO n fs (uni (fun z=>z) (P y) y) (P y)=lcO n fs (uni (fun z=>z) (P y) y) y:=Lep.ker O.le hpk hkn e1
      exact Lep.ker jr hpk hkn e2
     ·exact Lep.ker jl (hP.lt (by omega)) (by omega) (q3 y (by omega))
 obtain⟨Q,r,q1,q2,q3⟩:=key n (Nat.le_refl _)
 rw[xx fun x hx=>Lep.eq hP q1 q3 q2 hx]
 exact r
def boolA (n:Nat) (le:Nat→Nat→Bool):AlT:=((n:Int),[((2:Int),flt n (fun x y=>((mt n le x y:Nat):Int)) n,()),((2:Int),flt n (fun x y=>((mt n (du le) x y:Nat):Int)) n,()),((1:Int),(mkR n fun x=>((cpl n le x:Nat):Int),()))],())
theorem IVp.stepV {n:Nat}{fs:List (Nat→Nat→Nat)}{P p0 p:Nat→Nat}{D:Prop}{l:List Int}{was ch:Bool}(h:IVp n fs P p0 D l was ch p){v w:Nat}(hv:v<n) (hw:w<n) (hP:Pt n P) (hC:∀C,Pt n C→Lep n p C→Cg n fs C→C v=C w) :
  IVp n fs P p0 D (ptL n (uni p v w)) (if p v≠p w then true else was) (if p v≠p w then true else ch) (uni p v w):=by
 have l1:Lst n fs P (uni p v w):=fun C hC1 hl hc=>wf9 h.pt (h.lst C hC1 hl hc) hv hw (hC C hC1 (h.lst C hC1 hl hc) hc)
 by_cases e:p v=p w
 ·rw[if_neg (by simp[e]),if_neg (by simp[e])]
  exact⟨rfl,xe h.pt hv hw,Lep.trans hP h.le (wb1 h.pt _ _),l1,h.st.step_eq e,h.st0.step_eq e,h.done⟩
 ·rw[if_pos e,if_pos e]
  exact⟨rfl,xe h.pt hv hw,Lep.trans hP h.le (wb1 h.pt _ _),l1,h.st.step_ne h.pt hv hw e,h.st0.step_ne h.pt hv hw e,fun c=>absurd c (by simp)⟩
theorem wyc {n:Nat}(h10:n≤10){p:Nat→Nat}(hp:Pt n p){f:Nat→Nat}(hf:∀x,x<n→f x<n){i:Nat}(hi:i<n){R:Type}(G:List Int×Bool→Option R) :
  ((quoI IntKind.i64 (i:Int) ((n ^ 0:Nat):Int)).bind fun xq3=>(remI xq3 (n:Int)).bind fun xq4=>(atI (ptL n p) xq4).bind fun _=>((ptL n p)[xq4.toNat]?).bind fun xq5 =>
   (atI (mkR n fun x=>((f x:Nat):Int)) (IntKind.i64.wrap ((i:Int)+(IntKind.i64.wrap ((IntKind.i64.wrap (xq5-xq4))*((n ^ 0:Nat):Int)))))).bind fun xq6 =>
   (V85 big (ptL n p) ((f i:Nat):Int) xq6).bind fun rq7=>G (rq7.2.1,rq7.1)) =
  G (ptL n (uni p (f i) (f (p i))),decide (p (f i)≠p (f (p i)))):=by
 have hn:0<n:=by omega
 have l:=hp.lo _ hi
 have hpi:=hp.lt hi
 have g:atI (ptL n p) (i:Int)=some ((p i:Nat):Int):=jd hi
 have g2:(ptL n p)[i]? = some ((p i:Nat):Int):=ju hi
 have hu:=wgs (n:=n) (P:=p) (show n≤1048576 by omega) (hf i hi) (hf _ hpi)
 rw[wrs (by simp) (by omega)]
 simp only[obS,wrt hn,Nat.pow_zero,Nat.div_one,Nat.mod_eq_of_lt hi,g,Int.toNat_natCast,g2]
 have e:IntKind.i64.wrap ((i:Int)+(IntKind.i64.wrap ((IntKind.i64.wrap (((p i:Nat):Int)-(i:Int)))*((1:Nat):Int))))=((p i:Nat):Int):=by
  rw[show((1:Nat):Int)=1 from rfl,Int.mul_one,wr (n:=((p i:Nat):Int)-(i:Int)) (by omega) (by omega),wr (n:=((p i:Nat):Int)-(i:Int)) (by omega) (by omega),wr (by omega) (by omega)]
  omega
 rw[e,jd hpi,obS,hu,obS]
theorem wps {n:Nat}{le:Nat→Nat→Bool}(h:BoolP n le){P:Nat→Nat}(hP:Pt n P){fs:List (Nat→Nat→Nat)}{A:AlT}(hAe:A=boolA n le) (hfs:fs=latF n le) (ho:Opn n fs):∃was q,V86 big A (ptL n P)=some (was,(ptL n q,()))∧ClR n fs P q was:=by
 have h10:=h.lp.le10
 have hn:=h.lp.lat.ne
 have hnn:=wlp (i:=n) (n:=n) h10 h10
 have hfl:fs.length=2:=by rw[hfs];rfl
 have hA1:A.1=(n:Int):=by rw[hAe];rfl
 have hAl:A.2.1.length=3:=by rw[hAe];rfl
 have ops2:∀t (ht:t<2),∃f,f∈fs∧(∀hh:t<fs.length,fs[t]=f)∧atI A.2.1 (t:Int)=some ((2:Int),flt n (fun x y=>((f x y:Nat):Int)) n,()):=by
  intro t ht
  have:t=0∨t=1:=by omega
  subst hfs hAe
  rcases this with rfl|rfl
  ·exact⟨mt n le,by simp,fun _=>rfl,rfl⟩
  ·exact⟨mt n (du le),by simp,fun _=>rfl,rfl⟩
 unfold V86 wsr
 refine xch (Q:=fun r=>∃was q,r=some (was,(ptL n q,()))∧ClR n fs P q was) (fun l was ch=>muL l*2+if ch then 1 else 0)
  (fun l was ch=>∃p,l=ptL n p∧Pt n p∧Lep n P p∧Lst n fs P p∧StW n P was p∧(ch=false→Cg n fs p)) ?_ _ _ _ ?_ ⟨P,rfl,hP,Lep.refl hP,fun C _ hl _=>hl,⟨fun _ _ _=>rfl,fun h=>absurd h (by simp)⟩,fun h=>absurd h (by simp)⟩
 ·rintro rc l was ch ⟨p0,rfl,hp0,hle0,hlst0,hst0,hcg0⟩ ih
  unfold wjg
  cases ch with
  | false=>exact⟨was,p0,rfl,hp0,hle0,hlst0,hcg0 rfl,hst0⟩
  | true =>
   rw[cond_true]
   refine xcg (Q:=fun r=>∃was q,r=some (was,(ptL n q,()))∧ClR n fs P q was) 3 (fun t l was ch=>∃p,IVp n fs P p0 (PassD n fs p0 t 0 0) l was ch p) (by omega) ?_ ?_ 0 (by omega) _ _ _ ⟨p0,rfl,hp0,hle0,hlst0,hst0,⟨fun _ _ _=>rfl,fun h=>absurd h (by simp)⟩,fun _=>⟨fun j hj=>by omega,fun _=>⟨fun j hj=>by omega,fun j hj=>by omega⟩⟩⟩
   ·rintro rc2 t l was ch ht hv ih2
    unfold zg
    by_cases ht2:t<2
    ·obtain⟨f,hm,hft,hat⟩:=ops2 t ht2
     simp only[hA1,hAl,cdt (show(t:Int)<((3:Nat):Int) by omega),hat,obS]
     refine wrh (Q:=fun r=>∃was q,r=some (was,(ptL n q,()))∧ClR n fs P q was) 2 (fun k l was ch step=>step=((n ^ k:Nat):Int)∧∃p,IVp n fs P p0 (PassD n fs p0 t k 0) l was ch p) (by omega) ?_ ?_ 0 (by omega) _ _ _ _ ⟨by simp,hv⟩
     ·rintro rc3 k l was ch step hk ⟨rfl,hv⟩ ih3
      unfold w5
      simp only[cdt (show(k:Int)<(2:Int) by omega),xj]
      refine wri (Q:=fun r=>∃was q,r=some (was,(ptL n q,()))∧ClR n fs P q was) (n*n) (fun i l was ch=>∃p,IVp n fs P p0 (PassD n fs p0 t k i) l was ch p) (by omega) ?_ ?_ 0 (by omega) _ _ _ hv
      ·rintro rc4 i l was ch hi ⟨p,hv⟩ ih4
       have hl:=hv.form
       subst hl
       unfold xf
       rw[cdt (by omega),wp8 hi,obS]
       simp only[hA1]
       refine(congrArg (fun r=>∃was q,r=some (was,(ptL n q,()))∧ClR n fs P q was) (wpt h10 ho hv.pt hm hk hi fun r=>cond r.2 (rc4 r.1 (A) true true _ _ _ _ _ _ _ _ (IntKind.i64.wrap ((i:Int)+(1:Int)))) (rc4 r.1 (A) was ch _ _ _ _ _ _ _ _ (IntKind.i64.wrap ((i:Int)+(1:Int)))))).mpr ?_
       rw[wr1 (by omega)]
       have nxt:PassD n fs p0 t k i→Wp f n p0 k i→PassD n fs p0 t k (i+1):=fun d w=>⟨d.1,fun h=>⟨(d.2 h).1,all_lt_succ.2 ⟨(d.2 h).2,by rw[hft h];exact w⟩⟩⟩
       by_cases e:p (f (i / n) (i % n))=p (oth f n p k i)
       ·simp only[e,ne_eq,not_true_eq_false,decide_false,cond_false]
        have:=hv.step_eq ho hm hi hP e (D':=PassD n fs p0 t k (i+1)) nxt
        exact ih4 _ _ _ ⟨_,this⟩
       ·simp only[ne_eq,e,not_false_eq_true,decide_true,cond_true]
        exact ih4 _ _ _ ⟨_,hv.step_ne ho hm hi hP e⟩
      ·rintro rc4 l was ch ⟨p,hv⟩
       unfold xf
       rw[cdf (by omega),xu]
       have e1:IntKind.i64.wrap (((n ^ k:Nat):Int)*(n:Int))=((n ^ (k+1):Nat):Int):=by
        have:n ^ k*n≤100:=by
         have hk2:k=0∨k=1:=by omega
         rcases hk2 with rfl|rfl
         ·simp;omega
         ·rw[Nat.pow_one];exact hnn
        rw[←Int.natCast_mul,←Nat.pow_succ,wr (by have:=Int.natCast_nonneg (n ^ (k+1));omega) (by rw[Nat.pow_succ];generalize n ^ k*n=c at *;omega)]
       rw[hA1,e1,wr1 (by omega)]
       exact ih3 _ _ _ _ ⟨rfl,p,hv.form,hv.pt,hv.le,hv.lst,hv.st,hv.st0,fun c=>⟨(hv.done c).1,fun h=>⟨all_lt_succ.2 ⟨((hv.done c).2 h).1,((hv.done c).2 h).2⟩,fun j hj=>by omega⟩⟩⟩
     ·rintro rc3 l was ch step ⟨rfl,p,hv⟩
      unfold w5
      rw[cdf (by simp),wz,wr1 (by omega)]
      rw[←hAl]
      exact ih2 _ _ _ ⟨p,hv.form,hv.pt,hv.le,hv.lst,hv.st,hv.st0,fun c=>⟨all_lt_succ.2 ⟨(hv.done c).1,fun h=>((hv.done c).2 h).1⟩,fun h=>⟨fun j hj=>by omega,fun j hj=>by omega⟩⟩⟩
    ·have ht3:t=2:=by omega
     subst ht3
     have hat:atI A.2.1 ((2:Nat):Int)=some ((1:Int),(mkR n fun x=>((cpl n le x:Nat):Int)),()):=by rw[hAe];rfl
     have hcl:∀x,x<n→cpl n le x<n:=fun x hx=>(wd h.cmp hx).1
     simp only[hA1,hAl,cdt (show((2:Nat):Int)<((3:Nat):Int) by omega),hat,obS]
     refine wrh (Q:=fun r=>∃was q,r=some (was,(ptL n q,()))∧ClR n fs P q was) 1 (fun k l was ch step=>(k=0→step=((n ^ 0:Nat):Int))∧∃p,IVp n fs P p0 (PassD n fs p0 2 0 0) l was ch p) (by omega) ?_ ?_ 0 (by omega) _ _ _ _ ⟨fun _=>by simp,hv⟩
     ·rintro rc3 k l was ch step hk ⟨hs,hv⟩ ih3
      have hk0:k=0:=by omega
      subst hk0
      rw[hs rfl]
      unfold w5
      simp only[cdt (show((0:Nat):Int)<(1:Int) by omega),mkR_len]
      refine wri (Q:=fun r=>∃was q,r=some (was,(ptL n q,()))∧ClR n fs P q was) n (fun i l was ch=>∃p,IVp n fs P p0 (PassD n fs p0 2 0 0) l was ch p) (by omega) ?_ ?_ 0 (by omega) _ _ _ hv
      ·rintro rc4 i l was ch hi ⟨p,hv⟩ ih4
       have hl:=hv.form
       subst hl
       unfold xf
       rw[cdt (by omega),jd hi,obS]
       simp only[hA1]
       refine(congrArg (fun r=>∃was q,r=some (was,(ptL n q,()))∧ClR n fs P q was) (wyc h10 hv.pt hcl hi fun r=>cond r.2 (rc4 r.1 (A) true true _ _ _ _ _ _ _ _ (IntKind.i64.wrap ((i:Int)+(1:Int)))) (rc4 r.1 (A) was ch _ _ _ _ _ _ _ _ (IntKind.i64.wrap ((i:Int)+(1:Int)))))).mpr ?_
       rw[wr1 (by omega)]
       have nx:=hv.stepV (hcl i hi) (hcl _ (hv.pt.lt hi)) hP fun C hC hl hc=>xfy h (by rw[hfs]at hc;exact hc) hi (hv.pt.lt hi) (hl i hi).symm
       by_cases e:p (cpl n le i)=p (cpl n le (p i))
       ·rw[if_neg (by simp[e]),if_neg (by simp[e])]at nx
        simp only[e,ne_eq,not_true_eq_false,decide_false,cond_false]
        exact ih4 _ _ _ ⟨_,nx⟩
       ·rw[if_pos e,if_pos e]at nx
        simp only[ne_eq,e,not_false_eq_true,decide_true,cond_true]
        exact ih4 _ _ _ ⟨_,nx⟩
      ·rintro rc4 l was ch hv
       unfold xf
       rw[cdf (by omega),xu,wr1 (by omega)]
       exact ih3 _ _ _ _ ⟨fun e=>by omega,hv⟩
     ·rintro rc3 l was ch step ⟨_,p,hv⟩
      unfold w5
      rw[cdf (by simp),wz,wr1 (by omega)]
      rw[←hAl]
      exact ih2 _ _ _ ⟨p,hv.form,hv.pt,hv.le,hv.lst,hv.st,hv.st0,fun c=>⟨fun j hj hh=>by
       by_cases hj2:j<2
       ·exact(hv.done c).1 j hj2 hh
       ·omega,fun hh=>by omega⟩⟩
   ·rintro rc2 l was ch ⟨p,hv⟩
    unfold zg
    simp only[hA1,hAl,cdf (show ¬((3:Nat):Int)<((3:Nat):Int) by omega),x7]
    refine ih _ _ _ ⟨p,hv.form,hv.pt,hv.le,hv.lst,hv.st,fun c => ?_⟩ ?_
    ·intro f hf k hk i hi
     obtain⟨j,hj,rfl⟩:=List.getElem_of_mem hf
     have w:=(hv.done c).1 j (by omega) hj k hk i hi
     obtain⟨i1,i2⟩:=wt hi
     have hq:=hv.st0.eq c
     have eo:oth fs[j] n p0 k i=oth fs[j] n p k i:=by unfold oth;rw[hq _ i1,hq _ i2]
     unfold Wp at w ⊢
     rw[eo,←hq _ (ho _ hf _ _ i1 i2),←hq _ (wb2 ho hf hv.pt hi)]at w
     exact w
    ·rw[hv.form,wf7,wf7]
     cases ch with
     | true=>have:=hv.st0.lt rfl;simp;omega
     | false=>have:=zm (hv.st0.eq rfl);simp;omega
 ·rw[wf7];have:=xdx (n:=n) P;simp;omega
theorem xec {n:Nat}{le:Nat→Nat→Bool}(h:BoolP n le){A:AlT}(hAe:A=boolA n le){x y:Nat}(hx:x<n) (hy:y<n):V90 big A [((x:Int),((y:Int),()))]=some (prinL n (latF n le) x y,()):=by
 have h10:=h.lp.le10
 obtain⟨was,q,e,hq⟩:=wps h (xe (wpy n) hx hy) hAe rfl (wln h.lp)
 have hl:LeastC n (latF n le) (uni (fun z=>z) x y) q:=⟨hq.pt,hq.le,hq.lst,hq.cg⟩
 unfold V90 w4l
 rw[show A.1=(n:Int) by rw[hAe];rfl,wgt (by omega),obS]
 refine xmw 1 (fun i l=>l=ptL n (if i=0 then(fun z=>z) else uni (fun z=>z) x y)) (by omega) ?_ ?_ 0 (by omega) _ rfl
 ·rintro rc i l hi rfl ih
  have:i=0:=by omega
  subst this
  unfold wjk
  rw[cdt (by simp),show atI [((x:Int),((y:Int),()))] ((0:Nat):Int)=some ((x:Int),((y:Int),())) from rfl,obS,if_pos rfl,wgs (by omega) hx hy,obS,wr1 (by omega)]
  exact ih _ rfl
 ·rintro rc l rfl
  unfold wjk
  rw[cdf (by simp),wfl,if_neg (by omega),e,obS]
  unfold prinL
  rw[←xnf hl]
theorem xf7 {n:Nat}{le:Nat→Nat→Bool}(h:BoolP n le){x y:Nat}(hx:x<n) (hy:y<n):V90 big (boolA n le) [((x:Int),((y:Int),()))]=some (prinL n (latF n le) x y,()):=xec h rfl hx hy
theorem wyh {n:Nat}{le:Nat→Nat→Bool}(h:BoolP n le){A:AlT}(hAe:A=boolA n le){l:List Int}(hl:CongL n (latF n le) l):V87 A l=some (true,()):=by
 obtain⟨P,hP,rfl,hg⟩:=hl
 have h10:=h.lp.le10
 unfold V87 xhd
 rw[show A.1=(n:Int) by rw[hAe];rfl,wrn (by omega) (by rw[w8];omega),obS]
 obtain⟨was,q,e,hq⟩:=wps h hP hAe rfl (wln h.lp)
 have hcl:V84 (ptL n P)=some (ptL n P,()):=by
  unfold V84 w4c appI
  rw[if_pos (by rw[w8];simp;omega)];rfl
 rw[tv_t ⟨P,hP,rfl⟩,cond_true,hcl,obS,e,obS]
 cases was with
 | false=>rfl
 | true =>
  exfalso
  have hl2:=hq.lst P hP (Lep.refl hP) hg
  have e3:∀x,x<n→q x=P x:=fun x hx=>Lep.eq hq.pt hP hl2 hq.le hx
  have:=zm e3
  have:=hq.st.lt rfl
  omega
theorem w04 {n:Nat}{le:Nat→Nat→Bool}(h:BoolP n le):n≤8:=by
 obtain⟨m,hm⟩:=xku h.lp
 have e:fl n (cenB n le)=List.range n:=by
  unfold fl
  refine List.filter_eq_self.2 fun x hx => ?_
  have hx:=List.mem_range.1 hx
  obtain⟨c1,c2,c3⟩:=wd h.cmp hx
  have hc:cpl n le x∈comp n le x:=cmp_mem.2 ⟨c1,c2,c3⟩
  exact cenB_iff.2 ⟨_,hc,xfp h.lp h.dis hx hc⟩
 rw[e,List.length_range]at hm
 have h10:=h.lp.le10
 have:m<4:=by
  rcases Nat.lt_or_ge m 4 with c|c
  ·exact c
  ·have:=Nat.pow_le_pow_right (n:=2) (by omega) c
   omega
 have:m=0∨m=1∨m=2∨m=3:=by omega
 rcases this with rfl|rfl|rfl|rfl<;>simp at hm<;>omega
theorem wpz {n:Nat}{le:Nat→Nat→Bool}(h:BoolP n le):V82 big (boolA n le)=some (true,()):=by
 have h0:=h.lp.lat.ne
 have h8:=w04 h
 have hnn:n*n≤8*8:=Nat.mul_le_mul h8 h8
 have hs:SmallA (boolA n le):=by
  refine⟨by show 3≤1048576;omega,fun o ho => ?_⟩
  simp only[boolA,List.mem_cons,List.not_mem_nil,or_false]at ho
  rcases ho with rfl|rfl|rfl
  ·show(flt n _ n).length≤_;rw[xj];omega
  ·show(flt n _ n).length≤_;rw[xj];omega
  ·show(mkR n _).length≤_;rw[mkR_len];omega
 rw[xd5 _ hs]
 have e:algB (boolA n le)=true:=by
  unfold algB boolA
  rw[Bool.and_eq_true]
  refine⟨decide_eq_true ⟨by show(1:Int)≤(n:Int);omega,by show(n:Int)≤8;omega,by show 3≤4;omega⟩, ?_⟩
  rw[List.all_cons,List.all_cons,List.all_cons,List.all_nil,Bool.and_true,Bool.and_eq_true,Bool.and_eq_true]
  refine⟨latOp h.lp,latOp h.lp.du, ?_⟩
  unfold opB
  rw[Bool.and_eq_true]
  refine⟨decide_eq_true ⟨by omega,by omega, ?_⟩,List.all_eq_true.2 fun x hx => ?_⟩
  ·show(mkR n _).length=n ^ 1
   rw[mkR_len,Nat.pow_one]
  ·obtain⟨i,hi⟩:=List.mem_iff_getElem?.1 hx
   have hin:i<n:=by
    have:=(List.getElem?_eq_some_iff.1 hi).1
    rwa [mkR_len]at this
   rw[ju hin]at hi
   have:=(wd h.cmp hin).1
   have e:=Option.some.inj hi
   subst e
   unfold inB
   exact decide_eq_true (by show(0:Int)≤_∧((cpl n le i:Nat):Int)<(((n:Int).toNat:Nat):Int);omega)
 rw[e]
theorem xfn {n:Nat}{le:Nat→Nat→Bool}(h:BoolP n le):∃L:List (List Int),V95 (boolA n le)=some ((L,true,()),())∧L.length=n:=by
 have h8:=w04 h
 have hfl:(latF n le).length≤10:=by simp
 have ho:=wln h.lp
 have hn:((List.range n).map (cgB n le)).Nodup:=wj9 (fun a ha b hb e=>w07 h (List.mem_range.1 ha) (List.mem_range.1 hb) e) List.nodup_range
 have hm:∀a,a∈(List.range n).map (cgB n le)↔Rch n (latF n le) a:=by
  intro a
  constructor
  ·intro q
   obtain⟨x,hx,rfl⟩:=List.mem_map.1 q
   exact xfx h.lp.le10 h.lp.lat.ne hfl ho (wxj h (List.mem_range.1 hx))
  ·intro q
   obtain⟨x,hx,rfl⟩:=xfu h (q.cong h.lp.le10 h.lp.lat.ne hfl ho)
   exact List.mem_map.2 ⟨x,List.mem_range.2 hx,rfl⟩
 refine⟨sortBy cmpC ((List.range n).map (cgB n le)), ?_,by rw[zv qh,List.length_map,List.length_range]⟩
 unfold V95 xhj V94 xhi
 rw[wpz h,obS,Bool.not_true,cond_false,wyf h.lp h8 hn hm rfl fun i j hi hj=>xf7 h hi hj,obS]
 rfl
def okPow (k:Nat):Bool:=match V21 big (k:Int) with
 | some (p,())=>decide (p.1.length≤9)&&p.1.all (fun r=>decide (r.length≤9))&&(match V18 big p with
  | some (ps,())=>decide (ps.length≤100)&&ps.all fun q=>decide (0≤q.1)&&decide (q.1<(p.1.length:Int))&&decide (0≤q.2.1)&&decide (q.2.1<(p.1.length:Int))
  | none=>false)
 | none=>false
theorem xea:(List.range 4).all okPow=true:=by kernel_rfl
theorem xk6 {k:Int}(h0:0≤k) (h1:k<4):∃p ps,V21 big k=some (p,())∧DrP 9 p∧V18 big p=some (ps,())∧ps.length≤100∧∀q∈ps,(0≤q.1∧q.1<p.1.length)∧0≤q.2.1∧q.2.1<p.1.length:=by
 have h:=List.all_eq_true.1 xea k.toNat (List.mem_range.2 (by omega))
 unfold okPow at h
 rw[show((k.toNat:Nat):Int)=k by omega]at h
 split at h
 case h_2=>cases h
 rename_i p e
 simp only[Bool.and_eq_true,decide_eq_true_eq,List.all_eq_true]at h
 obtain⟨⟨h1,h2⟩,h3⟩:=h
 split at h3
 case h_2=>cases h3
 rename_i ps e2
 simp only[Bool.and_eq_true,decide_eq_true_eq,List.all_eq_true]at h3
 exact⟨p,ps,e,⟨h1,h2⟩,e2,h3.1,fun q hq=>by
  obtain⟨⟨⟨a,b⟩,c⟩,d⟩:=h3.2 q hq
  exact⟨⟨a,b⟩,c,d⟩⟩
theorem wr3 {k:Nat}{c:Cu}(hc:COk (k+410) c):Dq 12 k (V22 big c):=by
 unfold V22 w2i
 obtain⟨b,c1,e1,hc1⟩:=wq (k:=k+408) hc 6
 rw[e1,obS]
 cases b with
 | true =>
  rw[cond_true]
  obtain⟨p,c2,e2,hp,hc2⟩:=wlt (k:=k+8) hc1
  rw[e2,obS]
  exact⟨_,_,rfl,hp,hc2.mono (by omega)⟩
 | false =>
  rw[cond_false]
  obtain⟨v,c2,e2,v0,hc2⟩:=xd (k:=k+406) hc1 (l:=[(2:Int),2,3,3,1,0]) (by simp)
  have hv:0≤v∧v<4:=by
   simp only[List.mem_cons,List.not_mem_nil,or_false]at v0
   omega
  obtain⟨p,ps,e3,hp,e4,hl,hps⟩:=xk6 hv.1 hv.2
  have hp':DrP 12 p:=⟨by have:=hp.1;omega,fun r hr=>by have:=hp.2 r hr;omega⟩
  have hn:=hp.1
  obtain⟨names,c3,e5,hl1,hc3⟩:=wgq (k:=k+300) (n:=p.1.length) (by omega) (hc2.mono (by omega))
  obtain⟨b,e6,hb⟩:=wl9 (n:=p.1.length) (by omega) (l:=names) (by omega)
  rw[e2,obS]
  dsimp only
  rw[e3,obS]
  dsimp only
  rw[e5,obS]
  dsimp only
  rw[e6,obS]
  cases b with
  | false=>exact⟨_,_,rfl,hp',hc3.mono (by omega)⟩
  | true =>
   obtain⟨hb1,hb2⟩:=hb rfl
   rw[cond_true,e4,obS]
   refine xlj (Q:=Dq 12 k) ps.length (fun _ qs=>qs.length=ps.length∧∀q∈qs,(0≤q.1∧q.1<p.1.length)∧0≤q.2.1∧q.2.1<p.1.length) (by omega) (fun rc2 i qs hi hI hr => ?_) (fun rc2 qs hI => ?_) 0 (by omega) _ ⟨rfl,hps⟩
   ·obtain⟨i1,i2⟩:=hI
    have hil:i<qs.length:=by omega
    obtain⟨⟨a0,a1⟩,b0,b1⟩:=i2 _ (List.getElem_mem hil)
    obtain⟨x,x1,x2,x3,x4⟩:=wf8 hb1 hb2 a0 a1
    obtain⟨y,y1,y2,y3,y4⟩:=wf8 hb1 hb2 b0 b1
    unfold wha
    simp only[Int.toNat_natCast,cdt (show(i:Int)<qs.length by omega),jf qs i hil,List.getElem?_eq_getElem hil,x1,x2,y1,y2,obS]
    rw[wr (by omega) (by omega)]
    refine hr _ ⟨by simpa using i1,fun q hq => ?_⟩
    rcases List.mem_or_eq_of_mem_set hq with hq|rfl
    ·exact i2 q hq
    ·exact⟨⟨x3,x4⟩,y3,y4⟩
   ·obtain⟨i1,i2⟩:=hI
    unfold wha wdh
    obtain⟨p',e8,p1,p2⟩:=wl6 (n:=p.1.length) (by omega) (by omega) i2
    rw[cdf (by omega),e8,obS]
    exact⟨_,_,rfl,⟨by show p'.1.length≤12;omega,fun r hr=>by have:=p2 r hr;omega⟩,hc3.mono (by omega)⟩
theorem wka {k:Nat}{c:Cu}(hc:COk (k+120) c){p:PTd}(hp:p.1.length≤1000):∃l c',V100 big c p=some (l,(c',()))∧l.length≤21∧COk k c':=by
 unfold V100 wsy
 obtain⟨v,c1,e1,v0,v1,hc1⟩:=wg (k:=k+118) hc 24
 have v1:=v1 (by omega)
 have hq:quoI IntKind.i64 v (11:Int)=some (v / 11):=by
  unfold quoI
  rw[if_neg (by omega),Int.tdiv_eq_ediv_of_nonneg v0,wr (by omega) (by omega)]
 obtain⟨j,hj⟩:∃j:Nat,v / 11=(j:Int):=⟨(v / 11).toNat,by omega⟩
 have hj2:j≤2:=by omega
 rw[e1,obS]
 dsimp only
 rw[hq,obS,hj,wr (by omega) (by omega),show(6:Int)+(j:Int)=((6+j:Nat):Int) by omega,sl0 _ _ (by simp;omega),obS]
 obtain⟨n,c2,e2,hn,hc2⟩:=xd (k:=k+116) hc1 (l:=[(0:Int),1,2,2,3,3,20,21].take (6+j)) (by rw[show 6+j=(5+j)+1 by omega];simp)
 have hn:=List.mem_of_mem_take hn
 simp only[List.mem_cons,List.not_mem_nil,or_false]at hn
 rw[e2,obS]
 dsimp only
 refine xhv (Q:=fun r=>∃l c',r=some (l,(c',()))∧l.length≤21∧COk k c') (fun _ _ m=>m.toNat) (fun c l m=>0≤m∧l.length+m.toNat≤21∧COk (k+4*m.toNat) c) (fun rc c l m hI ih => ?_) _ _ _ (by omega) ⟨by omega,by simp;omega,hc2.mono (by omega)⟩
 obtain⟨i0,i1,i2⟩:=hI
 unfold wqa
 by_cases h:(0:Int)<m
 ·obtain⟨x,c3,e3,_,_,hc3⟩:=wlx (k:=k+4*(m-1).toNat) (i2.mono (by omega)) (p:=p) hp
  rw[cdt h,e3,obS]
  dsimp only
  rw[app1 (by omega),obS,wr (by omega) (by omega)]
  exact ih _ _ _ ⟨by omega,by rw[List.length_append,List.length_singleton];omega,hc3⟩ (by omega)
 ·rw[cdf h]
  exact⟨_,_,rfl,by omega,i2.mono (by omega)⟩
theorem wp2 {k n:Nat}(hn:n≤100){c:Cu}(hc:COk (k+2*n) c):∃l c',V96 big c (n:Int)=some (l,(c',()))∧l.length≤n∧COk k c':=by
 unfold V96 w4u
 refine xm1 (Q:=fun r=>∃l c',r=some (l,(c',()))∧l.length≤n∧COk k c') n (fun i c l=>l.length=i∧COk (k+2*(n-i)) c) (by omega) (fun rc i c l hi hI ih => ?_) (fun rc c l hI => ?_) 0 (by omega) _ _ ⟨rfl,hc⟩
 ·obtain⟨i1,i2⟩:=hI
  obtain⟨v,c1,e1,v0,v1,hc1⟩:=wg (k:=k+2*(n-(i+1))) (i2.mono (by omega)) (((i+1:Nat):Int))
  have v1:=v1 (by omega)
  unfold wju
  rw[cdt (by omega),wr1 (by omega),e1,obS]
  dsimp only
  by_cases h:v<(i:Int)
  ·have hv:v.toNat<l.length:=by omega
   rw[cdt h]
   have e2:=jf l v.toNat hv
   rw[show((v.toNat:Nat):Int)=v by omega]at e2
   rw[e2,obS,List.getElem?_eq_getElem hv,obS,app1 (by omega),obS]
   exact ih _ _ ⟨by rw[List.length_append,List.length_singleton];omega,hc1⟩
  ·rw[cdf h,app1 (by omega),obS]
   exact ih _ _ ⟨by rw[List.length_append,List.length_singleton];omega,hc1⟩
 ·obtain⟨i1,i2⟩:=hI
  unfold wju
  rw[cdf (by omega)]
  exact⟨_,_,rfl,by omega,i2.mono (by omega)⟩
theorem xk7 {n x:Nat}{P:Nat→Bool}(hn:n≤1000) (hx:x<n):V102 big (cs (fl n P)) (x:Int)=some (cs (fl n fun y=>P y||y==x),((),())):=by
 have hl:=jh n P
 have hk:=xd2 (P:=P) hx
 have hkl:(fl n P).length=(fl x P).length+((if P x=true then [x] else [])++tlF n x P).length:=by rw[hk,List.length_append]
 have e1:fl x (fun y=>P y||y==x)=fl x P:=ux fun y hy=>by
  rw[show(y==x)=false from by simp;omega,Bool.or_false]
 have e2:tlF n x (fun y=>P y||y==x)=tlF n x P:=xeh fun y hy=>by
  rw[show(y==x)=false from by simp;omega,Bool.or_false]
 have hr:fl n (fun y=>P y||y==x)=fl x P++([x]++tlF n x P):=by
  rw[xd2 hx,e1,e2,show(P x||x==x)=true by simp,if_pos rfl]
 have lowlt:∀i (h:i<(fl n P).length),i<(fl x P).length→(fl n P)[i]<x:=fun i h hi=>by
  have:(fl n P)[i]=(fl x P)[i]:=by
   simp only[hk]
   exact List.getElem_append_left hi
  rw[this]
  exact(fl_mem.1 (List.getElem_mem hi)).1
 have at0:yd (cs (fl n P)) (x:Int) (((fl x P).length:Nat):Int)=some (cs (fl n fun y=>P y||y==x),((),())):=by
  unfold yd
  have t1:(cs (fl n P)).take (fl x P).length=cs (fl x P):=by
   rw[hk,jy]
   rw[List.take_append_of_le_length (by rw[cs_len];exact Nat.le_refl _),List.take_of_length_le (by rw[cs_len];exact Nat.le_refl _)]
  have t2:(cs (fl n P)).drop (fl x P).length=cs ((if P x=true then [x] else [])++tlF n x P):=by
   rw[hk,jy]
   rw[List.drop_append_of_le_length (by rw[cs_len];exact Nat.le_refl _),List.drop_of_length_le (by rw[cs_len];exact Nat.le_refl _),List.nil_append]
  have s1:slI (cs (fl n P)) 0 ((fl x P).length:Int)=some (cs (fl x P)):=by rw[xgb _ _ (by rw[cs_len];omega),t1]
  have s2:slI (cs (fl n P)) ((fl x P).length:Int) ((cs (fl n P)).length:Int)=some (cs ((if P x=true then [x] else [])++tlF n x P)):=by
   rw[qn _ _ _ (by rw[cs_len];omega) (Nat.le_refl _),t2,List.take_of_length_le]
   rw[cs_len,cs_len];omega
  cases hp:P x with
  | true =>
   have hlt:(fl x P).length<(fl n P).length:=by rw[hkl,hp];simp
   have hat:(fl n P)[(fl x P).length]=x:=by
    simp only[hk]
    rw[List.getElem_append_right (Nat.le_refl _)]
    simp[hp]
   rw[cdt (by rw[cs_len];omega),jo hlt,obS,Int.toNat_natCast,jz hlt,obS,hat,cdt rfl,hr,hk,hp,if_pos rfl]
  | false =>
   rw[hp,if_neg (by simp),List.nil_append]at s2 hkl hk
   have fin:((appI [] (cs (fl x P))).bind fun xq4=>(appI xq4 [(x:Int)]).bind fun xq5=>(slI (cs (fl n P)) ((fl x P).length:Int) ((cs (fl n P)).length:Int)).bind fun xq6=>(appI xq5 xq6).bind fun xq7=>some (xq7,((),())))=some (cs (fl n fun y=>P y||y==x),((),())):=by
    rw[jk (by rw[cs_len,List.length_nil];omega),obS,List.nil_append,app1 (by rw[cs_len];omega),obS,s2,obS,jk (by rw[List.length_append,cs_len,cs_len];simp;omega),obS,hr,jy,jy,List.append_assoc]
    rfl
   by_cases hlt:(fl x P).length<(fl n P).length
   ·have hat:x<(fl n P)[(fl x P).length]:=by
     have:(fl n P)[(fl x P).length]∈tlF n x P:=by
      simp only[hk]
      rw[List.getElem_append_right (Nat.le_refl _)]
      exact List.getElem_mem _
     exact xei this
    rw[cdt (by rw[cs_len];omega),jo hlt,obS,Int.toNat_natCast,jz hlt,obS,cdf (by omega),s1,obS]
    exact fin
   ·rw[cdf (by rw[cs_len];omega),s1,obS]
    exact fin
 unfold V102 ws1
 refine xhw (fl n P).length (fun i=>i≤(fl x P).length) (by omega) (fun rc i hi hI hr2 => ?_) (fun rc hI => ?_) 0 (by omega) (Nat.zero_le _)
 ·have hI:i≤(fl x P).length:=hI
  unfold wcb
  rw[cs_len,cdt (by omega),jo hi,obS,Int.toNat_natCast,jz hi,obS]
  by_cases c:i<(fl x P).length
  ·have:=lowlt i hi c
   rw[cdt (by omega),wr1 (by omega)]
   exact hr2 (by omega)
  ·have hie:i=(fl x P).length:=by omega
   have:¬(fl n P)[i]<x:=by
    intro q
    have hm:(fl n P)[i]∈fl x P++((if P x=true then [x] else [])++tlF n x P):=by rw[←hk];exact List.getElem_mem hi
    subst hie
    have:(fl n P)[(fl x P).length]∈(if P x=true then [x] else [])++tlF n x P:=by
     simp only[hk]
     rw[List.getElem_append_right (Nat.le_refl _)]
     exact List.getElem_mem _
    rcases List.mem_append.1 this with r|r
    ·split at r
     ·simp at r;omega
     ·cases r
    ·have:=xei r;omega
   rw[cdf (by omega),hie]
   exact at0
 ·have hI:(fl n P).length≤(fl x P).length:=hI
  unfold wcb
  rw[cs_len,cdf (by omega),show(fl n P).length=(fl x P).length by omega]
  exact at0
theorem wma {n x:Nat}{l:List Int}(h:SetL n l) (hn:n≤1000) (hx:x<n):∃l',V102 big l (x:Int)=some (l',((),()))∧SetL n l':=by
 obtain⟨P,rfl⟩:=h
 exact⟨_,xk7 hn hx,_,rfl⟩
theorem w46 {n:Nat}{le:Nat→Nat→Bool}(h:LatP n le){S:List Nat}(hS:∀s∈S,s<n) (hl:S.length≤1000):∃l,V104 big (pos n le) (cs S)=some (l,())∧SetL n l:=by
 have h10:=h.le10
 unfold V104 ws7
 refine xhx (Q:=fun r=>∃l,r=some (l,())∧SetL n l) S.length (fun i o=>SetL n o) (by omega) (fun rc i o hi hI hr => ?_) (fun rc o hI => ?_) 0 (by omega) _ ⟨fun _=>false,by unfold fl;rw[List.filter_eq_nil_iff.2 (by simp)];rfl⟩
 ·obtain⟨l',e,h'⟩:=wma hI (by omega) (hS _ (List.getElem_mem hi))
  unfold wcd
  rw[cs_len,cdt (by omega),jo hi,obS,e,obS,wr1 (by omega)]
  exact hr _ h'
 ·unfold wcd z6
  rw[cs_len,cdf (by omega),yb (by omega),obS]
  refine xhy (Q:=fun r=>∃l,r=some (l,())∧SetL n l) n (fun i o=>SetL n o) (by omega) (fun rc i o hi hI hr => ?_) (fun rc o hI => ?_) 0 (by omega) _ hI
  ·obtain⟨P,rfl⟩:=hI
   have hfl:=jh n P
   unfold z7
   rw[wb,cdt (by omega),xf5 _ (by rw[cs_len];omega),obS]
   refine xer (Q:=fun r=>∃l,r=some (l,())∧SetL n l) (fl n P).length (fun i o=>SetL n o) (by omega) (fun rc2 j o hj hI2 hr2 => ?_) (fun rc2 o hI2 => ?_) 0 (by omega) _ ⟨P,rfl⟩
   ·unfold yh
    rw[cs_len,cdt (by omega)]
    have hjn:=(fl_mem.1 (List.getElem_mem hj)).1
    refine xes (Q:=fun r=>∃l,r=some (l,())∧SetL n l) j (fun i o=>SetL n o) (by omega) (fun rc3 k o hk hI3 hr3 => ?_) (fun rc3 o hI3 => ?_) 0 (by omega) _ hI2
    ·have hkl:k<(fl n P).length:=by omega
     have hkn:=(fl_mem.1 (List.getElem_mem hkl)).1
     have hS2:∀s∈[(fl n P)[j],(fl n P)[k]],s<n:=by
      intro s hs
      simp only[List.mem_cons,List.not_mem_nil,or_false]at hs
      rcases hs with rfl|rfl
      ·exact hjn
      ·exact hkn
     have b1:=specBoundL h hS2 (by simp)
     have b2:=specBoundL h.du hS2 (by simp)
     obtain⟨l1,e1,g1⟩:=wma hI3 (show n≤1000 by omega) (h.gbs hS2).lt
     obtain⟨l2,e2,g2⟩:=wma g1 (show n≤1000 by omega) (h.du.gbs hS2).lt
     simp only[cs_cons,cs_nil]at b1 b2
     unfold wa3
     rw[cdt (by omega)]
     simp only[jo hj,jo hkl,Int.toNat_natCast,jz hj,jz hkl,obS,b1,b2,e1,e2,wr1 (show k≤4611686018427387904 by omega)]
     exact hr3 _ g2
    ·unfold wa3 yg
     rw[cdf (by omega),wr1 (by omega)]
     exact hr2 _ hI3
   ·unfold yh xb
    rw[cs_len,cdf (by omega),wr1 (by omega)]
    exact hr _ hI2
  ·unfold z7 xn
   rw[wb,cdf (by omega)]
   exact⟨o,rfl,hI⟩
theorem w5k {p:PT}(hp:DrP 12 p){l:List Int}(hl:l.length≤1000):(∃b,V101 p l=some (b,())∧(b=true→∃n le S,p=pos n le∧LatP n le∧l=cs S∧∀s∈S,s<n)):=by
 unfold V101 ws0
 rcases xw hp.rows12 with⟨n,le,e,h,g1,_⟩|⟨g1,_⟩
 ·subst e
  have h10:=h.le10
  rw[g1,obS,cond_true,wb]
  by_cases h20:l.length≤20
  ·rw[cdt (by omega),zn n l (by omega) (by omega),obS]
   refine⟨_,rfl,fun hb => ?_⟩
   obtain⟨S,e,hS⟩:=wb5 hb
   exact⟨n,le,S,rfl,h,e,hS⟩
  ·rw[cdf (by omega)]
   exact⟨false,rfl,fun hb=>by cases hb⟩
 ·rw[g1,obS,cond_false]
  exact⟨false,rfl,fun hb=>by cases hb⟩
theorem xeg {k:Nat}{c:Cu}(hc:COk (k+130) c){p:PT}(hp:DrP 12 p):∃l c',V105 c p=some (l,(c',()))∧l.length≤1000∧COk k c':=by
 obtain⟨l,c1,e1,hl,hc1⟩:=wka (k:=k+10) (hc.mono (by omega)) (p:=p) (by have:=hp.1;omega)
 obtain⟨b,e2,hb⟩:=w5k hp (l:=l) (by omega)
 unfold V105 w5q
 rw[e1,obS]
 dsimp only
 rw[e2,obS]
 cases b with
 | false=>exact⟨_,_,rfl,by omega,hc1.mono (by omega)⟩
 | true =>
  dsimp only
  rw[cond_true]
  by_cases h0:(0:Int)<l.length
  ·obtain⟨b2,c2,e3,hc2⟩:=wq (k:=k) (hc1.mono (by omega)) 8
   rw[cdt h0,e3,obS]
   cases b2 with
   | true=>exact⟨_,_,rfl,by omega,hc2⟩
   | false =>
    obtain⟨n,le,S,rfl,h,rfl,hS⟩:=hb rfl
    have h10:=h.le10
    obtain⟨l',e4,h4⟩:=w46 h hS (by rw[cs_len]at hl;omega)
    dsimp only
    rw[Bool.not_false,cond_true,e4,obS]
    have h4l:=h4.len
    exact⟨l',_,rfl,by omega,hc2⟩
  ·rw[cdf h0]
   exact⟨_,_,rfl,by omega,hc1.mono (by omega)⟩
theorem wr5 {code:List Int}(hc:Codes code):∃p l,V107 code=some ((p,l,()),())∧DrP 12 p∧l.length≤2000:=by
 obtain⟨p,c1,e1,hp,hc1⟩:=wl4 hc
 obtain⟨l,c2,e2,hl,hc2⟩:=xeg (k:=9000) (hc1.mono (by omega)) hp
 unfold V107 w5r
 rw[e1,obS]
 dsimp only
 rw[e2,obS]
 dsimp only
 have fin:∀{c:Cu} {l:List Int},COk 100 c→l.length≤1000→∃p' l',((V3 c (12:Int)).bind fun rq7=>cond rq7.1 ((V4 rq7.2.1 [(0:Int),(-1:Int),(10:Int)]).bind fun rq8=>(appI l [rq8.1]).bind fun xq9=>some ((p,xq9,()),(()))) (some ((p,l,()),(()))))=some ((p',l',()),())∧DrP 12 p'∧l'.length≤2000:=by
  intro c l hc hl
  obtain⟨b,c3,e3,hc3⟩:=wq (k:=98) hc 12
  rw[e3,obS]
  cases b with
  | false=>exact⟨_,_,rfl,hp,by omega⟩
  | true =>
   obtain⟨v,c4,e4,_,hc4⟩:=xd (k:=96) hc3 (l:=[(0:Int),(-1:Int),(10:Int)]) (by simp)
   dsimp only
   rw[cond_true,e4,obS]
   dsimp only
   rw[app1 (by omega),obS]
   exact⟨_,_,rfl,hp,by rw[List.length_append,List.length_singleton];omega⟩
 rcases xw hp.rows12 with⟨n,le,e,h,g1,_⟩|⟨g1,_⟩
 ·subst e
  have h10:=h.le10
  have h0:=h.lat.ne
  obtain⟨b,c3,e3,hc3⟩:=wq (k:=8998) hc2 2
  rw[g1,obS]
  dsimp only
  rw[cond_true,e3,obS]
  cases b with
  | false=>exact fin (hc3.mono (by omega)) hl
  | true =>
   obtain⟨v,c4,e4,v0,v1,hc4⟩:=wg (k:=8996) hc3 (n:Int)
   have v1:=v1 (by omega)
   obtain⟨x,rfl⟩:=Int.eq_ofNat_of_zero_le v0
   dsimp only
   rw[cond_true,wb,e4,obS]
   dsimp only
   rw[wb3 (by omega) (show x<n by omega),obS]
   exact fin (hc4.mono (by omega)) (by rw[cs_len];have:=jh n fun y=>le x y;omega)
 ·rw[g1,obS]
  dsimp only
  rw[cond_false]
  exact fin (hc2.mono (by omega)) hl
theorem wr4 {code:List Int}(hc:Codes code):∃p l,V115 code=some ((p,l,()),())∧DrP 12 p∧l.length≤2000:=by
 obtain⟨p,c1,e1,hp,hc1⟩:=wl4 hc
 obtain⟨l,c2,e2,hl,_⟩:=wka (k:=9000) (hc1.mono (by omega)) (p:=p) (by have:=hp.1;omega)
 unfold V115 w5z
 rw[e1,obS]
 dsimp only
 rw[e2,obS]
 exact⟨p,l,rfl,hp,by omega⟩
theorem wxl {code:List Int}(hc:Codes code):∃p c,V22 big (code,((0:Int),((0:Int),())))=some (p,(c,()))∧DrP 12 p∧COk 9500 c:=wr3 (k:=9500) (hc.start.mono (by omega))
theorem wyd {code:List Int}(hc:Codes code):∃p x,V24 code=some ((p,x,()),())∧DrP 12 p:=by
 obtain⟨p,c1,e1,hp,hc1⟩:=wxl hc
 obtain⟨x,c2,e2,_⟩:=wlx (k:=9000) (hc1.mono (by omega)) (p:=p) (by have:=hp.1;omega)
 unfold V24 xgm
 rw[e1,obS]
 dsimp only
 rw[e2,obS]
 exact⟨_,_,rfl,hp⟩
theorem w49 {code:List Int}(hc:Codes code):∃p l,V97 code=some ((p,l,()),())∧DrP 12 p:=by
 obtain⟨p,c1,e1,hp,hc1⟩:=wxl hc
 have hpl:=hp.1
 have part:∀{c:Cu},COk 1000 c→∃p' l,((V96 big c (p.1.length:Int)).bind fun rq6=>some ((p,rq6.1,()),(())))=some ((p',l,()),())∧DrP 12 p':=by
  intro c hc
  obtain⟨l,c2,e2,_⟩:=wp2 (k:=100) (n:=p.1.length) (by omega) (hc.mono (by omega))
  rw[e2]
  exact⟨_,_,rfl,hp⟩
 unfold V97 xhk
 rw[e1,obS]
 dsimp only
 rcases wgh hp.rows12 with⟨n,le,e,h,h1,h2⟩|⟨h1,l,h2⟩
 ·subst e
  have h10:=h.lp.le10
  have h0:=h.lp.lat.ne
  obtain⟨b,c3,e3,hc3⟩:=wq (k:=9498) hc1 3
  rw[h1,obS]
  dsimp only
  rw[cond_true,e3,obS]
  cases b with
  | true=>exact part (hc3.mono (by omega))
  | false =>
   obtain⟨v,c4,e4,v0,v1,hc4⟩:=wg (k:=9496) hc3 (n:Int)
   have v1:=v1 (by omega)
   obtain⟨x,rfl⟩:=Int.eq_ofNat_of_zero_le v0
   dsimp only
   rw[Bool.not_false,cond_true,wb,e4,obS]
   dsimp only
   rw[xl h (show x<n by omega),obS]
   exact⟨_,_,rfl,hp⟩
 ·rw[h1,obS]
  dsimp only
  rw[cond_false]
  exact part (hc1.mono (by omega))
theorem xfz {code:List Int}(hc:Codes code):∃p,V119 code=some (p,())∧DrP 12 p:=by
 obtain⟨p,c1,e1,hp,_⟩:=wl4 hc
 unfold V119 w53 V118 w52
 rw[e1,obS,obS]
 exact⟨_,rfl,hp⟩
theorem w44 {p:PT}(hx:∀r∈p.1,r.length≤4294967296) (x:Int) :
  (∃n le,∃k:Nat,p=pos n le∧BoolP n le∧x=(k:Int)∧k<n∧V48 (pos n le)=some ((some (lat n le),true,()),())∧V73 p x=some ((cgB n le k,true,()),())∧V53 p x=some ((cgB n le k,true,()),())) ∨
  ∃v:List Int,V73 p x=some ((v,false,()),())∧V53 p x=some ((v,false,()),())∧v.length≤10:=by
 unfold V73 xg6 V53 xgw
 rcases wgh hx with⟨n,le,e,h,h1,h2⟩|⟨h1,l,h2⟩
 ·subst e
  have h10:=h.lp.le10
  rw[h1,h2]
  simp only[obS,Bool.not_true,cond_false,lat1]
  rw[xef,wpx _ (by simp),obS,obS,List.all_cons,List.all_nil,Bool.and_true]
  cases hi:inB n x with
  | false=>exact .inr ⟨_,rfl,rfl,by simp⟩
  | true =>
   obtain⟨k,hk,e⟩:=wxq hi
   subst e
   simp only[Bool.not_true,cond_false]
   rw[xl h hk,wo h hk]
   exact .inl ⟨n,le,k,rfl,h,rfl,hk,h2,rfl,rfl⟩
 ·rw[h1,h2]
  exact .inr ⟨_,rfl,rfl,by simp⟩
theorem w5c {n:Nat}{le:Nat→Nat→Bool}(h:BoolP n le) (h2:V48 (pos n le)=some ((some (lat n le),true,()),())){k:Nat}(hk:k<n):V76 big (pos n le) (cgB n le k)=some (((k:Int),true,()),()):=by
 have h10:=h.lp.le10
 have hlen:∀x,(cgB n le x).length=n:=fun x=>by unfold cgB;rw[mkR_len]
 unfold V76 wsn
 rw[h2]
 simp only[obS,Bool.not_true,cond_false,lat1,mkR_len]
 refine wwg k (fun _=>True) (by omega) ?_ ?_ 0 (by omega) trivial
 ·intro rc i hi _ ih
  have hf:¬cgB n le i=cgB n le k:=fun e=>by have:=w07 h (by omega) hk e;omega
  unfold x6
  rw[cdt (by omega),wo h (by omega),obS,wn _ _ (by rw[hlen];omega),obS,decide_eq_false hf,wr1 (by omega)]
  exact ih trivial
 ·intro rc _
  unfold x6
  rw[cdt (by omega),wo h hk,obS,wn _ _ (by rw[hlen];omega),obS,decide_eq_true rfl]
  rfl
theorem wyb {n:Nat}{le:Nat→Nat→Bool}(h:BoolP n le) (h2:V48 (pos n le)=some ((some (lat n le),true,()),())):V79 (pos n le)=some ((boolA n le,true,()),()):=by
 unfold V79 xg8
 rw[h2]
 simp only[obS,Bool.not_true,cond_false,w43 h.lp,wj5 h]
 rfl
end Go.Proofs.YtclaienmkbpkaaaGreat
