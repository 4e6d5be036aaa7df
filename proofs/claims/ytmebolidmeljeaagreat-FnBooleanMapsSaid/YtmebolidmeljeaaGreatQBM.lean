import Derived.Test.YtmebolidmeljeaaGreatPTab
import Derived.Test.YtmebolidmeljeaaGreatHBM
import Derived.KernelRfl
set_option linter.unusedVariables false
set_option linter.unusedSimpArgs false
namespace Go.Proofs.YtmebolidmeljeaaGreat
open Go Go.Gx Go.Proofs
theorem wst (x a b:Int):V6 x a b=some (decide (a≤x∧x≤b),()):=by
 unfold V6 V6_s
 by_cases h:a≤x<;>simp[h]
def subst (l:Int) (s:List Int):List Int→List Int
 | []=>[]
 | x::xs=>if x=l then s++subst l s xs else x::subst l s xs
def risingB:List Int→Bool
 | x::y::r=>decide (x<y)&&risingB (y::r)
 | _=>true
def inB (n:Nat) (x:Int):Bool:=decide (0≤x∧x<n)
def isSetB (n:Nat) (s:List Int):Bool:=s.all (inB n)&&risingB s
theorem wmr (l:List Int) (i:Nat) (h:i<l.length) (h1:1≤i):risingB (l.drop (i-1))=(decide (l[i-1]<l[i])&&risingB (l.drop i)):=by
 rw[List.drop_eq_getElem_cons (show i-1<l.length by omega),show i-1+1=i by omega,List.drop_eq_getElem_cons h]
 rfl
theorem wro (l:List Int) (i:Nat) (h:l.length≤i) (h1:1≤i):risingB (l.drop (i-1))=true:=by
 by_cases h2:l.length=i
 ·rw[List.drop_eq_getElem_cons (show i-1<l.length by omega),List.drop_eq_nil_of_le (by omega)]
  rfl
 ·rw[List.drop_eq_nil_of_le (by omega)]
  rfl
theorem wlb (N:Nat){m:Nat}:∀(n:Nat) (l:List Int) (i:Nat),l.length-i<n→i≤l.length→l.length≤1099511627776 →
  wdm N wh0 n l 0 ((m:Int)-1) i=some ((l.drop i).all (inB m)&&risingB (l.drop (i-1)),())
 | 0,_,_,h,_,_=>by omega
 | n+1,l,i,h,hi,hb=>by
  simp only[wdm,wu3]
  by_cases hlt:i<l.length
  ·have e:decide (0≤l[i]∧l[i]≤(m:Int)-1)=inB m l[i]:=by
    unfold inB;congr 1;exact propext ⟨fun h=>⟨h.1,by omega⟩,fun h=>⟨h.1,by omega⟩⟩
   rw[cdt (by omega),jf l i hlt,obS,wst,obS,e,wr (n:=(i:Int)+1) (by omega) (by omega),wr (n:=(i:Int)-1) (by omega) (by omega)]
   rw[show((i:Int)+1)=((i+1:Nat):Int) by omega,wlb N n l (i+1) (by omega) (by omega) hb]
   rw[show i+1-1=i by omega]
   cases hin:inB m l[i] with
   | false =>
    rw[List.drop_eq_getElem_cons hlt,List.all_cons,hin]
    rfl
   | true =>
    simp only[Bool.not_true,cond_false]
    by_cases h0:0<i
    ·rw[cdt (by omega),show((i:Int)-1)=((i-1:Nat):Int) by omega,jf l (i-1) (by omega),obS,obS,wmr l i hlt h0]
     by_cases hle:l[i]≤l[i-1]
     ·rw[cdt hle,decide_eq_false (by omega)]
      simp
     ·rw[cdf hle,decide_eq_true (show l[i-1]<l[i] by omega),List.drop_eq_getElem_cons hlt,List.all_cons,hin]
      simp
    ·rw[cdf (by omega)]
     have:i=0:=by omega
     subst this
     rw[show(0:Nat)-1=0 from rfl,List.drop_eq_getElem_cons hlt,List.all_cons,hin]
     simp
  ·rw[cdf (by omega),List.drop_eq_nil_of_le (by omega)]
   by_cases h1:1≤i
   ·rw[wro l i (by omega) h1];rfl
   ·have:l=[]:=List.eq_nil_of_length_eq_zero (by omega)
    subst this
    simp[risingB,wh0]
theorem wyq (N:Nat){m:Nat}:∀(n:Nat) (l:List Int) (i:Nat),l.length-i<n→i≤l.length→l.length≤1099511627776 →
  wiv N wv1 n (m:Int) l (l.length:Int) i=some ((l.drop i).all (inB m),())
 | 0,_,_,h,_,_=>by omega
 | n+1,l,i,h,hi,hb=>by
  simp only[wiv,wv2]
  by_cases hlt:i<l.length
  ·rw[cdt (by omega),jf l i hlt,obS,wr (n:=(i:Int)+1) (by omega) (by omega)]
   rw[show((i:Int)+1)=((i+1:Nat):Int) by omega,wyq N n l (i+1) (by omega) (by omega) hb]
   rw[List.drop_eq_getElem_cons hlt,List.all_cons]
   unfold inB
   by_cases h0:l[i]<0
   ·rw[cdt h0,decide_eq_false (by omega)];rfl
   ·rw[cdf h0]
    by_cases h1:(m:Int)≤l[i]
    ·rw[cdt h1,decide_eq_false (by omega)];rfl
    ·rw[cdf h1,decide_eq_true (by omega)];rfl
  ·rw[cdf (by omega),List.drop_eq_nil_of_le (by omega)]
   rfl
theorem w11 (N:Nat):∀(n:Nat) (l:List Int) (i:Nat),l.length-i<n→1≤i→l.length≤1099511627776→i≤1099511627777 →
  wiu N wvx n l i=some (risingB (l.drop (i-1)),())
 | 0,_,_,h,_,_,_=>by omega
 | n+1,l,i,h,hi,hb,hi2=>by
  simp only[wiu,wvy]
  by_cases hlt:i<l.length
  ·rw[cdt (by omega),wr (n:=(i:Int)-1) (by omega) (by omega),show((i:Int)-1)=((i-1:Nat):Int) by omega,jf l (i-1) (by omega),obS,jf l i hlt,obS,wr (n:=(i:Int)+1) (by omega) (by omega)]
   rw[show((i:Int)+1)=((i+1:Nat):Int) by omega,w11 N n l (i+1) (by omega) (by omega) hb (by omega),wmr l i hlt hi,show i+1-1=i by omega]
   by_cases hle:l[i]≤l[i-1]
   ·rw[cdt hle,decide_eq_false (by omega)];rfl
   ·rw[cdf hle,decide_eq_true (by omega)];rfl
  ·rw[cdf (by omega),wro l i (by omega) hi]
   rfl
theorem wr1 {i:Nat}(h:i≤4611686018427387904):IntKind.i64.wrap ((i:Int)+1)=((i+1:Nat):Int):=by rw[wr (by omega) (by omega)];omega
abbrev PT:=List (List Int)×Unit
def pos (n:Nat) (le:Nat→Nat→Bool):PT:=(mkR n fun y=>cs (fl n fun x=>le x y),())
def leP (p:PT) (x y:Nat):Bool:=decide ((x:Int)∈p.1.getD y [])
structure Ord (n:Nat) (le:Nat→Nat→Bool):Prop where
 refl:∀x,x<n→le x x=true
 anti:∀x y,x<n→y<n→x≠y→le x y=true→le y x=false
 trans:∀x y z,x<n→y<n→z<n→le x y=true→le y z=true→le x z=true
structure Good (p:PT):Prop where
 len:p.1.length≤10
 rows:∀r∈p.1,isSetB p.1.length r=true
 ord:Ord p.1.length (leP p)
theorem wb9 (l:List Int) (x:Int) (h:l.length≤4294967296):V14 big l x=some (decide (x∈l),()):=by
 unfold V14 w2j
 refine xlb l.length (fun i=>x ∉ l.take i) (by omega) ?_ ?_ 0 (by omega) (by simp)
 ·intro rc i hi hv ih
  unfold whq
  rw[cdt (by omega),jf l i hi,obS]
  by_cases hx:l[i]=x
  ·rw[cdt hx,decide_eq_true (hx▸List.getElem_mem hi)]
  ·rw[cdf hx,wr1 (by omega)]
   refine ih fun h => ?_
   rw[List.take_succ_eq_append_getElem hi,List.mem_append,List.mem_singleton]at h
   exact h.elim hv fun e=>hx e.symm
 ·intro rc hv
  unfold whq
  rw[cdf (by omega),wdg,decide_eq_false (by simpa using hv)]
theorem wys (S:List Nat) (x:Nat) (h:S.length≤4294967296):V14 big (cs S) (x:Int)=some (decide (x∈S),()):=by
 rw[wb9 _ _ (by simpa using h)]
 simp only[cs_mem]
theorem wze (a b:List Int) (ha:a.length≤4294967296) (hb:b.length≤4294967296):V24 big a b=some (tv (∀x∈a,x∈b),()):=by
 unfold V24 w2u
 refine xli a.length (fun i=>∀x∈a.take i,x∈b) (by omega) ?_ ?_ 0 (by omega) (by simp)
 ·intro rc i hi hv ih
  unfold wh2
  rw[cdt (by omega),jf a i hi,obS,wb9 _ _ hb,obS]
  by_cases hx:a[i]∈b
  ·rw[decide_eq_true hx,wr1 (by omega)]
   exact ih ((qp hi).2 ⟨hv,hx⟩)
  ·rw[decide_eq_false hx,tv_f fun h=>hx (h _ (List.getElem_mem hi))]
   rfl
 ·intro rc hv
  unfold wh2
  rw[cdf (by omega),wdn,tv_t (by simpa using hv)]
theorem wtc (n:Nat) (s:List Int) (hn:n≤1099511627776) (hs:s.length≤1099511627775):V23 big s 0 ((n:Int)-1)=some (isSetB n s,()):=by
 have hb:=jp
 unfold V23 w2s wu1
 have:=wlb big (m:=n) big s 0 (by omega) (by omega) (by omega)
 rw[show wdm big wh0 big s 0 ((n:Int)-1) 0=_ from this]
 rfl
theorem zr (n:Nat) (s:List Int) (hs:s.length≤1099511627775):V43 big s (n:Int)=some (s.all (inB n),()):=by
 have hb:=jp
 unfold V43 w3h wvz
 have h1:=wyq big (m:=n) big s 0 (by omega) (by omega) (by omega)
 rw[show(0:Int)=((0:Nat):Int) from rfl,h1]
 rfl
theorem wy2 (s:List Int) (hs:s.length≤1099511627775):V42 big s=some (risingB s,()):=by
 have hb:=jp
 unfold V42 w3f wvv
 have h2:=w11 big big s 1 (by omega) (by omega) (by omega) (by omega)
 rw[show(1:Int)=((1:Nat):Int) from rfl,h2]
 rfl
theorem wmq:∀{l:List Int},risingB l=true→l.Pairwise (·<·)
 | [],_=>List.Pairwise.nil
 | [x],_=>by simp
 | x::y::r,h=>by
  simp only[risingB,Bool.and_eq_true,decide_eq_true_eq]at h
  have h2:=wmq h.2
  refine List.pairwise_cons.2 ⟨fun z hz => ?_,h2⟩
  rcases List.mem_cons.1 hz with rfl|hz
  ·exact h.1
  ·have:=(List.pairwise_cons.1 h2).1 z hz
   omega
theorem wcm:∀{l:List Int},l.Pairwise (·<·)→risingB l=true
 | [],_=>rfl
 | [x],_=>rfl
 | x::y::r,h=>by
  have h1:=List.pairwise_cons.1 h
  simp only[risingB,Bool.and_eq_true,decide_eq_true_eq]
  exact⟨h1.1 y (by simp),wcm h1.2⟩
theorem wyw:∀{l m:List Int},l.Pairwise (·<·)→m.Pairwise (·<·)→(∀x,x∈l↔x∈m)→l=m
 | [],[],_,_,_=>rfl
 | [],y::m,_,_,h=>by have:=(h y).2 (by simp);simp at this
 | x::l,[],_,_,h=>by have:=(h x).1 (by simp);simp at this
 | x::l,y::m,h1,h2,h=>by
  have p1:=List.pairwise_cons.1 h1
  have p2:=List.pairwise_cons.1 h2
  have e:x=y:=by
   rcases List.mem_cons.1 ((h x).1 (by simp)) with e|hx
   ·exact e
   ·rcases List.mem_cons.1 ((h y).2 (by simp)) with e|hy
    ·exact e.symm
    ·have:=p1.1 y hy
     have:=p2.1 x hx
     omega
  subst e
  congr 1
  refine wyw p1.2 p2.2 fun z => ?_
  constructor
  ·intro hz
   rcases List.mem_cons.1 ((h z).1 (List.mem_cons_of_mem _ hz)) with e|hz2
   ·have:=p1.1 z hz;omega
   ·exact hz2
  ·intro hz
   rcases List.mem_cons.1 ((h z).2 (List.mem_cons_of_mem _ hz)) with e|hz2
   ·have:=p2.1 z hz;omega
   ·exact hz2
theorem wss (n:Nat) (P:Nat→Bool):(cs (fl n P)).Pairwise (·<·):=by
 unfold cs fl
 rw[List.pairwise_map]
 refine List.Pairwise.filter _ ?_
 have:=List.pairwise_lt_range (n:=n)
 exact this.imp fun h=>by omega
theorem ws9 {n:Nat}{l:List Int}(h:isSetB n l=true):l=cs (fl n fun x=>decide ((x:Int)∈l)):=by
 unfold isSetB at h
 rw[Bool.and_eq_true]at h
 refine wyw (wmq h.2) (wss _ _) fun x => ?_
 constructor
 ·intro hx
  have h1:=List.all_eq_true.1 h.1 x hx
  unfold inB at h1
  rw[decide_eq_true_eq]at h1
  have e:x=((x.toNat:Nat):Int):=by omega
  rw[e,cs_mem,fl_mem]
  refine⟨by omega,decide_eq_true ?_⟩
  rw[←e];exact hx
 ·intro hx
  unfold cs at hx
  obtain⟨y,hy,e⟩:=List.mem_map.1 hx
  have:=(fl_mem.1 hy).2
  rw[decide_eq_true_eq]at this
  exact e▸this
theorem xkv (n:Nat) (P:Nat→Bool):isSetB n (cs (fl n P))=true:=by
 unfold isSetB
 rw[Bool.and_eq_true]
 refine⟨List.all_eq_true.2 fun x hx => ?_,wcm (wss n P)⟩
 unfold cs at hx
 obtain⟨y,hy,e⟩:=List.mem_map.1 hx
 have:=(fl_mem.1 hy).1
 unfold inB
 exact decide_eq_true (by omega)
theorem wyz {p:PT}(h:∀r∈p.1,isSetB p.1.length r=true):p=pos p.1.length (leP p):=by
 unfold pos
 refine Prod.ext ?_ rfl
 refine jch rfl fun i hi => ?_
 refine(ws9 (h _ (List.getElem_mem hi))).trans ?_
 refine congrArg cs (ur fun x hx => ?_)
 unfold leP
 simp[hi]
theorem wb (n:Nat) (le:Nat→Nat→Bool):(pos n le).1.length=n:=mkR_len n _
theorem wy0 (n:Nat) (le:Nat→Nat→Bool):∀r∈(pos n le).1,isSetB (pos n le).1.length r=true:=by
 intro r hr
 rw[wb]
 obtain⟨i,_,e⟩:=mkR_mem.1 hr
 exact e▸xkv _ _
theorem w1y {n:Nat}{le:Nat→Nat→Bool}{x y:Nat}(hx:x<n) (hy:y<n):leP (pos n le) x y=le x y:=by
 unfold leP pos
 simp only[List.getD_eq_getElem?_getD,ju hy,Option.getD_some,cs_mem,fl_mem,hx,true_and,Bool.decide_eq_true]
theorem Ord.congr {n:Nat}{le le':Nat→Nat→Bool}(e:∀x y,x<n→y<n→le x y=le' x y) (h:Ord n le):Ord n le' where
 refl x hx:=by rw[←e x x hx hx];exact h.refl x hx
 anti x y hx hy hxy h1:=by rw[←e y x hy hx];rw[←e x y hx hy]at h1;exact h.anti x y hx hy hxy h1
 trans x y z hx hy hz h1 h2:=by
  rw[←e x z hx hz];rw[←e x y hx hy]at h1;rw[←e y z hy hz]at h2
  exact h.trans x y z hx hy hz h1 h2
theorem xfu {n:Nat}{le:Nat→Nat→Bool}:Good (pos n le)↔n≤10∧Ord n le:=by
 have e:∀x y,x<n→y<n→leP (pos n le) x y=le x y:=fun x y hx hy=>w1y hx hy
 constructor
 ·intro h
  have h1:=h.len;have h2:=h.ord
  rw[wb]at h1 h2
  exact⟨h1,h2.congr e⟩
 ·intro h
  refine⟨by rw[wb];exact h.1,wy0 n le, ?_⟩
  rw[wb]
  exact h.2.congr fun x y hx hy=>(e x y hx hy).symm
theorem Good.form {p:PT}(h:Good p):p=pos p.1.length (leP p):=wyz h.rows
theorem wmo {n:Nat}(h:n≤4294967296):V41 big (n:Int)=some (mkT n fun _ _=>false,()):=by
 unfold V41 w3d
 rw[jar h,obS,obS,cdt (by omega),mkR_len]
 refine xlx n (fun i o=>o=mkR n fun x=>if x<i then mkR n fun _=>false else []) (by omega) ?_ ?_ 0 (by omega) _ (by simp)
 ·intro rc i o hi hv ih
  unfold wit
  rw[cdt (by omega),jar h,obS,obS,cdt (by omega),hv,jd hi,obS,Int.toNat_natCast,ju hi,obS,wr1 (by omega)]
  refine ih _ ?_
  rw[qy]
  refine jq fun x hx => ?_
  by_cases h1:x=i
  ·rw[if_pos h1,if_pos (by omega)]
  ·rw[if_neg h1]
   by_cases h2:x<i
   ·rw[if_pos h2,if_pos (by omega)]
   ·rw[if_neg h2,if_neg (by omega)]
 ·intro rc o hv
  unfold wit
  rw[cdf (by omega),hv,web]
  congr 2
  exact jq fun x hx=>by rw[if_pos hx]
theorem w5o {n:Nat}{le:Nat→Nat→Bool}(hn:n≤4294967296):V44 big (mkT n le)=some (tv (Ord n le),()):=by
 unfold V44 w3k
 rw[mkR_len]
 refine xly n (fun i=>∀x,x<i→le x x=true∧(∀y,y<n→(x≠y→le x y=true→le y x=false)∧∀z,z<n→le x y=true→le y z=true→le x z=true)) (by omega) ?_ ?_ 0 (by omega) (by intro x hx;omega)
 ·intro rc i hi hv ih
  unfold weg
  rw[cdt (by omega),jd hi,obS,jd hi,obS,mkR_len]
  cases h0:le i i with
  | false =>
   rw[tv_f fun h=>by rw[h.refl i hi]at h0;cases h0]
   rfl
  | true =>
   rw[Bool.not_true,cond_false]
   refine xlz n (fun j=>∀y,y<j→(i≠y→le i y=true→le y i=false)∧∀z,z<n→le i y=true→le y z=true→le i z=true) (by omega) ?_ ?_ 0 (by omega) (by intro x hx;omega)
   ·intro rc2 j hj hv2 ih2
    have inn:(i≠j→le i j=true→le j i=false)→wak big rc2 (x6 rc) (mkT n le) (i:Int) (j:Int) (n:Int) (i:Int) (n:Int) (j:Int) (n:Int) ((0:Nat):Int)=some (tv (Ord n le),()):=by
     intro hij
     refine xiw n (fun k=>∀z,z<k→le i j=true→le j z=true→le i z=true) (by omega) ?_ ?_ 0 (by omega) (by intro x hx;omega)
     ·intro rc3 k hk hv3 ih3
      unfold wef
      simp only[cdt (show(k:Int)<(n:Int) by omega),jd hi,jd hj,jd hk,obS,wr1 (show k≤4611686018427387904 by omega)]
      cases h1:le i j with
      | false=>exact ih3 (all_lt_succ.2 ⟨hv3,by intro h;rw[h1]at h;cases h⟩)
      | true =>
       cases h2:le j k with
       | false=>exact ih3 (all_lt_succ.2 ⟨hv3,by intro _ h;rw[h2]at h;cases h⟩)
       | true =>
        cases h3:le i k with
        | false =>
         rw[tv_f fun h=>by rw[h.trans i j k hi hj hk h1 h2]at h3;cases h3]
         rfl
        | true=>exact ih3 (all_lt_succ.2 ⟨hv3,fun _ _=>h3⟩)
     ·intro rc3 hv3
      unfold wef
      rw[cdf (by omega),wal,wr1 (by omega)]
      exact ih2 (all_lt_succ.2 ⟨hv2,hij,hv3⟩)
    unfold weh
    rw[cdt (by omega),jd hi,obS,jd hj,obS,jd hj,obS,jd hi,obS,mkR_len]
    by_cases hij:i=j
    ·rw[cdf (by omega)]
     exact inn fun h=>absurd hij h
    ·rw[cdt (by omega)]
     cases h1:le i j with
     | false=>exact inn fun _ h=>by rw[h1]at h;cases h
     | true =>
      cases h2:le j i with
      | false=>exact inn fun _ _=>h2
      | true =>
       rw[tv_f fun h=>by rw[h.anti i j hi hj hij h1]at h2;cases h2]
       rfl
   ·intro rc2 hv2
    unfold weh
    rw[cdf (by omega),x6,wr1 (by omega)]
    exact ih (all_lt_succ.2 ⟨hv,h0,hv2⟩)
 ·intro rc hv
  unfold weg
  rw[cdf (by omega),yz,tv_t]
  exact⟨fun x hx=>(hv x hx).1,fun x y hx hy=>((hv x hx).2 y hy).1,fun x y z hx hy hz=>((hv x hx).2 y hy).2 z hz⟩
theorem w10 {α:Type}{n:Nat}{f:Nat→Nat→α}{x y:Nat}{v:α}:(mkT n f).set x ((mkR n (f x)).set y v)=mkT n fun a b=>if a=x∧b=y then v else f a b:=by
 rw[qy]
 refine jq fun a ha => ?_
 by_cases h:a=x
 ·subst h
  rw[if_pos rfl,qy]
  exact jq fun b hb=>by simp
 ·rw[if_neg h]
  exact jq fun b hb=>by simp[h]
theorem wrn (p:PT) (hl:p.1.length≤10) (hx:∀r∈p.1,r.length≤4294967296) :
  V45 big p=some (@ite _ (∀r∈p.1,isSetB p.1.length r=true) (Classical.propDecidable _) (mkT p.1.length (leP p),tv (Ord p.1.length (leP p)),()) ([],false,()),()):=by
 unfold V45 wti
 generalize hn:p.1.length=n
 rw[cdf (by omega),wmo (by omega),obS]
 refine xl0 n (fun i o=>(∀j,j<i→∀(h:j<p.1.length),isSetB n p.1[j]=true)∧o=mkT n fun a b=>decide (b<i)&&leP p a b) (by omega) ?_ ?_ 0 (by omega) _ ⟨by intro j hj;omega,jx fun a b _ _=>by simp⟩
 ·intro rc i o hi hv ih
  obtain⟨hv1,hv2⟩:=hv
  unfold wem
  have hip:i<p.1.length:=by omega
  have hrow:=hx _ (List.getElem_mem hip)
  rw[cdt (by omega),jf _ i hip,obS,wy2 _ (by omega),obS]
  cases h1:risingB p.1[i] with
  | false =>
   rw[if_neg fun h=>by have:=h _ (List.getElem_mem hip);unfold isSetB at this;rw[h1,Bool.and_false]at this;cases this]
   rfl
  | true =>
   rw[Bool.not_true,cond_false,zr n _ (by omega),obS]
   cases h2:p.1[i].all (inB n) with
   | false =>
    rw[if_neg fun h=>by have:=h _ (List.getElem_mem hip);unfold isSetB at this;rw[h2,Bool.false_and]at this;cases this]
    rfl
   | true =>
    rw[Bool.not_true,cond_false]
    have hset:isSetB n p.1[i]=true:=by unfold isSetB;rw[h1,h2];rfl
    have hle:∀a,leP p a i=decide ((a:Int)∈p.1[i]):=by intro a;unfold leP;simp[hip]
    have hform:=ws9 hset
    have hS:∀a,a∈fl n (fun x=>decide ((x:Int)∈p.1[i]))↔a<n∧leP p a i=true:=by
     intro a;rw[fl_mem,hle]
    generalize fl n (fun x=>decide ((x:Int)∈p.1[i]))=S at hform hS
    rw[hform,cs_len]
    refine xiz S.length (fun k o=>o=mkT n fun a b=>if b<i then leP p a b else decide (b=i∧a∈S.take k)) ?_ ?_ ?_ 0 (by omega) _ ?_
    ·have:=congrArg List.length hform
     rw[cs_len]at this
     have:=hx _ (List.getElem_mem hip)
     omega
    ·intro rc2 k o2 hk hv3 ih2
     have hkn:S[k]<n:=((hS _).1 (List.getElem_mem hk)).1
     have hkS:S.length≤4294967296:=by have:=congrArg List.length hform;rw[cs_len]at this;omega
     unfold wel
     simp only[cdt (show(k:Int)<(S.length:Int) by omega),jo hk,obS,hv3,jd hkn,Int.toNat_natCast,ju hkn,jd hi,ju hi,wr1 (show k≤4611686018427387904 by omega)]
     refine ih2 _ ?_
     rw[w10]
     refine jx fun a b _ _ => ?_
     by_cases hb:b<i
     ·rw[if_pos hb,if_pos hb,if_neg (by omega)]
     ·rw[if_neg hb,if_neg hb]
      simp only[ut hk]
      by_cases hbi:b=i
      ·by_cases ha:a=S[k]
       ·simp[hbi,ha]
       ·simp[hbi,ha]
      ·simp[hbi]
    ·intro rc2 o2 hv3
     unfold wel
     rw[cdf (by omega),wam,wr1 (by omega)]
     refine ih _ ⟨fun j hj hjp => ?_, ?_⟩
     ·rcases Nat.lt_or_ge j i with h|h
      ·exact hv1 j h hjp
      ·have:j=i:=by omega
       subst this;exact hset
     ·rw[hv3]
      refine jx fun a b ha _ => ?_
      by_cases hb:b<i
      ·rw[if_pos hb];simp[show b<i+1 by omega]
      ·rw[if_neg hb,List.take_length]
       by_cases hbi:b=i
       ·subst hbi
        rw[decide_eq_true (show b<b+1 by omega),Bool.true_and]
        cases h:leP p a b with
        | true=>exact decide_eq_true ⟨rfl,(hS a).2 ⟨ha,h⟩⟩
        | false=>exact decide_eq_false fun h3=>by rw[((hS a).1 h3.2).2]at h;cases h
       ·simp[hbi,show ¬b<i+1 by omega]
    ·rw[hv2]
     refine jx fun a b _ _ => ?_
     by_cases hb:b<i
     ·simp[hb]
     ·simp[hb]
 ·intro rc o hv
  obtain⟨hv1,hv2⟩:=hv
  unfold wem
  have ho:o=mkT n (leP p):=by rw[hv2];exact jx fun a b _ hb=>by simp[hb]
  rw[cdf (by omega),y5,ho,w5o (by omega),obS,if_pos]
  intro r hr
  obtain⟨j,hj,e⟩:=List.getElem_of_mem hr
  exact e▸hv1 j (by omega) hj
theorem wzh (p:PT) (hl:¬p.1.length≤10):V45 big p=some (([],false,()),()):=by
 unfold V45 wti
 rw[cdt (by omega)]
theorem w5s (p:PT) (hx:∀r∈p.1,r.length≤4294967296) (h:¬Good p):∃T,V45 big p=some ((T,false,()),()):=by
 by_cases hl:p.1.length≤10
 ·rw[wrn p hl hx]
  by_cases hr:∀r∈p.1,isSetB p.1.length r=true
  ·rw[if_pos hr,tv_f fun ho=>h ⟨hl,hr,ho⟩]
   exact⟨_,rfl⟩
  ·rw[if_neg hr]
   exact⟨_,rfl⟩
 ·exact⟨_,wzh p hl⟩
theorem wmp {n:Nat}{le:Nat→Nat→Bool}(hn:n≤10) (ho:Ord n le):V45 big (pos n le)=some ((mkT n le,true,()),()):=by
 have e:∀x y,x<n→y<n→leP (pos n le) x y=le x y:=fun x y hx hy=>w1y hx hy
 rw[wrn _ (by rw[wb];exact hn) ?_,if_pos (wy0 n le),wb,tv_t (ho.congr fun x y hx hy=>(e x y hx hy).symm)]
 ·congr 3
  exact jx fun x y hx hy=>e x y hx hy
 ·intro r hr
  obtain⟨i,_,h⟩:=mkR_mem.1 hr
  rw[←h,cs_len]
  have:=jh n fun x=>le x i
  omega
theorem wg1 {n x:Nat}{le:Nat→Nat→Bool}(hx:x<n):atI (pos n le).1 (x:Int)=some (cs (fl n fun a=>le a x)):=jd hx
theorem wo {n x y:Nat}{le:Nat→Nat→Bool}(hn:n≤4294967296) (hx:x<n) (hy:y<n):V15 (pos n le) (x:Int) (y:Int)=some (le x y,()):=by
 unfold V15 xf6
 have:=jh n fun a=>le a y
 rw[wg1 hy,obS,wys _ _ (by omega),obS]
 congr 2
 rw[Bool.eq_iff_iff,decide_eq_true_eq,fl_mem]
 simp[hx]
theorem wtb {n:Nat}{P Q:Nat→Bool}(hn:n≤4294967296):V24 big (cs (fl n P)) (cs (fl n Q))=some (tv (∀x,x<n→P x=true→Q x=true),()):=by
 have h1:=jh n P
 have h2:=jh n Q
 rw[wze _ _ (by rw[cs_len];omega) (by rw[cs_len];omega)]
 congr 2
 refine qt ⟨fun h x hx hp => ?_,fun h x hx => ?_⟩
 ·exact(fl_mem.1 (cs_mem.1 (h _ (cs_mem.2 (fl_mem.2 ⟨hx,hp⟩))))).2
 ·unfold cs at hx
  obtain⟨y,hy,e⟩:=List.mem_map.1 hx
  have:=fl_mem.1 hy
  rw[←e]
  exact cs_mem.2 (fl_mem.2 ⟨this.1,h y this.1 this.2⟩)
theorem wy4 (p:PT) (hx:∀r∈p.1,r.length≤4294967296):V25 big p=some (tv (Good p),()):=by
 unfold V25 w2y
 by_cases hl:p.1.length≤10
 ·generalize hn:p.1.length=n
  rw[cdf (by omega)]
  refine xlj n (fun i=>∀j,j<i→∀(h:j<p.1.length),isSetB n p.1[j]=true∧leP p j j=true) (by omega) ?_ ?_ 0 (by omega) (by intro j hj;omega)
  ·intro rc i hi hv ih
   have hip:i<p.1.length:=by omega
   have hrow:=hx _ (List.getElem_mem hip)
   have hle:∀a,leP p a i=decide ((a:Int)∈p.1[i]):=by intro a;unfold leP;simp[hip]
   unfold wh4
   rw[cdt (by omega),jf _ i hip,obS,wr (by omega) (by omega),wtc n _ (by omega) (by omega),obS]
   cases h1:isSetB n p.1[i] with
   | false =>
    rw[tv_f fun h=>by have:=h.rows _ (List.getElem_mem hip);rw[hn,h1]at this;cases this]
    rfl
   | true =>
    rw[Bool.not_true,cond_false,obS,wb9 _ _ hrow,obS,←hle]
    cases h2:leP p i i with
    | false =>
     rw[tv_f fun h=>by have:=h.ord.refl i hip;rw[h2]at this;cases this]
     rfl
    | true =>
     rw[Bool.not_true,cond_false,wr1 (by omega)]
     refine ih fun j hj hjp => ?_
     rcases Nat.lt_or_ge j i with h|h
     ·exact hv j h hjp
     ·have:j=i:=by omega
      subst this;exact⟨h1,h2⟩
  ·intro rc hv
   unfold wh4
   rw[cdf (by omega),wdq]
   have hrows:∀r∈p.1,isSetB p.1.length r=true:=by
    intro r hr
    obtain⟨j,hj,e⟩:=List.getElem_of_mem hr
    rw[hn]
    exact e▸(hv j (by omega) hj).1
   have hform:=wyz hrows
   have hrefl:∀x,x<n→leP p x x=true:=fun x hxn=>(hv x hxn (by omega)).2
   generalize leP p=le at hform hrefl
   rw[hn]at hform
   subst hform
   rw[qt xfu]
   refine xic n (fun i=>∀x,x<i→∀y,y<n→le y x=true→(y≠x→le x y=false)∧∀z,z<n→le z y=true→le z x=true) (by omega) ?_ ?_ 0 (by omega) (by intro j hj;omega)
   ·intro rc2 i hi hv2 ih2
    unfold wai
    rw[cdt (by omega)]
    have hS:∀a,a∈fl n (fun a=>le a i)↔a<n∧le a i=true:=fun a=>fl_mem
    have hSl:=jh n fun a=>le a i
    refine xid (fl n fun a=>le a i).length (fun k=>∀y∈(fl n fun a=>le a i).take k,(y≠i→le i y=false)∧∀z,z<n→le z y=true→le z i=true) (by omega) ?_ ?_ 0 (by omega) (by simp)
    ·intro rc3 k hk hv3 ih3
     have hk2:=(hS _).1 (List.getElem_mem hk)
     have hk3:=jo hk
     have hk4:∀{P:Nat→Prop},(∀y∈(fl n fun a=>le a i).take (k+1),P y)↔_:=qp hk
     unfold wdr
     generalize (fl n fun a=>le a i)[k]=y at hk2 hk3 hk4
     have hkl:=jh n fun a=>le a y
     simp only[wg1 hi,obS,cs_len,cdt (show(k:Int)<((fl n fun a=>le a i).length:Int) by omega),hk3,wg1 hk2.1,wys (fl n fun a=>le a y) i (by omega),wtb (P:=fun a=>le a y) (Q:=fun a=>le a i) (show n≤4294967296 by omega),wr1 (show k≤4611686018427387904 by omega)]
     have e1:decide (i∈fl n fun a=>le a y)=le i y:=by
      rw[Bool.eq_iff_iff,decide_eq_true_eq,fl_mem];simp[hi]
     rw[e1]
     have key:(y≠i→le i y=false)→cond (!tv (∀x,x<n→le x y=true→le x i=true)) (some (false,())) (rc3 (pos n le) (n:Int) (i:Int) ((k+1:Nat):Int))=some (tv (n≤10∧Ord n le),()):=by
      intro h1
      by_cases h2:∀x,x<n→le x y=true→le x i=true
      ·rw[tv_t h2]
       exact ih3 (hk4.2 ⟨hv3,h1,h2⟩)
      ·rw[tv_f h2,tv_f fun h=>h2 fun x hxn h3=>h.2.trans _ _ _ hxn hk2.1 hi h3 hk2.2]
       rfl
     by_cases h1:y=i
     ·rw[cdf (by omega)]
      exact key fun h=>absurd h1 h
     ·rw[cdt (by omega)]
      cases h2:le i y with
      | true =>
       rw[tv_f (P:=n≤10∧Ord n le) fun h=>by rw[h.2.anti _ _ hk2.1 hi h1 hk2.2]at h2;cases h2]
       rfl
      | false =>
       rw[cond_false]
       exact key fun _=>h2
    ·intro rc3 hv3
     rw[List.take_length]at hv3
     unfold wdr
     rw[wg1 hi,obS,cs_len,cdf (by omega),wah,wr1 (by omega)]
     exact ih2 (all_lt_succ.2 ⟨hv2,fun y hy hyi=>hv3 y ((hS y).2 ⟨hy,hyi⟩)⟩)
   ·intro rc2 hv2
    unfold wai
    rw[cdf (by omega),xp,tv_t]
    refine⟨by rw[wb]at hl;exact hl,fun x hx=>hrefl x hx,fun x y hx hy hxy h=>((hv2 y hy x hx h).1 hxy),fun x y z hx hy hz h1 h2=>(hv2 z hz y hy h2).2 x hx h1⟩
 ·rw[cdt (by omega),tv_f fun h=>hl h.len]
abbrev du (le:Nat→Nat→Bool):Nat→Nat→Bool:=fun x y=>le y x
def low (n:Nat) (le:Nat→Nat→Bool) (S:List Nat):List Nat:=fl n fun z=>S.all fun s=>le z s
def grt (le:Nat→Nat→Bool) (L:List Nat):Int:=match L.find? fun x=>L.all fun y=>le y x with
 | some x=>(x:Int)
 | none => -1
def bnd (n:Nat) (le:Nat→Nat→Bool) (S:List Nat):Int:=grt le (low n le S)
structure IsGlb (n:Nat) (le:Nat→Nat→Bool) (S:List Nat) (m:Nat):Prop where
 lt:m<n
 lo:∀s∈S,le m s=true
 gr:∀z,z<n→(∀s∈S,le z s=true)→le z m=true
theorem low_mem {n:Nat}{le:Nat→Nat→Bool}{S:List Nat}{z:Nat}:z∈low n le S↔z<n∧∀s∈S,le z s=true:=by
 unfold low
 rw[fl_mem,List.all_eq_true]
theorem wrk {n:Nat}{le:Nat→Nat→Bool}{S:List Nat}(h:0≤bnd n le S):IsGlb n le S (bnd n le S).toNat:=by
 unfold bnd grt at *
 cases hf:(low n le S).find? fun x=>(low n le S).all fun y=>le y x with
 | none=>rw[hf]at h;exact absurd h (by decide)
 | some x =>
  have h1:=List.find?_some hf
  have h2:=low_mem.1 (List.mem_of_find?_eq_some hf)
  simp only[Int.toNat_natCast]
  exact⟨h2.1,h2.2,fun z hz hs=>List.all_eq_true.1 h1 z (low_mem.2 ⟨hz,hs⟩)⟩
theorem w5l {n:Nat}{le:Nat→Nat→Bool}(ho:Ord n le){S:List Nat}{m k:Nat}(h:IsGlb n le S m) (h2:IsGlb n le S k):m=k:=by
 by_cases e:m=k
 ·exact e
 ·have h3:=h.gr k h2.lt h2.lo
  have h4:=h2.gr m h.lt h.lo
  have:=ho.anti m k h.lt h2.lt e h4
  rw[this]at h3;cases h3
theorem zv {n:Nat}{le:Nat→Nat→Bool}(ho:Ord n le){S:List Nat}{m:Nat}(h:IsGlb n le S m):bnd n le S=(m:Int):=by
 have h0:0≤bnd n le S:=by
  unfold bnd grt
  cases hf:(low n le S).find? fun x=>(low n le S).all fun y=>le y x with
  | none =>
   have:=List.find?_eq_none.1 hf m (low_mem.2 ⟨h.lt,h.lo⟩)
   exact absurd (List.all_eq_true.2 fun y hy=>h.gr y (low_mem.1 hy).1 (low_mem.1 hy).2) this
  | some x=>simp
 have:=w5l ho (wrk h0) h
 omega
theorem wzd {n:Nat}{le:Nat→Nat→Bool}{L:List Nat}(hL:∀x∈L,x<n) (hl:L.length≤4294967296):V46 big (mkT n le) (cs L)=some (grt le L,()):=by
 unfold V46 w3m
 rw[cs_len]
 refine xl1 L.length (fun i=>∀x∈L.take i,¬(L.all fun y=>le y x)=true) (by omega) ?_ ?_ 0 (by omega) (by simp)
 ·intro rc i hi hv ih
  have hx:=hL _ (List.getElem_mem hi)
  have hh := @jgo _ L (fun x=>L.all fun y=>le y x) i hi hv
  have hn:=fun h=>ih ((qp hi).2 ⟨hv,h⟩)
  unfold wep
  rw[cdt (by omega),jo hi,obS,cs_len]
  generalize L[i]=x at hx hh hn
  refine xl2 L.length (fun k b=>b=(L.take k).all fun y=>le y x) (by omega) ?_ ?_ 0 (by omega) _ rfl
  ·intro rc2 k b hk hb ih2
   have hy:=hL _ (List.getElem_mem hk)
   have ht := @jd9 _ L k hk fun y=>le y x
   have ha:=jo hk
   unfold wiz
   rw[cdt (by omega),ha,obS,wr1 (by omega)]
   generalize L[k]=y at hy ht
   cases b with
   | false=>exact ih2 _ (by rw[ht,←hb];rfl)
   | true =>
    rw[cond_true,jd hy,obS,jd hx,obS]
    exact ih2 _ (by rw[ht,←hb];rfl)
  ·intro rc2 b hb
   rw[List.take_length]at hb
   unfold wiz
   rw[cdf (by omega),weo,hb]
   cases h:L.all fun y=>le y x with
   | true =>
    rw[cond_true]
    unfold grt
    rw[hh h]
   | false =>
    rw[cond_false,wr1 (by omega)]
    exact hn (by rw[h];simp)
 ·intro rc hv
  rw[List.take_length]at hv
  unfold wep
  rw[cdf (by omega),y6]
  unfold grt
  rw[List.find?_eq_none.2 hv]
theorem low2 {n:Nat}{le:Nat→Nat→Bool}{x y:Nat}:low n le [x,y]=fl n fun z=>le z x&&le z y:=by
 unfold low
 congr 1;funext z;simp
theorem w5w {n:Nat}{le:Nat→Nat→Bool}(hn:n≤1048576){x y:Nat}(hx:x<n) (hy:y<n):V48 big (mkT n le) (mkT n le,(x:Int),(y:Int),())=some (cs (low n le [x,y]),()):=by
 unfold V48 w3n
 rw[mkR_len,low2]
 refine xl3 n (fun i l=>l=cs (fl i fun z=>le z x&&le z y)) (by omega) ?_ ?_ 0 (by omega) _ rfl
 ·intro rc i l hi hv ih
  have hl:=jh i fun z=>le z x&&le z y
  unfold wi1 V47 xgg
  simp only[cdt (show(i:Int)<(n:Int) by omega),jd hi,jd hx,jd hy,obS,wr1 (show i≤4611686018427387904 by omega)]
  cases h1:le i x with
  | false=>exact ih _ (by rw[hv];exact fl_f (P:=fun z=>le z x&&le z y) (by simp[h1]))
  | true =>
   simp only[cond_true,obS]
   cases h2:le i y with
   | false=>exact ih _ (by rw[hv];exact fl_f (P:=fun z=>le z x&&le z y) (by simp[h1,h2]))
   | true =>
    rw[cond_true,app1 (by rw[hv,cs_len];omega),obS]
    exact ih _ (by rw[hv];exact fl_t (P:=fun z=>le z x&&le z y) (by simp[h1,h2]))
 ·intro rc l hv
  unfold wi1
  rw[cdf (by omega),weq,hv]
theorem xeh {n:Nat}{le:Nat→Nat→Bool}{S:List Nat}:∀x∈low n le S,x<n:=fun x hx=>(low_mem.1 hx).1
theorem w1z {n:Nat}{le:Nat→Nat→Bool}{S:List Nat}:(low n le S).length≤n:=jh _ _
theorem x8 {n:Nat}{le:Nat→Nat→Bool}(hn:n≤1048576):V49 big (mkT n le)=some (@ite _ (∀x y,x<n→y<n→0≤bnd n le [x,y]) (Classical.propDecidable _) (mkT n fun x y=>bnd n le [x,y],true,()) ([],false,()),()):=by
 unfold V49 w3p
 rw[mkR_len]
 refine xl4 n (fun i t=>t=(mkR i fun x=>mkR n fun y=>bnd n le [x,y])∧∀x,x<i→∀y,y<n→0≤bnd n le [x,y]) (by omega) ?_ ?_ 0 (by omega) _ ⟨rfl,by intro x hx;omega⟩
 ·intro rc i t hi hv ih
  unfold wet
  rw[cdt (by omega),mkR_len]
  refine xl5 n (fun j r=>r=(mkR j fun y=>bnd n le [i,y])∧∀y,y<j→0≤bnd n le [i,y]) (by omega) ?_ ?_ 0 (by omega) _ ⟨rfl,by intro x hx;omega⟩
  ·intro rc2 j r hj hr ih2
   unfold wi4
   rw[cdt (by omega),w5w hn hi hj,obS,wzd xeh (by have := @w1z n le [i,j];omega),obS]
   show cond (decide (bnd n le [i,j]<0)) _ ((appI r [bnd n le [i,j]]).bind _)=_
   by_cases h:0≤bnd n le [i,j]
   ·rw[cdf (by omega),app1 (by rw[hr.1,mkR_len];omega),obS,wr1 (by omega)]
    exact ih2 _ ⟨by rw[hr.1];exact(jv j _).symm,all_lt_succ.2 ⟨hr.2,h⟩⟩
   ·rw[cdt (by omega),if_neg fun h2=>h (h2 i j hi hj)]
  ·intro rc2 r hr
   unfold wi4
   rw[cdf (by omega),wes,app1 (by rw[hv.1,mkR_len];omega),obS,wr1 (by omega)]
   refine ih _ ⟨?_,all_lt_succ.2 ⟨hv.2,hr.2⟩⟩
   rw[hv.1,hr.1]
   exact(jv i fun x=>mkR n fun y=>bnd n le [x,y]).symm
 ·intro rc t hv
  unfold wet
  rw[cdf (by omega),y7,if_pos fun x y hx hy=>hv.2 x hx y hy,hv.1]
theorem w1w {n:Nat}{le:Nat→Nat→Bool}(hn:n≤1048576):V50 big (mkT n le)=some (mkT n (du le),()):=by
 unfold V50 w3q
 rw[mkR_len,wmo (by omega),obS]
 refine xl6 n (fun i d=>d=mkT n fun a b=>decide (a<i)&&le b a) (by omega) ?_ ?_ 0 (by omega) _ (jx fun a b _ _=>by simp)
 ·intro rc i d hi hv ih
  unfold wew
  rw[cdt (by omega),mkR_len]
  refine xl7 n (fun j d=>d=mkT n fun a b=>(decide (a<i)||decide (a=i)&&decide (b<j))&&le b a) (by omega) ?_ ?_ 0 (by omega) _ (by rw[hv];exact jx fun a b _ _=>by simp)
  ·intro rc2 j d2 hj hv2 ih2
   unfold wi7
   generalize hf:(fun a b=>(decide (a<i)||decide (a=i)&&decide (b<j))&&le b a)=f at hv2
   simp only[cdt (show(j:Int)<(n:Int) by omega),hv2,jd hi,ju hi,obS,jd hj,ju hj,Int.toNat_natCast,wr1 (show j≤4611686018427387904 by omega)]
   refine ih2 _ ?_
   rw[w10,←hf]
   refine jx fun a b _ _ => ?_
   by_cases h1:a=i
   ·subst h1
    by_cases h2:b=j
    ·subst h2;simp
    ·rw[if_neg fun h=>h2 h.2,show decide (b<j+1)=decide (b<j) from decide_eq_decide.2 (by omega)]
   ·rw[if_neg fun h=>h1 h.1];simp[h1]
  ·intro rc2 d2 hv2
   unfold wi7
   rw[cdf (by omega),wev,wr1 (by omega)]
   refine ih _ ?_
   rw[hv2]
   refine jx fun a b _ hb => ?_
   congr 1
   rw[decide_eq_true hb,Bool.and_true,←Bool.decide_or]
   exact decide_eq_decide.2 (by omega)
 ·intro rc d hv
  unfold wew
  rw[cdf (by omega),y8,hv]
  congr 2
  exact jx fun a b ha _=>by simp[ha]
structure Lat (n:Nat) (le:Nat→Nat→Bool):Prop where
 ne:0<n
 meet:∀x y,x<n→y<n→0≤bnd n le [x,y]
 join:∀x y,x<n→y<n→0≤bnd n (du le) [x,y]
def mt (n:Nat) (le:Nat→Nat→Bool) (x y:Nat):Nat:=(bnd n le [x,y]).toNat
def gb (n:Nat) (le:Nat→Nat→Bool) (S:List Nat):Nat:=(bnd n le S).toNat
def lat (n:Nat) (le:Nat→Nat→Bool):List (List Bool)×List (List Int)×List (List Int)×Unit :=
 (mkT n le,mkT n (fun x y=>((mt n le x y:Nat):Int)),mkT n (fun x y=>((mt n (du le) x y:Nat):Int)),())
structure LatP (n:Nat) (le:Nat→Nat→Bool):Prop where
 le10:n≤10
 ord:Ord n le
 lat:Lat n le
theorem xm {n:Nat}{le:Nat→Nat→Bool}(h:LatP n le):V51 (pos n le)=some ((some (lat n le),true,()),()):=by
 have h10:=h.le10
 have h0:=h.lat.ne
 unfold V51 wtn
 simp only[wmp h.le10 h.ord,obS,Bool.not_true,cond_false,mkR_len,cdf (show ¬((n:Int)=0) by omega),x8 (le:=le) (show n≤1048576 by omega),w1w (le:=le) (show n≤1048576 by omega),x8 (le:=du le) (show n≤1048576 by omega)]
 rw[if_pos h.lat.meet,if_pos h.lat.join]
 simp only[cond_true]
 have e1:(mkT n fun x y=>bnd n le [x,y])=mkT n fun x y=>((mt n le x y:Nat):Int):=jx fun x y hx hy=>by
  have:=h.lat.meet x y hx hy
  unfold mt;omega
 have e2:(mkT n fun x y=>bnd n (du le) [x,y])=mkT n fun x y=>((mt n (du le) x y:Nat):Int):=jx fun x y hx hy=>by
  have:=h.lat.join x y hx hy
  unfold mt;omega
 rw[e1,e2]
 rfl
theorem wyt {p:PT}(hx:∀r∈p.1,r.length≤4294967296) (h:¬(Good p∧Lat p.1.length (leP p))):∃l,V51 p=some ((l,false,()),()):=by
 by_cases hg:Good p
 ·have hf:=hg.form
  have ho:=hg.ord
  have h10:=hg.len
  replace h:¬Lat p.1.length (leP p):=fun hl=>h ⟨hg,hl⟩
  generalize p.1.length=n at *
  generalize leP p=le at *
  subst hf
  unfold V51 wtn
  simp only[wmp h10 ho,obS,Bool.not_true,cond_false,mkR_len,x8 (le:=le) (show n≤1048576 by omega),w1w (le:=le) (show n≤1048576 by omega),x8 (le:=du le) (show n≤1048576 by omega)]
  by_cases h0:n=0
  ·rw[cdt (by omega)]
   exact⟨_,rfl⟩
  ·rw[cdf (by omega)]
   by_cases h1:∀x y,x<n→y<n→0≤bnd n le [x,y]
   ·rw[if_pos h1]
    by_cases h2:∀x y,x<n→y<n→0≤bnd n (du le) [x,y]
    ·exact absurd ⟨by omega,h1,h2⟩ h
    ·rw[if_neg h2]
     exact⟨_,rfl⟩
   ·rw[if_neg h1]
    exact⟨_,rfl⟩
 ·obtain⟨T,hT⟩:=w5s p hx hg
  unfold V51 wtn
  rw[hT,obS]
  exact⟨_,rfl⟩
theorem wca {n:Nat}{le:Nat→Nat→Bool}(hn:n≤1048576):V26 big (pos n le)=some (pos n (du le),()):=by
 unfold V26 w2z
 refine xlk n (fun i o=>o.1=mkR i fun y=>cs (fl n fun x=>le y x)) (by omega) ?_ ?_ 0 (by omega) _ rfl
 ·intro rc i o hi hv ih
  unfold wdu
  rw[wb,cdt (by omega)]
  refine xll n (fun j l=>l=cs (fl j fun x=>le i x)) (by omega) ?_ ?_ 0 (by omega) _ rfl
  ·intro rc2 j l hj hl ih2
   have hlen:=jh j fun x=>le i x
   unfold wh7
   rw[wb,cdt (by omega),wo (by omega) hi hj,obS,wr1 (by omega)]
   cases h:le i j with
   | true =>
    rw[cond_true,app1 (by rw[hl,cs_len];omega),obS]
    exact ih2 _ (by rw[hl];exact fl_t (P:=fun x=>le i x) h)
   | false=>exact ih2 _ (by rw[hl];exact fl_f (P:=fun x=>le i x) h)
  ·intro rc2 l hl
   unfold wh7
   rw[wb,cdf (by omega),wdt,app1 (by rw[hv,mkR_len];omega),obS,wr1 (by omega)]
   exact ih _ (by rw[hl];show o.1++_=_;rw[hv];exact(jv i fun y=>cs (fl n fun x=>le y x)).symm)
 ·intro rc o hv
  unfold wdu
  rw[wb,cdf (by omega),yt]
  unfold pos
  congr 2
  exact Prod.ext hv rfl
theorem xd {n:Nat}{le:Nat→Nat→Bool}(hn:n≤1048576){S:List Nat}(hS:∀s∈S,s<n) (hSl:S.length≤4294967296):V27 big (pos n le) (cs S)=some (bnd n le S,()):=by
 unfold V27 w21
 refine xlm n (fun i l=>l=cs (fl i fun z=>S.all fun s=>le z s)) (by omega) ?_ ?_ 0 (by omega) _ rfl
 ·intro rc i l hi hv ih
  have hlen:=jh i fun z=>S.all fun s=>le z s
  unfold wdz
  rw[wb,cdt (by omega)]
  refine xln S.length (fun k b=>b=(S.take k).all fun s=>le i s) (by omega) ?_ ?_ 0 (by omega) _ rfl
  ·intro rc2 k b hk hb ih2
   have hs:=hS _ (List.getElem_mem hk)
   have ht := @jd9 _ S k hk fun s=>le i s
   have ha:=jo hk
   unfold wia
   rw[cs_len,cdt (by omega),ha,obS,wr1 (by omega)]
   generalize S[k]=s at hs ht
   rw[wo (by omega) hi hs,obS]
   cases b with
   | true=>exact ih2 _ (by rw[ht,←hb];rfl)
   | false=>exact ih2 _ (by rw[ht,←hb];rfl)
  ·intro rc2 b hb
   rw[List.take_length]at hb
   unfold wia
   rw[cs_len,cdf (by omega),wdx,wr1 (by omega)]
   cases b with
   | true =>
    rw[cond_true,app1 (by rw[hv,cs_len];omega),obS]
    exact ih _ (by rw[hv];exact fl_t (P:=fun z=>S.all fun s=>le z s) hb.symm)
   | false=>exact ih _ (by rw[hv];exact fl_f (P:=fun z=>S.all fun s=>le z s) hb.symm)
 ·intro rc l hv
  unfold wdz
  rw[wb,cdf (by omega),yu]
  replace hv:l=cs (low n le S):=hv
  rw[hv]
  have hll := @w1z n le S
  unfold bnd
  have hlt := @xeh n le S
  have hfl:low n le S=fl n fun z=>S.all fun s=>le z s:=rfl
  have hw:∀x,x<n→V24 big (cs (low n le S)) (cs (fl n fun a=>le a x))=some ((low n le S).all fun y=>le y x,()):=by
   intro x hx
   rw[hfl,wtb (by omega),←hfl]
   congr 2
   exact jba (by rw[List.all_eq_true];exact⟨fun h y hy hp=>h y (fl_mem.2 ⟨hy,hp⟩),fun h y hy=>h y (fl_mem.1 hy).1 (fl_mem.1 hy).2⟩)
  generalize low n le S=L at *
  refine xih L.length (fun i=>∀x∈L.take i,¬(L.all fun y=>le y x)=true) (by omega) ?_ ?_ 0 (by omega) (by simp)
  ·intro rc2 i hi hv2 ih2
   have hx:=hlt _ (List.getElem_mem hi)
   have hh := @jgo _ L (fun x=>L.all fun y=>le y x) i hi hv2
   have hn2:=fun h=>ih2 ((qp hi).2 ⟨hv2,h⟩)
   have ha:=jo hi
   have hg:=jz hi
   unfold wdy
   simp only[cs_len,cdt (show(i:Int)<(L.length:Int) by omega),ha,obS,Int.toNat_natCast,hg,wr1 (show i≤4611686018427387904 by omega)]
   generalize L[i]=x at hx hh hn2
   rw[wg1 hx,obS,hw x hx,obS]
   cases h:L.all fun y=>le y x with
   | true =>
    rw[cond_true]
    unfold grt
    rw[hh h]
   | false =>
    rw[cond_false]
    exact hn2 (by rw[h];simp)
  ·intro rc2 hv2
   rw[List.take_length]at hv2
   unfold wdy
   rw[cs_len,cdf (by omega),waj]
   unfold grt
   rw[List.find?_eq_none.2 hv2]
theorem wha {n:Nat}{le:Nat→Nat→Bool}(x y:Nat):bnd n le [x,y]=bnd n le [y,x]:=by
 unfold bnd
 congr 1
 unfold low
 congr 1;funext z;simp[Bool.and_comm]
theorem Ord.du {n:Nat}{le:Nat→Nat→Bool}(h:Ord n le):Ord n (du le) where
 refl:=h.refl
 anti x y hx hy hxy h1:=by
  have h3:le y x=true:=h1
  show le x y=false
  by_cases h2:le x y=true
  ·rw[h.anti x y hx hy hxy h2]at h3;cases h3
  ·simpa using h2
 trans x y z hx hy hz h1 h2:=h.trans z y x hz hy hx h2 h1
theorem wmu {n:Nat}{le:Nat→Nat→Bool}(ho:Ord n le){x:Nat}(hx:x<n):bnd n le [x,x]=(x:Int) :=
 zv ho ⟨hx,by simp[ho.refl x hx],fun z _ h=>h x (by simp)⟩
theorem wta (p:PT) (hx:∀r∈p.1,r.length≤4294967296):V28 big p=some (tv (Good p∧Lat p.1.length (leP p)),()):=by
 unfold V28 w22
 rw[wy4 p hx,obS]
 by_cases hg:Good p
 ·rw[tv_t hg]
  have e:(Good p∧Lat p.1.length (leP p))↔Lat p.1.length (leP p):=⟨fun h=>h.2,fun h=>⟨hg,h⟩⟩
  rw[qt e,Bool.not_true,cond_false]
  have hf:=hg.form
  have ho:=hg.ord
  have h10:=hg.len
  clear e hg hx
  generalize p.1.length=n at *
  generalize leP p=le at *
  subst hf
  by_cases h0:n=0
  ·rw[cdt (by omega),tv_f fun h=>by have:=h.ne;omega]
  ·rw[cdf (by omega),wca (by omega),obS]
   have key:∀x y,x<n→y<n→(0≤bnd n le [x,y]↔0≤bnd n le [y,x]):=fun x y _ _=>by rw[wha]
   refine xlo n (fun i=>∀x,x<i→∀y,y<x→0≤bnd n le [x,y]∧0≤bnd n (du le) [x,y]) (by omega) ?_ ?_ 0 (by omega) (by intro x hx;omega)
   ·intro rc i hi hv ih
    unfold wd2
    rw[wb,cdt (by omega)]
    refine xlp i (fun j=>∀y,y<j→0≤bnd n le [i,y]∧0≤bnd n (du le) [i,y]) (by omega) ?_ ?_ 0 (by omega) (by intro x hx;omega)
    ·intro rc2 j hj hv2 ih2
     unfold wid
     have e:([(i:Int),(j:Int)]:List Int)=cs [i,j]:=rfl
     have hS:∀s∈[i,j],s<n:=by intro s hs;simp at hs;omega
     rw[cdt (by omega),e,xd (by omega) hS (by simp),obS,xd (le:=du le) (by omega) hS (by simp),obS]
     by_cases h1:0≤bnd n le [i,j]
     ·rw[cdf (by omega)]
      by_cases h2:0≤bnd n (du le) [i,j]
      ·rw[cdf (by omega),wr1 (by omega)]
       exact ih2 (all_lt_succ.2 ⟨hv2,h1,h2⟩)
      ·rw[cdt (by omega),tv_f fun h=>h2 (h.join i j hi (by omega))]
     ·rw[cdt (by omega),tv_f fun h=>h1 (h.meet i j hi (by omega))]
    ·intro rc2 hv2
     unfold wid
     rw[cdf (by omega),wd1,wr1 (by omega)]
     exact ih (all_lt_succ.2 ⟨hv,hv2⟩)
   ·intro rc hv
    unfold wd2
    rw[wb,cdf (by omega),yv,tv_t]
    refine⟨by omega,fun x y hx hy => ?_,fun x y hx hy => ?_⟩
    ·rcases Nat.lt_trichotomy x y with h|h|h
     ·rw[wha];exact(hv y hy x h).1
     ·subst h;rw[wmu ho hx];omega
     ·exact(hv x hx y h).1
    ·rcases Nat.lt_trichotomy x y with h|h|h
     ·rw[wha];exact(hv y hy x h).2
     ·subst h;rw[wmu ho.du hx];omega
     ·exact(hv x hx y h).2
 ·rw[tv_f hg,tv_f fun h=>hg h.1]
  rfl
theorem wk8 {p:PT}(hx:∀r∈p.1,r.length≤4294967296):(∃n le,p=pos n le∧LatP n le∧V28 big p=some (true,())∧V51 p=some ((some (lat n le),true,()),())) ∨
  (V28 big p=some (false,())∧∃l,V51 p=some ((l,false,()),())):=by
 by_cases h:Good p∧Lat p.1.length (leP p)
 ·have hl:LatP p.1.length (leP p):=⟨h.1.len,h.1.ord,h.2⟩
  refine .inl ⟨p.1.length,leP p,h.1.form,hl,by rw[wta p hx,tv_t h], ?_⟩
  have:=xm hl
  rw[←h.1.form]at this
  exact this
 ·exact .inr ⟨by rw[wta p hx,tv_f h],wyt hx h⟩
theorem x5 {n:Nat}{o:List (List Bool)}(ho:o.length=n) (hn:n≤1048576){c:((Option ((List (List Bool))×((List (List Int))×((List (List Int))×Unit))))×Unit)}{P:Nat→Bool}(h:∀i,i<n→V60 (i:Int) c.1=some (P i,())):V61 big o c=some (cs (fl n P),()):=by
 unfold V61 w31
 rw[ho]
 refine xmf n (fun i l=>l=cs (fl i P)) (by omega) ?_ ?_ 0 (by omega) _ rfl
 ·intro rc i l hi hv ih
  have hl:=jh i P
  unfold wjj
  rw[cdt (by omega),h i hi,obS,wr1 (by omega)]
  cases hp:P i with
  | true=>rw[cond_true,app1 (by rw[hv,cs_len];omega),obS];exact ih _ (by rw[hv];exact fl_t hp)
  | false=>exact ih _ (by rw[hv];exact fl_f hp)
 ·intro rc l hv
  unfold wjj
  rw[cdf (by omega),we5,hv]
theorem zw {n:Nat}{o:List (List Bool)}(ho:o.length=n) (hn:n≤1048576){c:((Option ((List (List Bool))×((List (List Int))×((List (List Int))×Unit))))×(Int×(Int×(Int×Unit))))}{P:Nat→Bool}(h:∀i,i<n→V56 (i:Int) c.1 c.2.1 c.2.2.1 c.2.2.2.1=some (P i,())):V57 big o c=some (cs (fl n P),()):=by
 unfold V57 w3x
 rw[ho]
 refine xmd n (fun i l=>l=cs (fl i P)) (by omega) ?_ ?_ 0 (by omega) _ rfl
 ·intro rc i l hi hv ih
  have hl:=jh i P
  unfold wjh
  rw[cdt (by omega),h i hi,obS,wr1 (by omega)]
  cases hp:P i with
  | true=>rw[cond_true,app1 (by rw[hv,cs_len];omega),obS];exact ih _ (by rw[hv];exact fl_t hp)
  | false=>exact ih _ (by rw[hv];exact fl_f hp)
 ·intro rc l hv
  unfold wjh
  rw[cdf (by omega),we4,hv]
theorem zt {n:Nat}{o:List (List Bool)}(ho:o.length=n) (hn:n≤1048576){c:((List (List Bool))×(Int×Unit))}{P:Nat→Bool}(h:∀i,i<n→V68 (i:Int) c.1 c.2.1=some (P i,())):V69 big o c=some (cs (fl n P),()):=by
 unfold V69 w36
 rw[ho]
 refine xmh n (fun i l=>l=cs (fl i P)) (by omega) ?_ ?_ 0 (by omega) _ rfl
 ·intro rc i l hi hv ih
  have hl:=jh i P
  unfold wjn
  rw[cdt (by omega),h i hi,obS,wr1 (by omega)]
  cases hp:P i with
  | true=>rw[cond_true,app1 (by rw[hv,cs_len];omega),obS];exact ih _ (by rw[hv];exact fl_t hp)
  | false=>exact ih _ (by rw[hv];exact fl_f hp)
 ·intro rc l hv
  unfold wjn
  rw[cdf (by omega),we7,hv]
def SmallP (p:PT):Prop:=p.1.length≤1048576∧∀r∈p.1,r.length≤1048576
theorem SmallP.rows {p:PT}(h:SmallP p):∀r∈p.1,r.length≤4294967296:=fun r hr=>by have:=h.2 r hr;omega
def ls (le:Nat→Nat→Bool) (x y:Nat):Bool:=decide (x≠y)&&le x y
def cov (n:Nat) (le:Nat→Nat→Bool) (x y:Nat):Bool:=ls le x y&&(List.range n).all fun z => !(ls le x z&&ls le z y)
theorem wsu {n:Nat}{le:Nat→Nat→Bool}{x y:Nat}(hx:x<n) (hy:y<n):V66 (mkT n le) (x:Int) (y:Int)=some (ls le x y,()):=by
 unfold V66 xgr ls
 simp only[jd hx,jd hy,obS]
 by_cases h:x=y
 ·rw[cdf (by omega),decide_eq_false (by omega)];rfl
 ·rw[cdt (by omega),decide_eq_true h];rfl
theorem wcn {n:Nat}{le:Nat→Nat→Bool}(hn:n≤4294967296){x y:Nat}(hx:x<n) (hy:y<n):V16 (pos n le) (x:Int) (y:Int)=some (ls le x y,()):=by
 unfold V16 xf7 ls
 rw[wo hn hx hy,obS]
 by_cases h:x=y
 ·rw[cdf (by omega),decide_eq_false (by omega)];rfl
 ·rw[cdt (by omega),decide_eq_true h];rfl
theorem wt6 {n:Nat}{le:Nat→Nat→Bool}{x y:Nat}(h:ls le x y=true) (h2:∀z,z<n→¬(ls le x z=true∧ls le z y=true)):cov n le x y=true:=by
 unfold cov
 rw[h,Bool.true_and,List.all_eq_true]
 intro z hz
 have:=h2 z (List.mem_range.1 hz)
 cases h3:ls le x z<;>cases h4:ls le z y<;>simp_all
theorem wt5 {n:Nat}{le:Nat→Nat→Bool}{x y z:Nat}(hz:z<n) (h1:ls le x z=true) (h2:ls le z y=true):cov n le x y=false:=by
 unfold cov
 rw[Bool.and_eq_false_iff]
 refine .inr (List.all_eq_false.2 ⟨z,List.mem_range.2 hz,by simp[h1,h2]⟩)
theorem xd8 {n:Nat}{le:Nat→Nat→Bool}(hn:n≤1048576){x y:Nat}(hx:x<n) (hy:y<n):V67 big (mkT n le) (x:Int) (y:Int)=some (cov n le x y,()):=by
 unfold V67 w34
 rw[wsu hx hy,obS,mkR_len]
 cases h:ls le x y with
 | false=>simp[cov,h]
 | true =>
  rw[Bool.not_true,cond_false]
  refine xmg n (fun i=>∀z,z<i→¬(ls le x z=true∧ls le z y=true)) (by omega) ?_ ?_ 0 (by omega) (by intro z hz;omega)
  ·intro rc i hi hv ih
   unfold wjl
   rw[cdt (by omega),wsu hx hi,obS,wsu hi hy,obS,wr1 (by omega)]
   cases h1:ls le x i with
   | false=>exact ih (all_lt_succ.2 ⟨hv,by simp[h1]⟩)
   | true =>
    cases h2:ls le i y with
    | false=>exact ih (all_lt_succ.2 ⟨hv,by simp[h2]⟩)
    | true=>rw[wt5 hi h1 h2];rfl
  ·intro rc hv
   unfold wjl
   rw[cdf (by omega),we6,wt6 h hv]
theorem whj {n:Nat}{le:Nat→Nat→Bool}(hn:n≤1048576){x y:Nat}(hx:x<n) (hy:y<n):V17 big (pos n le) (x:Int) (y:Int)=some (cov n le x y,()):=by
 unfold V17 w2l
 rw[wcn (by omega) hx hy,obS]
 cases h:ls le x y with
 | false=>simp[cov,h]
 | true =>
  rw[Bool.not_true,cond_false]
  refine xlc n (fun i=>∀z,z<i→¬(ls le x z=true∧ls le z y=true)) (by omega) ?_ ?_ 0 (by omega) (by intro z hz;omega)
  ·intro rc i hi hv ih
   unfold whs
   rw[wb,cdt (by omega),wcn (by omega) hx hi,obS,wcn (by omega) hi hy,obS,wr1 (by omega)]
   cases h1:ls le x i with
   | false=>exact ih (all_lt_succ.2 ⟨hv,by simp[h1]⟩)
   | true =>
    cases h2:ls le i y with
    | false=>exact ih (all_lt_succ.2 ⟨hv,by simp[h2]⟩)
    | true=>rw[wt5 hi h1 h2];rfl
  ·intro rc hv
   unfold whs
   rw[wb,cdf (by omega),wdh,wt6 h hv]
theorem wrl {n:Nat}{le:Nat→Nat→Bool}(s:List Int) (h:s.length≤4294967296):V77 (mkT n le) s=some (s.all (inB n),()):=by
 unfold V77 xgw
 rw[mkR_len,zr n s (by omega)];rfl
theorem xfv {n:Nat}{x:Int}(h:inB n x=true):∃k:Nat,k<n∧x=(k:Int):=by
 unfold inB at h
 rw[decide_eq_true_eq]at h
 exact⟨x.toNat,by omega,by omega⟩
theorem xx {n:Nat}:∀{s:List Int},s.all (inB n)=true→∃S:List Nat,s=cs S∧∀x∈S,x<n
 | [],_=>⟨[],rfl,by simp⟩
 | x::s,h=>by
  rw[List.all_cons,Bool.and_eq_true]at h
  obtain⟨k,hk,e⟩:=xfv h.1
  obtain⟨S,hS,h2⟩:=xx h.2
  exact⟨k::S,by rw[hS,e];rfl,by simpa using ⟨hk,h2⟩⟩
def irr (n:Nat) (le:Nat→Nat→Bool) (j:Nat):Bool:=decide ((fl n fun x=>cov n le x j).length=1)
theorem x9 {n:Nat}{le:Nat→Nat→Bool}(hn:n≤1048576):V81 big (pos n le)=some (cs (fl n fun j=>irr n le j),()):=by
 unfold V81 w4f
 refine xmr n (fun i l=>l=cs (fl i fun j=>irr n le j)) (by omega) ?_ ?_ 0 (by omega) _ rfl
 ·intro rc i l hi hv ih
  unfold wfs
  rw[wb,cdt (by omega)]
  refine xms n (fun k c=>c=((fl k fun x=>cov n le x i).length:Int)) (by omega) ?_ ?_ 0 (by omega) _ rfl
  ·intro rc2 k c hk hc ih2
   have hl:=jh k fun x=>cov n le x i
   unfold wjz
   rw[wb,cdt (by omega),whj hn hk hi,obS,hc,wr1 (i:=k) (by omega)]
   cases h:cov n le k i with
   | true =>
    rw[cond_true,wr1 (by omega)]
    refine ih2 _ ?_
    rw[qi,if_pos h,List.length_append];rfl
   | false =>
    refine ih2 _ ?_
    rw[qi,if_neg (by simp[h])]
  ·intro rc2 c hc
   have hl:=jh i fun j=>irr n le j
   unfold wjz
   rw[wb,cdf (by omega),wfr,wr1 (by omega),hc]
   by_cases h:(fl n fun x=>cov n le x i).length=1
   ·rw[cdt (by omega),app1 (by rw[hv,cs_len];omega),obS]
    exact ih _ (by rw[hv];exact fl_t (P:=fun j=>irr n le j) (decide_eq_true h))
   ·rw[cdf (by omega)]
    exact ih _ (by rw[hv];exact fl_f (P:=fun j=>irr n le j) (decide_eq_false h))
 ·intro rc l hv
  unfold wfs
  rw[wb,cdf (by omega),zg,hv]
theorem xfs {n:Nat}{P:Nat→Bool}(h:0<(fl n P).length):P (fl n P)[0]=true∧(fl n P)[0]<n∧∀i,i<(fl n P)[0]→P i=false:=by
 have h0:=fl_mem.1 (List.getElem_mem h)
 refine⟨h0.2,h0.1,fun i hi => ?_⟩
 cases hp:P i with
 | false=>rfl
 | true =>
  have hm:i∈fl n P:=fl_mem.2 ⟨by omega,hp⟩
  have hpw:(fl n P).Pairwise (·<·):=List.Pairwise.filter _ List.pairwise_lt_range
  obtain⟨k,hk,e⟩:=List.getElem_of_mem hm
  rcases Nat.eq_zero_or_pos k with h1|h1
  ·subst h1;omega
  ·have:=List.pairwise_iff_getElem.1 hpw 0 k h hk h1
   omega
theorem LatP.du {n:Nat}{le:Nat→Nat→Bool}(h:LatP n le):LatP n (du le):=⟨h.le10,Ord.du h.ord,h.lat.ne,h.lat.join,h.lat.meet⟩
theorem LatP.glb {n:Nat}{le:Nat→Nat→Bool}(h:LatP n le){x y:Nat}(hx:x<n) (hy:y<n):IsGlb n le [x,y] (mt n le x y):=wrk (h.lat.meet x y hx hy)
theorem LatP.bnd2 {n:Nat}{le:Nat→Nat→Bool}(h:LatP n le){x y:Nat}(hx:x<n) (hy:y<n):bnd n le [x,y]=((mt n le x y:Nat):Int):=by
 have:=h.lat.meet x y hx hy
 unfold mt;omega
theorem LatP.mlt {n:Nat}{le:Nat→Nat→Bool}(h:LatP n le){x y:Nat}(hx:x<n) (hy:y<n):mt n le x y<n:=(h.glb hx hy).lt
theorem LatP.m1 {n:Nat}{le:Nat→Nat→Bool}(h:LatP n le){x y:Nat}(hx:x<n) (hy:y<n):le (mt n le x y) x=true:=(h.glb hx hy).lo x (by simp)
theorem LatP.m2 {n:Nat}{le:Nat→Nat→Bool}(h:LatP n le){x y:Nat}(hx:x<n) (hy:y<n):le (mt n le x y) y=true:=(h.glb hx hy).lo y (by simp)
theorem LatP.mg {n:Nat}{le:Nat→Nat→Bool}(h:LatP n le){x y z:Nat}(hx:x<n) (hy:y<n) (hz:z<n) (h1:le z x=true) (h2:le z y=true):le z (mt n le x y)=true :=
 (h.glb hx hy).gr z hz (by simp[h1,h2])
theorem LatP.tr {n:Nat}{le:Nat→Nat→Bool}(h:LatP n le){x y z:Nat}(hx:x<n) (hy:y<n) (hz:z<n) (h1:le x y=true) (h2:le y z=true):le x z=true:=h.ord.trans x y z hx hy hz h1 h2
theorem LatP.as {n:Nat}{le:Nat→Nat→Bool}(h:LatP n le){x y:Nat}(hx:x<n) (hy:y<n) (h1:le x y=true) (h2:le y x=true):x=y:=by
 by_cases e:x=y
 ·exact e
 ·rw[h.ord.anti x y hx hy e h1]at h2;cases h2
theorem wu {n:Nat}{le:Nat→Nat→Bool}(x y:Nat):mt n le x y=mt n le y x:=by unfold mt;rw[wha]
theorem topEx {n:Nat}{le:Nat→Nat→Bool}(h:LatP n le):∃t,IsGlb n le [] t:=by
 have key:∀i,i≤n→∃t,t<n∧∀x,x<i→le x t=true:=by
  intro i
  induction i with
  | zero=>exact fun _=>⟨0,h.lat.ne,by intro x hx;omega⟩
  | succ i ih =>
   intro hi
   obtain⟨t,ht,h1⟩:=ih (by omega)
   have hin:i<n:=by omega
   refine⟨mt n (YtmebolidmeljeaaGreat.du le) t i,h.du.mlt ht hin,all_lt_succ.2 ⟨fun x hx => ?_,h.du.m2 ht hin⟩⟩
   exact h.tr (by omega) ht (h.du.mlt ht hin) (h1 x hx) (h.du.m1 ht hin)
 obtain⟨t,ht,h1⟩:=key n (by omega)
 exact⟨t,ht,by simp,fun z hz _=>h1 z hz⟩
theorem glbEx {n:Nat}{le:Nat→Nat→Bool}(h:LatP n le):∀S:List Nat,(∀s∈S,s<n)→∃m,IsGlb n le S m
 | [],_=>topEx h
 | s::S,hS=>by
  obtain⟨m,hm⟩:=glbEx h S fun x hx=>hS x (by simp[hx])
  have hs:=hS s (by simp)
  refine⟨mt n le s m,h.mlt hs hm.lt,fun x hx => ?_,fun z hz hx => ?_⟩
  ·rcases List.mem_cons.1 hx with rfl|hx'
   ·exact h.m1 hs hm.lt
   ·exact h.tr (h.mlt hs hm.lt) hm.lt (hS x hx) (h.m2 hs hm.lt) (hm.lo x hx')
  ·exact h.mg hs hm.lt hz (hx s (by simp)) (hm.gr z hz fun x hx'=>hx x (by simp[hx']))
theorem LatP.gbs {n:Nat}{le:Nat→Nat→Bool}(h:LatP n le){S:List Nat}(hS:∀s∈S,s<n):IsGlb n le S (gb n le S):=by
 obtain⟨m,hm⟩:=glbEx h S hS
 unfold gb
 rw[zv h.ord hm]
 exact hm
theorem LatP.bnds {n:Nat}{le:Nat→Nat→Bool}(h:LatP n le){S:List Nat}(hS:∀s∈S,s<n):bnd n le S=((gb n le S:Nat):Int):=zv h.ord (h.gbs hS)
theorem xhg {n:Nat}{le:Nat→Nat→Bool}(h:LatP n le){S:List Nat}{m:Nat}(hm:IsGlb n le S m):gb n le S=m:=by
 unfold gb;rw[zv h.ord hm];rfl
theorem noneLt {n:Nat}:∀s∈([]:List Nat),s<n:=fun s hs=>by cases hs
theorem lat1 (n:Nat) (le:Nat→Nat→Bool):(lat n le).1=mkT n le:=rfl
theorem lat2 (n:Nat) (le:Nat→Nat→Bool):(lat n le).2.1=mkT n fun x y=>((mt n le x y:Nat):Int):=rfl
theorem lat3 (n:Nat) (le:Nat→Nat→Bool):(lat n le).2.2.1=mkT n fun x y=>((mt n (du le) x y:Nat):Int):=rfl
theorem xb {n:Nat}{le:Nat→Nat→Bool}(h:LatP n le){x y:Nat}(hx:x<n) (hy:y<n):V30 (pos n le) (x:Int) (y:Int)=some (((mt n le x y:Nat):Int),()):=by
 have:=h.le10
 unfold V30 xgc
 rw[show([(x:Int),(y:Int)]:List Int)=cs [x,y] from rfl,xd (by omega) (by simp[hx,hy]) (by simp),obS,h.bnd2 hx hy]
theorem w5 {n:Nat}{le:Nat→Nat→Bool}(h:LatP n le){x y:Nat}(hx:x<n) (hy:y<n):V29 (pos n le) (x:Int) (y:Int)=some (((mt n (du le) x y:Nat):Int),()):=by
 have:=h.le10
 unfold V29 xgb
 rw[wca (by omega),obS,show([(x:Int),(y:Int)]:List Int)=cs [x,y] from rfl,xd (by omega) (by simp[hx,hy]) (by simp),obS,h.du.bnd2 hx hy]
theorem specBoundL {n:Nat}{le:Nat→Nat→Bool}(h:LatP n le){S:List Nat}(hS:∀s∈S,s<n) (hl:S.length≤4294967296):V27 big (pos n le) (cs S)=some (((gb n le S:Nat):Int),()):=by
 have:=h.le10
 rw[xd (by omega) hS hl,h.bnds hS]
theorem xj {n:Nat}{le:Nat→Nat→Bool}(h:LatP n le):V34 (pos n le)=some (((gb n le []:Nat):Int),()):=by
 unfold V34 xge
 rw[show([]:List Int)=cs [] from rfl,specBoundL h noneLt (by simp)];rfl
theorem wq {n:Nat}{le:Nat→Nat→Bool}(h:LatP n le):V33 (pos n le)=some (((gb n (du le) []:Nat):Int),()):=by
 have:=h.le10
 unfold V33 xgd
 rw[wca (by omega),obS,show([]:List Int)=cs [] from rfl,specBoundL h.du noneLt (by simp)];rfl
theorem wy5 {n:Nat}{le:Nat→Nat→Bool}(h:LatP n le):V55 big (some (lat n le))=some (((gb n le []:Nat):Int),()):=by
 have h10:=h.le10
 unfold V55 w3v
 rw[obS,lat1,mkR_len]
 refine xmc n (fun i t=>∃k:Nat,t=(k:Int)∧k<n∧∀x,x<i→le x k=true) (by omega) ?_ ?_ 0 (by omega) _ ⟨0,rfl,h.lat.ne,by intro x hx;omega⟩
 ·intro rc i t hi hv ih
  obtain⟨k,e,hk,h1⟩:=hv
  subst e
  unfold wjf
  rw[cdt (by omega),obS,lat3,jd hk,obS,jd hi,obS,wr1 (by omega)]
  refine ih _ ⟨mt n (YtmebolidmeljeaaGreat.du le) k i,rfl,h.du.mlt hk hi,all_lt_succ.2 ⟨fun x hx => ?_,h.du.m2 hk hi⟩⟩
  exact h.tr (by omega) hk (h.du.mlt hk hi) (h1 x hx) (h.du.m1 hk hi)
 ·intro rc t hv
  obtain⟨k,e,hk,h1⟩:=hv
  subst e
  unfold wjf
  rw[cdf (by omega),we3,xhg h ⟨hk,by simp,fun z hz _=>h1 z hz⟩]
theorem xy {n:Nat}{le:Nat→Nat→Bool}(h:LatP n le):V54 big (some (lat n le))=some (((gb n (du le) []:Nat):Int),()):=by
 have h10:=h.le10
 unfold V54 w3t
 rw[obS,lat1,mkR_len]
 refine xmb n (fun i t=>∃k:Nat,t=(k:Int)∧k<n∧∀x,x<i→le k x=true) (by omega) ?_ ?_ 0 (by omega) _ ⟨0,rfl,h.lat.ne,by intro x hx;omega⟩
 ·intro rc i t hi hv ih
  obtain⟨k,e,hk,h1⟩:=hv
  subst e
  unfold wjd
  rw[cdt (by omega),obS,lat2,jd hk,obS,jd hi,obS,wr1 (by omega)]
  refine ih _ ⟨mt n le k i,rfl,h.mlt hk hi,all_lt_succ.2 ⟨fun x hx => ?_,h.m2 hk hi⟩⟩
  exact h.tr (h.mlt hk hi) hk (by omega) (h.m1 hk hi) (h1 x hx)
 ·intro rc t hv
  obtain⟨k,e,hk,h1⟩:=hv
  subst e
  unfold wjd
  rw[cdf (by omega),we2,xhg h.du ⟨hk,by simp,fun z hz _=>h1 z hz⟩]
theorem xl (n:Nat) (s:List Int) (hn:n≤1099511627776) (hs:s.length≤4294967296):V7 big (n:Int) s=some (s.all (inB n),()):=by
 unfold V7 V7_s
 refine xnq s.length (fun i=>(s.take i).all (inB n)=true) (by omega) ?_ ?_ 0 (by omega) rfl
 ·intro rc i hi hv ih
  unfold zu
  have e:decide (0≤s[i]∧s[i]≤(n:Int)-1)=inB n s[i]:=by
   unfold inB;exact decide_eq_decide.2 (by omega)
  rw[cdt (by omega),jf s i hi,obS,wr (n:=(n:Int)-1) (by omega) (by omega),wst,obS,e,wr1 (by omega)]
  cases h:inB n s[i] with
  | true=>exact ih (by rw[jd9 hi,hv,h];rfl)
  | false =>
   have:s.all (inB n)=false:=List.all_eq_false.2 ⟨_,List.getElem_mem hi,by simp[h]⟩
   rw[this];rfl
 ·intro rc hv
  rw[List.take_length]at hv
  unfold zu
  rw[cdf (by omega),yp,hv]
abbrev bt (n:Nat) (le:Nat→Nat→Bool):Nat:=gb n (du le) []
abbrev tp (n:Nat) (le:Nat→Nat→Bool):Nat:=gb n le []
def Dis (n:Nat) (le:Nat→Nat→Bool):Prop:=∀x y z,x<n→y<n→z<n→mt n le x (mt n (du le) y z)=mt n (du le) (mt n le x y) (mt n le x z)
theorem wl {n:Nat}{le:Nat→Nat→Bool}(h:LatP n le):bt n le<n:=(h.du.gbs noneLt).lt
theorem w7 {n:Nat}{le:Nat→Nat→Bool}(h:LatP n le):tp n le<n:=(h.gbs noneLt).lt
theorem xi {n:Nat}{le:Nat→Nat→Bool}(h:LatP n le){x:Nat}(hx:x<n):le (bt n le) x=true:=(h.du.gbs noneLt).gr x hx (by simp)
theorem yq {n:Nat}{le:Nat→Nat→Bool}(h:LatP n le){x:Nat}(hx:x<n):le x (tp n le)=true:=(h.gbs noneLt).gr x hx (by simp)
theorem jlt {n:Nat}{le:Nat→Nat→Bool}(h:LatP n le){x y:Nat}(hx:x<n) (hy:y<n):mt n (du le) x y<n:=h.du.mlt hx hy
theorem j1 {n:Nat}{le:Nat→Nat→Bool}(h:LatP n le){x y:Nat}(hx:x<n) (hy:y<n):le x (mt n (du le) x y)=true:=h.du.m1 hx hy
theorem j2 {n:Nat}{le:Nat→Nat→Bool}(h:LatP n le){x y:Nat}(hx:x<n) (hy:y<n):le y (mt n (du le) x y)=true:=h.du.m2 hx hy
theorem jg {n:Nat}{le:Nat→Nat→Bool}(h:LatP n le){x y z:Nat}(hx:x<n) (hy:y<n) (hz:z<n) (h1:le x z=true) (h2:le y z=true):le (mt n (du le) x y) z=true:=h.du.mg hx hy hz h1 h2
theorem xeo {n:Nat}{le:Nat→Nat→Bool}(h:LatP n le):∃U,V52 big (some (lat n le))=some (U,())∧U.isNone=tv (Dis n le):=by
 have h10:=h.le10
 unfold V52 w3r
 rw[obS,lat1,mkR_len]
 refine xl8 (Q:=fun o=>∃U,o=some (U,())∧U.isNone=tv (Dis n le)) n (fun i=>∀x,x<i→∀y,y<n→∀z,z<n→mt n le x (mt n (du le) y z)=mt n (du le) (mt n le x y) (mt n le x z)) (by omega) ?_ ?_ 0 (by omega) (by intro x hx;omega)
 ·intro rc i hi hv ih
  unfold we0
  rw[cdt (by omega),obS,lat1,mkR_len]
  refine xl9 (Q:=fun o=>∃U,o=some (U,())∧U.isNone=tv (Dis n le)) n (fun j=>∀y,y<j→∀z,z<n→mt n le i (mt n (du le) y z)=mt n (du le) (mt n le i y) (mt n le i z)) (by omega) ?_ ?_ 0 (by omega) (by intro x hx;omega)
  ·intro rc2 j hj hv2 ih2
   unfold we1
   rw[cdt (by omega),obS,lat1,mkR_len]
   refine xma (Q:=fun o=>∃U,o=some (U,())∧U.isNone=tv (Dis n le)) n (fun k=>∀z,z<k→mt n le i (mt n (du le) j z)=mt n (du le) (mt n le i j) (mt n le i z)) (by omega) ?_ ?_ 0 (by omega) (by intro x hx;omega)
   ·intro rc3 k hk hv3 ih3
    unfold wjb
    simp only[cdt (show(k:Int)<(n:Int) by omega),obS,lat2,lat3,jd hi,jd hj,jd hk,jd (jlt h hj hk),jd (h.mlt hi hj),jd (h.mlt hi hk),wr1 (show k≤4611686018427387904 by omega)]
    by_cases e:mt n le i (mt n (du le) j k)=mt n (du le) (mt n le i j) (mt n le i k)
    ·rw[cdf (by omega)]
     exact ih3 (all_lt_succ.2 ⟨hv3,e⟩)
    ·rw[cdt (by omega)]
     exact⟨_,rfl,by rw[tv_f fun hd=>e (hd i j k hi hj hk)];rfl⟩
   ·intro rc3 hv3
    unfold wjb
    rw[cdf (by omega),wez,wr1 (by omega)]
    exact ih2 (all_lt_succ.2 ⟨hv2,hv3⟩)
  ·intro rc2 hv2
   unfold we1
   rw[cdf (by omega),za,wr1 (by omega)]
   exact ih (all_lt_succ.2 ⟨hv,hv2⟩)
 ·intro rc hv
  unfold we0
  rw[cdf (by omega),y9]
  exact⟨none,rfl,by rw[tv_t (P:=Dis n le) fun x y z hx hy hz=>hv x hx y hy z hz];rfl⟩
theorem wyf {n:Nat}{le:Nat→Nat→Bool}(h:LatP n le):∃l b,V31 big (pos n le)=some ((l,b,()),())∧(!b)=tv (Dis n le):=by
 have h10:=h.le10
 unfold V31 w23
 rw[wb]
 refine xlq (Q:=fun o=>∃l b,o=some ((l,b,()),())∧(!b)=tv (Dis n le)) n (fun i=>∀x,x<i→∀y,y<n→∀z,z<n→mt n le x (mt n (du le) y z)=mt n (du le) (mt n le x y) (mt n le x z)) (by omega) ?_ ?_ 0 (by omega) (by intro x hx;omega)
 ·intro rc i hi hv ih
  unfold wd6
  rw[cdt (by omega)]
  refine xlr (Q:=fun o=>∃l b,o=some ((l,b,()),())∧(!b)=tv (Dis n le)) n (fun j=>∀y,y<j→∀z,z<n→mt n le i (mt n (du le) y z)=mt n (du le) (mt n le i y) (mt n le i z)) (by omega) ?_ ?_ 0 (by omega) (by intro x hx;omega)
  ·intro rc2 j hj hv2 ih2
   unfold wd7
   rw[cdt (by omega)]
   refine xls (Q:=fun o=>∃l b,o=some ((l,b,()),())∧(!b)=tv (Dis n le)) n (fun k=>∀z,z<k→mt n le i (mt n (du le) j z)=mt n (du le) (mt n le i j) (mt n le i z)) (by omega) ?_ ?_ 0 (by omega) (by intro x hx;omega)
   ·intro rc3 k hk hv3 ih3
    unfold wih
    simp only[cdt (show(k:Int)<(n:Int) by omega),w5 h hj hk,obS,xb h hi (jlt h hj hk),xb h hi hj,xb h hi hk,w5 h (h.mlt hi hj) (h.mlt hi hk),wr1 (show k≤4611686018427387904 by omega)]
    by_cases e:mt n le i (mt n (du le) j k)=mt n (du le) (mt n le i j) (mt n le i k)
    ·rw[cdf (by omega)]
     exact ih3 (all_lt_succ.2 ⟨hv3,e⟩)
    ·rw[cdt (by omega)]
     exact⟨_,_,rfl,by rw[tv_f fun hd=>e (hd i j k hi hj hk)];rfl⟩
   ·intro rc3 hv3
    unfold wih
    rw[cdf (by omega),wd5,wr1 (by omega)]
    exact ih2 (all_lt_succ.2 ⟨hv2,hv3⟩)
  ·intro rc2 hv2
   unfold wd7
   rw[cdf (by omega),yx,wr1 (by omega)]
   exact ih (all_lt_succ.2 ⟨hv,hv2⟩)
 ·intro rc hv
  unfold wd6
  rw[cdf (by omega),yw]
  exact⟨[],false,rfl,by rw[tv_t (P:=Dis n le) fun x y z hx hy hz=>hv x hx y hy z hz];rfl⟩
def rel (n:Nat) (le:Nat→Nat→Bool) (x y z:Nat):List Nat:=fl n fun c=>decide (mt n le c y=x)&&decide (mt n (du le) c y=z)
def comp (n:Nat) (le:Nat→Nat→Bool) (x:Nat):List Nat:=rel n le (bt n le) x (tp n le)
theorem wzi {n:Nat}{le:Nat→Nat→Bool}(h:LatP n le){x y z:Nat}(hy:y<n):V58 (some (lat n le)) (x:Int) (y:Int) (z:Int)=some (cs (rel n le x y z),()):=by
 have h10:=h.le10
 unfold V58 xgi
 rw[obS,lat1,zw (mkR_len n _) (by omega) (P:=fun c=>decide (mt n le c y=x)&&decide (mt n (du le) c y=z))]
 ·rfl
 ·intro i hi
  unfold V56 xgh
  simp only[obS,lat2,lat3,jd hi,jd hy]
  by_cases e:mt n le i y=x
  ·rw[cdt (by omega),decide_eq_true e,Bool.true_and]
   congr 2
   exact decide_eq_decide.2 (by omega)
  ·rw[cdf (by omega),decide_eq_false e,Bool.false_and]
theorem wrp {n:Nat}{le:Nat→Nat→Bool}(h:LatP n le){x y z:Nat}(hy:y<n):V35 big (pos n le) (x:Int) (y:Int) (z:Int)=some (cs (rel n le x y z),()):=by
 have h10:=h.le10
 unfold V35 w24
 refine xlt n (fun i l=>l=cs (fl i fun c=>decide (mt n le c y=x)&&decide (mt n (du le) c y=z))) (by omega) ?_ ?_ 0 (by omega) _ rfl
 ·intro rc i l hi hv ih
  have hl:=jh i fun c=>decide (mt n le c y=x)&&decide (mt n (du le) c y=z)
  unfold wij
  rw[wb,cdt (by omega),xb h hy hi,obS,w5 h hy hi,obS,wu,wu (le:=du le),wr1 (by omega)]
  by_cases e:mt n le i y=x
  ·rw[cdt (by omega)]
   by_cases e2:mt n (du le) i y=z
   ·rw[cdt (by omega),app1 (by rw[hv,cs_len];omega),obS]
    exact ih _ (by rw[hv];exact fl_t (P:=fun c=>decide (mt n le c y=x)&&decide (mt n (du le) c y=z)) (by simp[e,e2]))
   ·rw[cdf (by omega)]
    exact ih _ (by rw[hv];exact fl_f (P:=fun c=>decide (mt n le c y=x)&&decide (mt n (du le) c y=z)) (by simp[e2]))
  ·rw[cdf (by omega)]
   exact ih _ (by rw[hv];exact fl_f (P:=fun c=>decide (mt n le c y=x)&&decide (mt n (du le) c y=z)) (by simp[e]))
 ·intro rc l hv
  unfold wij
  rw[wb,cdf (by omega),wd8,hv]
  rfl
theorem wg2 {n:Nat}{le:Nat→Nat→Bool}(h:LatP n le){x:Nat}(hx:x<n):V59 (some (lat n le)) (x:Int)=some (cs (comp n le x),()):=by
 unfold V59 xgj
 rw[xy h,obS,wy5 h,obS,wzi h hx];rfl
def Cmp (n:Nat) (le:Nat→Nat→Bool):Prop:=∀x,x<n→comp n le x≠[]
theorem w5n {n:Nat}{le:Nat→Nat→Bool}(h:LatP n le):V63 (some (lat n le))=some (tv (Cmp n le),()):=by
 have h10:=h.le10
 unfold V63 xgp V62 xgo
 rw[obS,lat1,x5 (mkR_len n _) (by omega) (P:=fun x=>decide ((comp n le x).length=0))]
 ·simp only[obS,cs_len]
  congr 2
  symm
  refine jba ?_
  rw[decide_eq_true_eq]
  constructor
  ·intro e x hx hc
   have:x∈fl n fun x=>decide ((comp n le x).length=0):=fl_mem.2 ⟨hx,by simp[hc]⟩
   have:=List.length_pos_of_mem this
   omega
  ·intro hc
   have:(fl n fun x=>decide ((comp n le x).length=0))=[]:=List.eq_nil_iff_forall_not_mem.2 fun x hx=>by
    have:=fl_mem.1 hx
    exact hc x this.1 (List.eq_nil_of_length_eq_zero (by simpa using this.2))
   rw[this];rfl
 ·intro i hi
  unfold V60 xgn
  rw[wg2 h hi,obS,cs_len]
  congr 2
  exact decide_eq_decide.2 (by omega)
theorem xd7 {n:Nat}{le:Nat→Nat→Bool}(h:LatP n le):V36 big (pos n le)=some (mkR n fun x=>((comp n le x).length:Int),()):=by
 have h10:=h.le10
 unfold V36 w26
 refine xlu n (fun i l=>l=mkR i fun x=>((comp n le x).length:Int)) (by omega) ?_ ?_ 0 (by omega) _ rfl
 ·intro rc i l hi hv ih
  unfold wil
  rw[wb,cdt (by omega),wq h,obS,xj h,obS,wrp h hi,obS,app1 (by rw[hv,mkR_len];omega),obS,wr1 (by omega)]
  exact ih _ (by rw[hv,cs_len];exact(jv i fun x=>((comp n le x).length:Int)).symm)
 ·intro rc l hv
  unfold wil
  rw[wb,cdf (by omega),wd9,hv]
structure BoolP (n:Nat) (le:Nat→Nat→Bool):Prop where
 lp:LatP n le
 dis:Dis n le
 cmp:Cmp n le
theorem specGood29 {n:Nat}{le:Nat→Nat→Bool}(h:LatP n le) (hg:V28 big (pos n le)=some (true,())):V37 (pos n le)=some (tv (Dis n le∧Cmp n le),()):=by
 have h10:=h.le10
 unfold V37 w28 V32 wth
 obtain⟨l,b,h1,h2⟩:=wyf h
 rw[hg,obS,h1]
 simp only[Bool.not_true,cond_false,obS,h2]
 by_cases hd:Dis n le
 ·rw[tv_t hd,cond_true,xd7 h,obS,wb9 _ _ (by rw[mkR_len];omega),obS]
  congr 2
  symm
  refine jba ?_
  rw[Bool.not_eq_true',decide_eq_false_iff_not,mkR_mem]
  constructor
  ·intro hc
   refine⟨hd,fun x hx he=>hc ⟨x,hx,by rw[he];rfl⟩⟩
  ·rintro⟨_,hc⟩ ⟨x,hx,e⟩
   exact hc x hx (List.eq_nil_of_length_eq_zero (by omega))
 ·rw[tv_f hd,tv_f fun hh=>hd hh.1];rfl
theorem implBool {n:Nat}{le:Nat→Nat→Bool}(h:LatP n le) (hg:V51 (pos n le)=some ((some (lat n le),true,()),())):V64 (pos n le)=some ((some (lat n le),tv (Dis n le∧Cmp n le),()),()):=by
 unfold V64 w33 V53 w3s
 obtain⟨U,h1,h2⟩:=xeo h
 rw[hg,obS]
 simp only[cond_true,h1,obS,h2]
 by_cases hd:Dis n le
 ·rw[tv_t hd,cond_true,w5n h,obS,qt (show Cmp n le↔Dis n le∧Cmp n le from⟨fun hc=>⟨hd,hc⟩,fun hh=>hh.2⟩)]
 ·rw[tv_f hd,tv_f fun hh=>hd hh.1];rfl
theorem wi {p:PT}(hx:∀r∈p.1,r.length≤4294967296):(∃n le,p=pos n le∧BoolP n le∧V37 p=some (true,())∧V64 p=some ((some (lat n le),true,()),())) ∨
  (V37 p=some (false,())∧∃l,V64 p=some ((l,false,()),())):=by
 rcases wk8 hx with⟨n,le,e,h,h1,h2⟩|⟨h1,l,h2⟩
 ·subst e
  have e1:=specGood29 h h1
  have e2:=implBool h h2
  by_cases hb:Dis n le∧Cmp n le
  ·rw[tv_t hb]at e1 e2
   exact .inl ⟨n,le,rfl,⟨h,hb.1,hb.2⟩,e1,e2⟩
  ·rw[tv_f hb]at e1 e2
   exact .inr ⟨e1,_,e2⟩
 ·refine .inr ⟨?_,l, ?_⟩
  ·unfold V37 w28 V32 wth
   rw[h1];rfl
  ·unfold V64 w33 V53 w3s
   rw[h2];rfl
def cpl (n:Nat) (le:Nat→Nat→Bool) (x:Nat):Nat:=(comp n le x).headD 0
theorem wsr {n:Nat}{le:Nat→Nat→Bool}(hc:Cmp n le){x:Nat}(hx:x<n):∃h:0<(comp n le x).length,(comp n le x)[0]=cpl n le x:=by
 have h0:0<(comp n le x).length:=List.length_pos_iff.2 (hc x hx)
 refine⟨h0, ?_⟩
 unfold cpl
 rw[List.getElem_zero,List.headD_eq_head?_getD,List.head?_eq_some_head (List.ne_nil_of_length_pos h0)]
 rfl
theorem w6 {n:Nat}{le:Nat→Nat→Bool}(hc:Cmp n le){x:Nat}(hx:x<n):cpl n le x<n∧mt n le (cpl n le x) x=bt n le∧mt n (du le) (cpl n le x) x=tp n le:=by
 obtain⟨h0,e⟩:=wsr hc hx
 have:=List.getElem_mem h0
 rw[e]at this
 have:=fl_mem.1 this
 simpa using this
theorem wyj {n:Nat}{le:Nat→Nat→Bool}(h:BoolP n le):V92 big (some (lat n le))=some (mkR n fun x=>((cpl n le x:Nat):Int),()):=by
 have h10:=h.lp.le10
 unfold V92 w4t
 rw[obS,lat1,mkR_len]
 refine xm5 n (fun i l=>l=mkR i fun x=>((cpl n le x:Nat):Int)) (by omega) ?_ ?_ 0 (by omega) _ rfl
 ·intro rc i l hi hv ih
  obtain⟨h0,e⟩:=wsr h.cmp hi
  have a1:=jo h0
  have a2:=jz h0
  rw[e]at a1 a2
  unfold wki
  rw[cdt (by omega),wg2 h.lp hi,obS,show(0:Int)=((0:Nat):Int) from rfl,a1,obS,Int.toNat_natCast,a2,obS,app1 (by rw[hv,mkR_len];omega),obS,wr1 (by omega)]
  exact ih _ (by rw[hv];exact(jv i fun x=>((cpl n le x:Nat):Int)).symm)
 ·intro rc l hv
  unfold wki
  rw[cdf (by omega),wgh,hv]
theorem wy3 {n:Nat}{le:Nat→Nat→Bool}(h:BoolP n le):V102 big (pos n le)=some (mkR n fun x=>((cpl n le x:Nat):Int),()):=by
 have h10:=h.lp.le10
 unfold V102 wub
 refine xhl n (fun i l=>l=mkR i fun x=>((cpl n le x:Nat):Int)) (by omega) ?_ ?_ 0 (by omega) _ rfl
 ·intro rc i l hi hv ih
  obtain⟨h0,e⟩:=wsr h.cmp hi
  have a1:=jo h0
  have a2:=jz h0
  rw[e]at a1 a2
  unfold wct
  rw[wb,cdt (by omega),wq h.lp,obS,xj h.lp,obS,wrp h.lp hi,obS]
  simp only[show(0:Int)=((0:Nat):Int) from rfl]
  rw[show atI (cs (rel n le (bt n le) i (tp n le))) ((0:Nat):Int)=_ from a1,obS,Int.toNat_natCast,show(cs (rel n le (bt n le) i (tp n le)))[0]? = _ from a2,obS,app1 (by rw[hv,mkR_len];omega),obS,wr1 (by omega)]
  exact ih _ (by rw[hv];exact(jv i fun x=>((cpl n le x:Nat):Int)).symm)
 ·intro rc l hv
  unfold wct
  rw[wb,cdf (by omega),zz,hv]
theorem w5h {n:Nat}{le:Nat→Nat→Bool}(h:BoolP n le){a b c:Nat}(ha:a<n) (hb:b<n) (hc:c<n) (h1:∀t,t<n→le t a=true→le t c=true→le t b=true) (h2:∀t,t<n→le t a=true→le t (cpl n le c)=true→le t b=true):le a b=true:=by
 obtain⟨q1,q2,q3⟩:=w6 h.cmp hc
 have e:=h.dis a (cpl n le c) c ha q1 hc
 rw[q3]at e
 have e2:mt n le a (tp n le)=a:=by
  have hl:=h.lp.mlt ha (w7 h.lp)
  exact h.lp.as hl ha (h.lp.m1 ha (w7 h.lp)) (h.lp.mg ha (w7 h.lp) ha (h.lp.ord.refl a ha) (yq h.lp ha))
 rw[e2]at e
 rw[e]
 have l1:=h.lp.mlt ha q1
 have l2:=h.lp.mlt ha hc
 exact jg h.lp l1 l2 hb (h2 _ l1 (h.lp.m1 ha q1) (h.lp.m2 ha q1)) (h1 _ l2 (h.lp.m1 ha hc) (h.lp.m2 ha hc))
theorem wzc {n:Nat}{le:Nat→Nat→Bool}(h:BoolP n le){b c t:Nat}(hb:b<n) (hc:c<n) (ht:t<n) (h1:le t c=true) (h2:le t (cpl n le c)=true):le t b=true:=by
 obtain⟨q1,q2,q3⟩:=w6 h.cmp hc
 have:=h.lp.mg q1 hc ht h2 h1
 rw[q2]at this
 exact h.lp.tr ht (wl h.lp) hb this (xi h.lp hb)
def fst_ (n:Nat) (P:Nat→Bool):Nat:=(fl n P).headD 0
theorem whc {n:Nat}{P:Nat→Bool}{w:Nat}(hw:w<n) (h:P w=true):fst_ n P<n∧P (fst_ n P)=true∧(∀i,i<fst_ n P→P i=false)∧fst_ n P≤w:=by
 have hm:w∈fl n P:=fl_mem.2 ⟨hw,h⟩
 have h0:0<(fl n P).length:=List.length_pos_of_mem hm
 have hf:=xfs h0
 have e:fst_ n P=(fl n P)[0]:=by
  unfold fst_
  rw[List.getElem_zero,List.headD_eq_head?_getD,List.head?_eq_some_head (List.ne_nil_of_length_pos h0)]
  rfl
 rw[←e]at hf
 refine⟨hf.2.1,hf.1,hf.2.2, ?_⟩
 rcases Nat.lt_or_ge w (fst_ n P) with hlt|hge
 ·have:=hf.2.2 w hlt
  rw[h]at this;cases this
 ·exact hge
def atm (n:Nat) (le:Nat→Nat→Bool):List Nat:=fl n fun y=>cov n le (bt n le) y
theorem xf4 {n:Nat}{le:Nat→Nat→Bool}(hn:n≤1048576){x:Nat}(hx:x<n):V70 (mkT n le) (x:Int)=some (cs (fl n fun y=>cov n le x y),()):=by
 unfold V70 xgt
 rw[zt (mkR_len n _) hn (P:=fun y=>cov n le x y)]
 ·rfl
 ·intro i hi
  unfold V68 xgs
  rw[xd8 hn hx hi];rfl
theorem wv {n:Nat}{le:Nat→Nat→Bool}(h:LatP n le):V71 (some (lat n le))=some (cs (atm n le),()):=by
 have h10:=h.le10
 unfold V71 xgu
 rw[obS,xy h,obS,lat1,xf4 (by omega) (wl h)];rfl
theorem ww {n:Nat}{le:Nat→Nat→Bool}(h:LatP n le):V38 big (pos n le)=some (cs (atm n le),()):=by
 have h10:=h.le10
 unfold V38 w29
 rw[wq h,obS]
 refine xlv n (fun i l=>l=cs (fl i fun y=>cov n le (bt n le) y)) (by omega) ?_ ?_ 0 (by omega) _ rfl
 ·intro rc i l hi hv ih
  have hl:=jh i fun y=>cov n le (bt n le) y
  unfold wio
  rw[wb,cdt (by omega),whj (by omega) (wl h) hi,obS,wr1 (by omega)]
  cases hc:cov n le (bt n le) i with
  | true=>rw[cond_true,app1 (by rw[hv,cs_len];omega),obS];exact ih _ (by rw[hv];exact fl_t (P:=fun y=>cov n le (bt n le) y) hc)
  | false=>exact ih _ (by rw[hv];exact fl_f (P:=fun y=>cov n le (bt n le) y) hc)
 ·intro rc l hv
  unfold wio
  rw[wb,cdf (by omega),wea,hv]
  rfl
def pw (k:Nat):Nat:=2 ^ k
theorem xk2 {k:Nat}(hk:k≤10):pw k≤1024:=by
 have:=Nat.pow_le_pow_right (n:=2) (by omega) hk
 simpa [pw] using this
theorem shl1 {k:Nat}(hk:k≤10):shlI IntKind.i64 1 (k:Int)=some (((pw k:Nat):Int)):=by
 have hp:=xk2 hk
 unfold shlI
 rw[if_neg (by omega),Int.toNat_natCast,show min k IntKind.i64.bits=k from Nat.min_eq_left (by show k≤64;omega),Int.one_mul]
 have e:((2:Int) ^ k)=((pw k:Nat):Int):=by simp[pw]
 rw[e,wr (by omega) (by omega)]
theorem wg {S:List Nat}{k:Nat}(h:k<S.length):S.getD k 0=S[k]:=by rw[List.getD_eq_getElem?_getD,List.getElem?_eq_getElem h];rfl
def Cen (n:Nat) (le:Nat→Nat→Bool) (x y:Nat):Prop:=∀z,z<n→mt n (du le) (mt n le z x) (mt n le z y)=z∧mt n le (mt n (du le) z x) (mt n (du le) z y)=z
noncomputable def cenB (n:Nat) (le:Nat→Nat→Bool) (x:Nat):Bool:=(comp n le x).any fun y=>tv (Cen n le x y)
abbrev P2:=Int×Int×Unit
def lx:List Int→List Int→Bool
 | a::s,b::t=>if a≠b then decide (a<b) else lx s t
 | _,_=>false
theorem xkz {a b:List Int}{i:Nat}(h1:i<a.length) (h2:i<b.length):lx (a.drop i) (b.drop i)=if a[i]≠b[i] then decide (a[i]<b[i]) else lx (a.drop (i+1)) (b.drop (i+1)):=by
 rw[List.drop_eq_getElem_cons h1,List.drop_eq_getElem_cons h2,lx]
theorem ws6 (l:List Int) (x:Int) (h:l.length≤4294967296):V98 big l x=some (decide (x ∉ l),()):=by
 unfold V98 w44
 refine xnb l.length (fun i=>∀y∈l.take i,x≠y) (by omega) ?_ ?_ 0 (by omega) (by simp)
 ·intro rc i hi hv ih
  unfold wkq
  rw[cdt (by omega),jf l i hi,obS,wr1 (by omega)]
  by_cases e:x=l[i]
  ·rw[cdt e]
   have:x∈l:=by rw[e];exact List.getElem_mem hi
   simp[this]
  ·rw[cdf e]
   exact ih ((qp hi (P:=fun y=>x≠y)).2 ⟨hv,e⟩)
 ·intro rc hv
  rw[List.take_length]at hv
  unfold wkq
  have:x ∉ l:=fun hx=>hv x hx rfl
  rw[cdf (by omega),wgr]
  simp[this]
def upd (b f:List Int) (g:Bool):List Int:=if g&&(decide (b.length=0)||lx f b) then f else b
def f5 (n:Nat) (le:Nat→Nat→Bool) (o:Nat) (x y z i:Nat):List Int:=[(o:Int),(x:Int),(y:Int),(z:Int),(i:Int)]
theorem w5j {n:Nat}{P Q:Nat→Bool}(h:∀x,x<n→P x=true→Q x=true){y:Nat}(hy:y<n) (h1:Q y=true) (h2:P y=false):(fl n P).length<(fl n Q).length:=by
 have hm:(fl n P).Sublist (fl n Q):=by
  have e:fl n P=(fl n Q).filter P:=by
   unfold fl
   rw[List.filter_filter]
   refine List.filter_congr fun x hx => ?_
   have:=h x (List.mem_range.1 hx)
   cases hp:P x with
   | true=>simp[this hp]
   | false=>simp
  rw[e];exact List.filter_sublist
 refine Nat.lt_of_le_of_ne hm.length_le fun e => ?_
 have:=hm.eq_of_length e
 have hq:=Go.Gx.fl_inj this hy
 rw[h1,h2]at hq
 exact absurd hq (by simp)
theorem xhh {n:Nat}{le:Nat→Nat→Bool}(h:LatP n le){x y z:Nat}(hx:x<n) (hy:y<n) (hz:z<n) (h1:ls le x y=true) (h2:ls le y z=true):ls le x z=true:=by
 unfold ls at *
 simp only[Bool.and_eq_true,decide_eq_true_eq]at *
 refine⟨fun e => ?_,h.ord.trans x y z hx hy hz h1.2 h2.2⟩
 subst e
 have:=h.ord.anti x y hx hy h1.1 h1.2;rw[h2.2]at this;exact absurd this (by simp)
theorem xei {le:Nat→Nat→Bool}{x:Nat}:ls le x x=false:=by unfold ls;simp
theorem wrj {n:Nat}{le:Nat→Nat→Bool}{x y:Nat}(h:cov n le x y=true):ls le x y=true:=by
 unfold cov at h
 exact(Bool.and_eq_true_iff.1 h).1
theorem map_take {α β:Type}{f:α→β}{l:List α}{i:Nat}(h:i<l.length):(l.take (i+1)).map f=(l.take i).map f++[f l[i]]:=by
 rw[List.take_succ_eq_append_getElem h,List.map_append,List.map_cons,List.map_nil]
theorem wd {S:List Nat}{i:Nat}(h:i<S.length):atI (cs S) (i:Int)=some ((S.getD i 0:Nat):Int):=by rw[jo h,wg h]
theorem wy {S:List Nat}{i:Nat}(h:i<S.length):(cs S)[i]? = some ((S.getD i 0:Nat):Int):=by rw[jz h,wg h]
theorem we {S:List Nat}{i:Nat}(h:i<S.length):S.getD i 0∈S:=by rw[wg h];exact List.getElem_mem h
theorem yn {n:Nat}{le:Nat→Nat→Bool}(h:LatP n le){x:Nat}(hx:x<n):mt n le x x=x:=by unfold mt;rw[wmu h.ord hx];rfl
theorem wh {p q:PT}{l m:Option (List (List Bool)×List (List Int)×List (List Int)×Unit)}{a b:Bool}(h1:V64 p=some ((l,a,()),())) (h2:V64 q=some ((m,b,()),())):V65 p q=some ((l,m,a&&b,()),()):=by
 unfold V65 xgq
 rw[h1,h2]
 cases a<;>rfl
def jnf (m:Nat) (le':Nat→Nat→Bool) (S:List Nat):Nat:=S.foldl (fun j x=>mt m (du le') j x) (bt m le')
theorem wyr (m:Nat) (le':Nat→Nat→Bool) (S:List Nat) (x:Nat):jnf m le' (S++[x])=mt m (du le') (jnf m le' S) x:=by unfold jnf;rw[List.foldl_append];rfl
theorem wrm {m:Nat}{le':Nat→Nat→Bool}(h:LatP m le'){S:List Nat}(hS:∀s∈S,s<m):jnf m le' S<m:=by
 suffices hh:∀(S:List Nat) (j:Nat),j<m→(∀s∈S,s<m)→S.foldl (fun j x=>mt m (du le') j x) j<m from hh S _ (wl h) hS
 intro S
 induction S with
 | nil=>intro j hj _;exact hj
 | cons s S ih=>intro j hj hS;exact ih _ (jlt h hj (hS s List.mem_cons_self)) fun t ht=>hS t (List.mem_cons_of_mem _ ht)
theorem w5q {m:Nat}{le':Nat→Nat→Bool}(h:LatP m le'){S:List Nat}(hS:∀s∈S,s<m) (hl:S.length≤4294967296):V72 big (some (lat m le')) (cs S)=some ((jnf m le' S:Int),()):=by
 unfold V72 w38
 rw[xy h,obS,cs_len]
 refine xmi S.length (fun i j=>j=((jnf m le' (S.take i):Nat):Int)) (by omega) ?_ ?_ 0 (by omega) _ rfl
 ·intro rc i j hi hj ih
  have l1:=wrm h (S:=S.take i) fun s hs=>hS s (List.mem_of_mem_take hs)
  have l2:=hS _ (List.getElem_mem hi)
  unfold wjp
  simp only[cdt (show(i:Int)<(S.length:Int) by omega),jo hi,obS,lat3,hj,jd l1,jd l2,wr1 (show i≤4611686018427387904 by omega)]
  exact ih _ (by rw[List.take_succ_eq_append_getElem hi,wyr])
 ·intro rc j hj
  rw[List.take_length]at hj
  unfold wjp
  rw[cdf (by omega),we8,hj]
def sel (le:Nat→Nat→Bool) (A G B:List Nat) (x:Nat):Nat→List Nat
 | 0=>[]
 | k+1=>if le (A.getD (G.getD k 0) 0) x then sel le A G B x k++[B.getD k 0] else sel le A G B x k
theorem wmk (le:Nat→Nat→Bool) (A G B:List Nat) (x:Nat):∀k,(sel le A G B x k).length≤k
 | 0=>by simp[sel]
 | k+1=>by
  have:=wmk le A G B x k
  unfold sel;split
  ·rw[List.length_append];simp;omega
  ·omega
theorem wg4 {m:Nat}{le:Nat→Nat→Bool}{A G B:List Nat}{x:Nat}(hB:∀b∈B,b<m):∀k,k≤B.length→∀s∈sel le A G B x k,s<m
 | 0,_,s,h=>by simp[sel]at h
 | k+1,hk,s,h=>by
  unfold sel at h
  split at h
  ·rcases List.mem_append.1 h with h|h
   ·exact wg4 hB k (by omega) s h
   ·rw[List.mem_singleton]at h;subst h;exact hB _ (we (by omega))
  ·exact wg4 hB k (by omega) s h
def bmv (m:Nat) (le le':Nat→Nat→Bool) (A G B:List Nat) (x:Nat):Nat:=jnf m le' (sel le A G B x B.length)
theorem w9 {n:Nat}{le:Nat→Nat→Bool}:∀x∈atm n le,x<n:=fun x hx=>(fl_mem.1 hx).1
theorem w8 (n:Nat) (le:Nat→Nat→Bool):(atm n le).length≤n:=jh _ _
theorem wb8 {n m:Nat}{le le':Nat→Nat→Bool}(h:BoolP n le) (h':BoolP m le'){A G B:List Nat}(hAl:A.length≤10) (hB:∀b∈B,b<m) (hBl:B.length≤10) (hA:∀a∈A,a<n) (hG:∀g∈G,g<A.length) (hgl:G.length=B.length) :
  wpb big (cs G) (some (lat n le)) (some (lat m le')) (cs A) (cs B) [] (n:Int) 0=some ((mkR n fun x=>((bmv m le le' A G B x:Nat):Int),true,()),()):=by
 have h10:=h.lp.le10
 refine xmj n (fun i l=>l=mkR i fun x=>((bmv m le le' A G B x:Nat):Int)) (by omega) ?_ ?_ 0 (by omega) _ rfl
 ·intro rc i l hi hv ih
  unfold wfd
  rw[cdt (by omega),cs_len]
  refine xji B.length (fun k s=>s=cs (sel le A G B i k)) (by omega) ?_ ?_ 0 (by omega) _ rfl
  ·intro rc2 k s hk hs ih2
   have hkG:k<G.length:=by omega
   have l1:=hG _ (we hkG)
   have l2:=hA _ (we l1)
   have l3:=wmk le A G B i k
   unfold wfc
   simp only[cdt (show(k:Int)<(B.length:Int) by omega),wd hk,Int.toNat_natCast,wy hk,obS,lat1,wd hkG,wd l1,wy l1,jd l2,jd hi,wr1 (show k≤4611686018427387904 by omega)]
   cases hc:le (A.getD (G.getD k 0) 0) i with
   | true =>
    rw[cond_true,app1 (by rw[hs,cs_len];omega),obS]
    refine ih2 _ ?_
    rw[hs,sel,if_pos hc,jy];rfl
   | false=>exact ih2 _ (by rw[hs,sel,if_neg (ne_true_of_eq_false hc)])
  ·intro rc2 s hs
   unfold wfc
   rw[cdf (by omega),wan,hs,w5q h'.lp (wg4 hB _ (by omega)) (by have:=wmk le A G B i B.length;omega),obS,app1 (by rw[hv,mkR_len];omega),obS,wr1 (by omega)]
   exact ih _ (by rw[hv,jv];rfl)
 ·intro rc l hv
  unfold wfd
  rw[cdf (by omega),zb,hv]
theorem wyh {n m:Nat}{le le':Nat→Nat→Bool}(h:BoolP n le) (h':BoolP m le'){A G B:List Nat}(hAl:A.length≤10) (hB:∀b∈B,b<m) (hBl:B.length≤10) (hA:∀a∈A,a<n) (hG:∀g∈G,g<A.length) (hgl:G.length=B.length) :
  wpf big (cs G) (pos n le) (pos m le') [] (cs B) (cs A) 0=some ((mkR n fun x=>((bmv m le le' A G B x:Nat):Int),true,()),()):=by
 have h10:=h.lp.le10
 refine xmk n (fun i l=>l=mkR i fun x=>((bmv m le le' A G B x:Nat):Int)) (by omega) ?_ ?_ 0 (by omega) _ rfl
 ·intro rc i l hi hv ih
  unfold wfi
  rw[wb,cdt (by omega),wq h'.lp,obS]
  refine xjk B.length (fun k j=>j=((jnf m le' (sel le A G B i k):Nat):Int)) (by omega) ?_ ?_ 0 (by omega) _ rfl
  ·intro rc2 k j hk hj ih2
   have hkG:k<G.length:=by omega
   have l1:=hG _ (we hkG)
   have l2:=hA _ (we l1)
   have l3:=wmk le A G B i k
   have l4:=wrm h'.lp (wg4 (le:=le) (A:=A) (G:=G) (x:=i) hB k (by omega))
   have l5:=hB _ (we hk)
   unfold wfh
   simp only[cs_len,cdt (show(k:Int)<(G.length:Int) by omega),wd hk,Int.toNat_natCast,wy hk,obS,wd hkG,wd l1,wy l1,wo (le:=le) (show n≤4294967296 by omega) l2 hi,hj,w5 h'.lp l4 l5,wr1 (show k≤4611686018427387904 by omega)]
   cases hc:le (A.getD (G.getD k 0) 0) i with
   | true=>exact ih2 _ (by rw[sel,if_pos hc,wyr])
   | false=>exact ih2 _ (by rw[sel,if_neg (ne_true_of_eq_false hc)])
  ·intro rc2 j hj
   unfold wfh
   rw[cs_len,cdf (by omega),wao,hj,app1 (by rw[hv,mkR_len];omega),obS,wr1 (by omega)]
   exact ih _ (by rw[hv,jv];rfl)
 ·intro rc l hv
  unfold wfi
  rw[wb,cdf (by omega),zd,hv]
theorem wrg (p q:PT) (g:List Int) (hp:∀r∈p.1,r.length≤4294967296) (hq:∀r∈q.1,r.length≤4294967296) (hg:g.length≤1048576) :
  ∃v:List Int×Bool×Unit,V74 big p q g=some (v,())∧V73 big p q g=some (v,())∧v.1.length≤10:=by
 unfold V74 w4c V73 wpe
 rcases wi hp with⟨n,le,e,h,h1,h2⟩|⟨h1,l,h2⟩
 ·rcases wi hq with⟨m,le',e',h',h1',h2'⟩|⟨h1',l',h2'⟩
  ·rw[h1,h1',wh h2 h2']
   subst e;subst e'
   have h10:=h.lp.le10
   have h10':=h'.lp.le10
   have hAl:=w8 n le
   have hBl:=w8 m le'
   simp only[obS,Bool.and_self,Bool.not_true,cond_false,wv h.lp,wv h'.lp,ww h.lp,ww h'.lp,cs_len]
   by_cases hgl:g.length=(atm m le').length
   ·simp only[cdf (show ¬(g.length:Int)≠((atm m le').length:Int) by omega),xl (atm n le).length g (show(atm n le).length≤1099511627776 by omega) (show g.length≤4294967296 by omega),zr (atm n le).length g (show g.length≤1099511627775 by omega),obS]
    cases hga:g.all (inB (atm n le).length) with
    | false=>exact⟨_,rfl,rfl,by simp⟩
    | true =>
     obtain⟨G,e1,hG⟩:=xx hga
     subst e1
     rw[cs_len]at hgl
     simp only[Bool.not_true,cond_false,lat1,mkR_len,wb8 h h' (show(atm n le).length≤10 by omega) w9 (show(atm m le').length≤10 by omega) w9 hG hgl,wyh h h' (show(atm n le).length≤10 by omega) w9 (show(atm m le').length≤10 by omega) w9 hG hgl]
     exact⟨_,rfl,rfl,by simp only[mkR_len];omega⟩
   ·simp only[cdt (show(g.length:Int)≠((atm m le').length:Int) by omega)]
    exact⟨_,rfl,rfl,by simp⟩
  ·rw[h1,h1',wh h2 h2']
   exact⟨_,rfl,rfl,by simp⟩
 ·rcases wi hq with⟨m,le',e',h',h1',h2'⟩|⟨h1',l',h2'⟩
  ·rw[h1,wh h2 h2']
   exact⟨_,rfl,rfl,by simp⟩
  ·rw[h1,wh h2 h2']
   exact⟨_,rfl,rfl,by simp⟩
def LMc (n m:Nat) (le le':Nat→Nat→Bool) (F:List Nat) (x y:Nat):Prop:=F.getD (mt n le x y) 0=mt m le' (F.getD x 0) (F.getD y 0)∧F.getD (mt n (du le) x y) 0=mt m (du le') (F.getD x 0) (F.getD y 0)
structure LMp (n m:Nat) (le le':Nat→Nat→Bool) (F:List Nat):Prop where
 bot:F.getD (bt n le) 0=bt m le'
 top:F.getD (tp n le) 0=tp m le'
 maps:∀x y,x<n→y<n→LMc n m le le' F x y
theorem xep {n m:Nat}{le le':Nat→Nat→Bool}{F:List Nat}{x y:Nat}(h:LMc n m le le' F x y):LMc n m le le' F y x:=by
 unfold LMc at *
 rw[wu (n:=n) (le:=le) y x,wu (n:=n) (le:=du le) y x,wu (n:=m) (le:=le') _ (F.getD x 0),wu (n:=m) (le:=du le') _ (F.getD x 0)]
 exact h
theorem xeq {n m:Nat}{le le':Nat→Nat→Bool}(h:LatP n le) (h':LatP m le'){F:List Nat}{x:Nat}(hx:x<n) (hF:F.getD x 0<m):LMc n m le le' F x x:=by
 unfold LMc
 rw[yn h hx,yn h.du hx,yn h' hF,yn h'.du hF]
 exact⟨rfl,rfl⟩
theorem xk5 {n m:Nat}{le le':Nat→Nat→Bool}(h:LatP n le) (h':LatP m le'){F:List Nat}(hl:F.length=n) (hF:∀x∈F,x<m):(∀x y,x<n→y<x→LMc n m le le' F x y)↔∀x y,x<n→y<n→LMc n m le le' F x y:=by
 constructor
 ·intro hh x y hx hy
  rcases Nat.lt_trichotomy x y with c|c|c
  ·exact xep (hh y x hy c)
  ·subst c;exact xeq h h' hx (hF _ (we (by omega)))
  ·exact hh x y hx c
 ·intro hh x y hx hy
  exact hh x y hx (by omega)
theorem wck {n m:Nat}{le le':Nat→Nat→Bool}(h:LatP n le) (h':LatP m le'){F:List Nat}(hl:F.length=n) (hF:∀x∈F,x<m) (hhas:(cs F).all (inB m)=true):V78 big (some (lat n le)) (some (lat m le')) (cs F)=some (tv (LMp n m le le' F),()):=by
 have h10:=h.le10
 have b1:bt n le<F.length:=by rw[hl];exact wl h
 have b2:tp n le<F.length:=by rw[hl];exact w7 h
 unfold V78 wg7
 simp only[obS,lat1,mkR_len,cs_len,cdf (show ¬(F.length:Int)≠(n:Int) by omega),wrl (cs F) (show(cs F).length≤4294967296 by rw[cs_len];omega),hhas,Bool.not_true,cond_false,xy h,xy h',wy5 h,wy5 h',wd b1,wd b2]
 by_cases e1:F.getD (bt n le) 0=bt m le'
 ·rw[cdf (by simp only[e1,ne_eq,not_true_eq_false,not_false_eq_true])]
  by_cases e2:F.getD (tp n le) 0=tp m le'
  ·rw[cdf (by simp only[e2,ne_eq,not_true_eq_false,not_false_eq_true])]
   refine xmm n (fun i=>∀x,x<i→∀y,y<n→LMc n m le le' F x y) (by omega) ?_ ?_ 0 (by omega) (by intro x hx;omega)
   ·intro rc i hi hv ih
    unfold wfm
    rw[cs_len,hl,cdt (by omega)]
    refine xmn n (fun j=>∀y,y<j→LMc n m le le' F i y) (by omega) ?_ ?_ 0 (by omega) (by intro x hx;omega)
    ·intro rc2 j hj hv2 ih2
     have l1:mt n le i j<F.length:=by rw[hl];exact h.mlt hi hj
     have l2:mt n (du le) i j<F.length:=by rw[hl];exact jlt h hi hj
     have l3:i<F.length:=by omega
     have l4:j<F.length:=by omega
     have l5:=hF _ (we l3)
     have l6:=hF _ (we l4)
     unfold wju
     simp only[cdt (show(j:Int)<(n:Int) by omega),obS,lat2,lat3,jd hi,jd hj,wd l1,wd l2,wd l3,wd l4,jd l5,jd l6,wr1 (show j≤4611686018427387904 by omega)]
     by_cases c1:F.getD (mt n le i j) 0=mt m le' (F.getD i 0) (F.getD j 0)
     ·rw[cdf (by simp only[c1,ne_eq,not_true_eq_false,not_false_eq_true])]
      by_cases c2:F.getD (mt n (du le) i j) 0=mt m (du le') (F.getD i 0) (F.getD j 0)
      ·rw[cdf (by simp only[c2,ne_eq,not_true_eq_false,not_false_eq_true])]
       exact ih2 (all_lt_succ.2 ⟨hv2,c1,c2⟩)
      ·rw[cdt (show((_:Nat):Int)≠((_:Nat):Int) from fun c=>c2 (Int.ofNat.inj c)),tv_f fun hh=>c2 (hh.maps i j hi hj).2]
     ·rw[cdt (show((_:Nat):Int)≠((_:Nat):Int) from fun c=>c1 (Int.ofNat.inj c)),tv_f fun hh=>c1 (hh.maps i j hi hj).1]
    ·intro rc2 hv2
     unfold wju
     rw[cdf (by omega),wfl,wr1 (by omega)]
     have ih':=ih (all_lt_succ.2 ⟨hv,hv2⟩)
     rw[hl]at ih'
     exact ih'
   ·intro rc hv
    unfold wfm
    rw[cdf (by omega),ze,tv_t ⟨e1,e2,fun x y hx hy=>hv x hx y hy⟩]
  ·rw[cdt (show((_:Nat):Int)≠((_:Nat):Int) from fun c=>e2 (Int.ofNat.inj c)),tv_f fun hh=>e2 hh.top]
 ·rw[cdt (show((_:Nat):Int)≠((_:Nat):Int) from fun c=>e1 (Int.ofNat.inj c)),tv_f fun hh=>e1 hh.bot]
theorem xeg {n m:Nat}{le le':Nat→Nat→Bool}(h:LatP n le) (h':LatP m le'){F:List Nat}(hl:F.length=n) (hF:∀x∈F,x<m) (hhas:(cs F).all (inB m)=true):V88 big (pos n le) (pos m le') (cs F)=some (tv (LMp n m le le' F),()):=by
 have h10:=h.le10
 have h10':=h'.le10
 have b1:bt n le<F.length:=by rw[hl];exact wl h
 have b2:tp n le<F.length:=by rw[hl];exact w7 h
 unfold V88 wqe
 simp only[obS,wb,cs_len,cdf (show ¬(F.length:Int)≠(n:Int) by omega),xl m (cs F) (show m≤1099511627776 by omega) (show(cs F).length≤4294967296 by rw[cs_len];omega),hhas,Bool.not_true,cond_false,wq h,wq h',xj h,xj h',wd b1,wd b2]
 by_cases e1:F.getD (bt n le) 0=bt m le'
 ·rw[cdf (by simp only[e1,ne_eq,not_true_eq_false,not_false_eq_true])]
  by_cases e2:F.getD (tp n le) 0=tp m le'
  ·rw[cdf (by simp only[e2,ne_eq,not_true_eq_false,not_false_eq_true])]
   refine xm0 n (fun i=>∀x,x<i→∀y,y<x→LMc n m le le' F x y) (by omega) ?_ ?_ 0 (by omega) (by intro x hx;omega)
   ·intro rc i hi hv ih
    unfold wgd
    rw[cs_len,cdt (by omega)]
    refine xm1 i (fun j=>∀y,y<j→LMc n m le le' F i y) (by omega) ?_ ?_ 0 (by omega) (by intro x hx;omega)
    ·intro rc2 j hj hv2 ih2
     have hjn:j<n:=by omega
     have l1:mt n le i j<F.length:=by rw[hl];exact h.mlt hi hjn
     have l2:mt n (du le) i j<F.length:=by rw[hl];exact jlt h hi hjn
     have l3:i<F.length:=by omega
     have l4:j<F.length:=by omega
     have l5:=hF _ (we l3)
     have l6:=hF _ (we l4)
     unfold wke
     simp only[cdt (show(j:Int)<(i:Int) by omega),obS,xb h hi hjn,w5 h hi hjn,wd l1,wd l2,wd l3,wd l4,xb h' l5 l6,w5 h' l5 l6,wr1 (show j≤4611686018427387904 by omega)]
     by_cases c1:F.getD (mt n le i j) 0=mt m le' (F.getD i 0) (F.getD j 0)
     ·rw[cdf (by simp only[c1,ne_eq,not_true_eq_false,not_false_eq_true])]
      by_cases c2:F.getD (mt n (du le) i j) 0=mt m (du le') (F.getD i 0) (F.getD j 0)
      ·rw[cdf (by simp only[c2,ne_eq,not_true_eq_false,not_false_eq_true])]
       exact ih2 (all_lt_succ.2 ⟨hv2,c1,c2⟩)
      ·rw[cdt (show((_:Nat):Int)≠((_:Nat):Int) from fun c=>c2 (Int.ofNat.inj c)),tv_f fun hh=>c2 (hh.maps i j hi hjn).2]
     ·rw[cdt (show((_:Nat):Int)≠((_:Nat):Int) from fun c=>c1 (Int.ofNat.inj c)),tv_f fun hh=>c1 (hh.maps i j hi hjn).1]
    ·intro rc2 hv2
     unfold wke
     rw[cdf (by omega),wgc,wr1 (by omega)]
     exact ih (all_lt_succ.2 ⟨hv,hv2⟩)
   ·intro rc hv
    unfold wgd
    rw[cs_len,cdf (by omega),zj,tv_t (P:=LMp n m le le' F) ⟨e1,e2,(xk5 h h' hl hF).1 fun x y hx hy=>hv x hx y hy⟩]
  ·rw[cdt (show((_:Nat):Int)≠((_:Nat):Int) from fun c=>e2 (Int.ofNat.inj c)),tv_f fun hh=>e2 hh.top]
 ·rw[cdt (show((_:Nat):Int)≠((_:Nat):Int) from fun c=>e1 (Int.ofNat.inj c)),tv_f fun hh=>e1 hh.bot]
theorem wrf {m:Nat}{le':Nat→Nat→Bool}(h:BoolP m le'){a y z:Nat}(ha:a<m) (hy:y<m) (hz:z<m) (hc:cov m le' (bt m le') a=true) (hj:le' a (mt m (du le') y z)=true):le' a y=true∨le' a z=true:=by
 have L:=h.lp
 have hls:=wrj hc
 have key:∀w,w<m→le' a w=true∨mt m le' a w=bt m le':=fun w hw=>by
  have l1:=L.mlt ha hw
  by_cases e:mt m le' a w=a
  ·exact .inl (by rw[←e];exact L.m2 ha hw)
  ·by_cases e2:bt m le'=mt m le' a w
   ·exact .inr e2.symm
   ·have c1:ls le' (bt m le') (mt m le' a w)=true:=by unfold ls;simp[e2,xi L l1]
    have c2:ls le' (mt m le' a w) a=true:=by unfold ls;simp[e,L.m1 ha hw]
    rw[wt5 l1 c1 c2]at hc
    exact absurd hc (by simp)
 rcases key y hy with e1|e1
 ·exact .inl e1
 ·rcases key z hz with e2|e2
  ·exact .inr e2
  ·exfalso
   have e:=h.dis a y z ha hy hz
   rw[e1,e2,yn L.du (wl L)]at e
   have lj:=jlt L hy hz
   have:mt m le' a (mt m (du le') y z)=a:=L.as (L.mlt ha lj) ha (L.m1 ha lj) (L.mg ha lj ha (L.ord.refl a ha) hj)
   rw[this]at e
   unfold ls at hls
   simp[e]at hls
theorem wmt {n m:Nat}{le le':Nat→Nat→Bool}(h:BoolP n le) (h':BoolP m le'){F:List Nat}(hl:F.length=n) (hF:∀x∈F,x<m) (hm:LMp n m le le' F){a:Nat}(ha:a<m) (hc:cov m le' (bt m le') a=true):∃k,k<(atm n le).length∧le' a (F.getD ((atm n le).getD k 0) 0)=true:=by
 have L:=h.lp
 have L':=h'.lp
 have hFl:∀x,x<n→F.getD x 0<m:=fun x hx=>hF _ (we (by omega))
 suffices hh:∀d x,x<n→(fl n fun z=>ls le z x).length<d→le' a (F.getD x 0)=true→∃k,k<(atm n le).length∧le' a (F.getD ((atm n le).getD k 0) 0)=true from
  hh _ (tp n le) (w7 L) (Nat.lt_succ_self _) (by rw[hm.top];exact yq L' ha)
 intro d
 induction d with
 | zero=>intro x _ hd;omega
 | succ d ih =>
  intro x hx hd hax
  by_cases e0:bt n le=x
  ·exfalso
   rw[←e0,hm.bot]at hax
   have:=L'.as ha (wl L') hax (xi L' ha)
   have hls:=wrj hc
   unfold ls at hls
   simp[this]at hls
  ·by_cases ec:cov n le (bt n le) x=true
   ·have:x∈atm n le:=fl_mem.2 ⟨hx,ec⟩
    obtain⟨k,hk,e⟩:=List.getElem_of_mem this
    exact⟨k,hk,by rw[wg hk,e];exact hax⟩
   ·have h0:ls le (bt n le) x=true:=by unfold ls;simp[e0,xi L hx]
    have hex:∃z,z<n∧ls le (bt n le) z=true∧ls le z x=true:=by
     by_cases q:∃z,z<n∧ls le (bt n le) z=true∧ls le z x=true
     ·exact q
     ·exact absurd (wt6 h0 fun z hz hzz=>q ⟨z,hz,hzz⟩) ec
    obtain⟨y,hy,y1,y2⟩:=hex
    obtain⟨q1,q2,q3⟩:=w6 h.cmp hy
    have lw:=L.mlt hx q1
    have hyx:le y x=true:=by unfold ls at y2;simp at y2;exact y2.2
    have e:=h.dis x (cpl n le y) y hx q1 hy
    rw[q3]at e
    have et:mt n le x (tp n le)=x:=L.as (L.mlt hx (w7 L)) hx (L.m1 hx (w7 L)) (L.mg hx (w7 L) hx (L.ord.refl x hx) (yq L hx))
    have ey:mt n le x y=y:=L.as (L.mlt hx hy) hy (L.m2 hx hy) (L.mg hx hy hy hyx (L.ord.refl y hy))
    rw[et,ey]at e
    have hmp:=(hm.maps (mt n le x (cpl n le y)) y lw hy).2
    rw[←e]at hmp
    rw[hmp]at hax
    have dn:∀w,w<n→ls le w x=true→(fl n fun z=>ls le z w).length<(fl n fun z=>ls le z x).length:=fun w hw hwx=>w5j (fun z hz hzw=>xhh L hz hw hx hzw hwx) hw hwx xei
    rcases wrf h' ha (hFl _ lw) (hFl y hy) hc hax with c|c
    ·have hwx:ls le (mt n le x (cpl n le y)) x=true:=by
      unfold ls
      rw[L.m1 hx q1,Bool.and_true,decide_eq_true_eq]
      intro ew
      have h1:le x (cpl n le y)=true:=by rw[←ew];exact L.m2 hx q1
      have h2:=L.tr hy hx q1 hyx h1
      have h3:=wzc h (wl L) hy hy (L.ord.refl y hy) h2
      have h4:=L.as hy (wl L) h3 (xi L hy)
      unfold ls at y1
      simp[h4]at y1
     exact ih _ lw (by have:=dn _ lw hwx;omega) c
    ·exact ih _ hy (by have:=dn _ hy y2;omega) c
def amv (n m:Nat) (le le':Nat→Nat→Bool) (F:List Nat) (a:Nat):Nat:=fst_ (atm n le).length fun k=>le' a (F.getD ((atm n le).getD k 0) 0)
theorem wb7 {n m:Nat}{le le':Nat→Nat→Bool}(h:BoolP n le) (h':BoolP m le'){F:List Nat}(hl:F.length=n) (hF:∀x∈F,x<m) (hm:LMp n m le le' F) :
  wpn big (cs F) (some (lat n le)) (some (lat m le')) [] (cs (atm m le')) ((atm m le').length:Int) 0=some (((atm m le').map fun a=>((amv n m le le' F a:Nat):Int),true,()),()) ∧
  wqf big (cs F) (pos m le') [] (cs (atm m le')) (cs (atm n le)) 0=some (((atm m le').map fun a=>((amv n m le le' F a:Nat):Int),true,()),()):=by
 have h10:=h.lp.le10
 have h10':=h'.lp.le10
 have hAl:=w8 n le
 have hBl:=w8 m le'
 constructor
 ·refine xmp (atm m le').length (fun i l=>l=((atm m le').take i).map fun a=>((amv n m le le' F a:Nat):Int)) (by omega) ?_ ?_ 0 (by omega) _ rfl
  ·intro rc i l hi hv ih
   have hm1:=fl_mem.1 (List.getElem_mem hi)
   obtain⟨k0,hk0,hp0⟩:=wmt h h' hl hF hm hm1.1 hm1.2
   obtain⟨f1,f2,f3,f4⟩:=whc (P:=fun k=>le' (atm m le')[i] (F.getD ((atm n le).getD k 0) 0)) hk0 hp0
   unfold wfp
   simp only[cdt (show(i:Int)<((atm m le').length:Int) by omega),jo hi,Int.toNat_natCast,jz hi,obS,wv h.lp,cs_len]
   refine xmq (atm n le).length (fun k=>k≤amv n m le le' F (atm m le')[i]) (by omega) ?_ ?_ 0 (by omega) (by omega)
   ·intro rc2 k hk hv2 ih2
    have lk:=w9 _ (we hk)
    have lF:(atm n le).getD k 0<F.length:=by rw[hl];exact lk
    have lF2:=hF _ (we lF)
    unfold wpr
    simp only[cdt (show(k:Int)<((atm n le).length:Int) by omega),wd hk,Int.toNat_natCast,wy hk,obS,lat1,jd hm1.1,wd lF,jd lF2,wr1 (show k≤4611686018427387904 by omega)]
    by_cases e:k=amv n m le le' F (atm m le')[i]
    ·have:le' (atm m le')[i] (F.getD ((atm n le).getD k 0) 0)=true:=by rw[e];exact f2
     rw[this,cond_true,app1 (by rw[hv,List.length_map,List.length_take];omega),obS,wfo,wr1 (by omega)]
     exact ih _ (by rw[hv,map_take hi,e])
    ·have:le' (atm m le')[i] (F.getD ((atm n le).getD k 0) 0)=false:=f3 k (by unfold amv at *;omega)
     rw[this,cond_false]
     exact ih2 (by omega)
   ·intro rc2 hv2
    exact absurd f1 (by unfold amv at *;omega)
  ·intro rc l hv
   rw[List.take_length]at hv
   unfold wfp
   rw[cdf (by omega),zf,hv]
 ·refine xm2 (atm m le').length (fun i l=>l=((atm m le').take i).map fun a=>((amv n m le le' F a:Nat):Int)) (by omega) ?_ ?_ 0 (by omega) _ rfl
  ·intro rc i l hi hv ih
   have hm1:=fl_mem.1 (List.getElem_mem hi)
   obtain⟨k0,hk0,hp0⟩:=wmt h h' hl hF hm hm1.1 hm1.2
   obtain⟨f1,f2,f3,f4⟩:=whc (P:=fun k=>le' (atm m le')[i] (F.getD ((atm n le).getD k 0) 0)) hk0 hp0
   unfold wgg
   rw[cs_len,cdt (by omega)]
   refine xm3 (atm n le).length (fun k=>k≤amv n m le le' F (atm m le')[i]) (by omega) ?_ ?_ 0 (by omega) (by omega)
   ·intro rc2 k hk hv2 ih2
    have lk:=w9 _ (we hk)
    have lF:(atm n le).getD k 0<F.length:=by rw[hl];exact lk
    have lF2:=hF _ (we lF)
    unfold wqj
    simp only[jo hi,Int.toNat_natCast,jz hi,wd hk,wy hk,obS,wd lF,wo (le:=le') (show m≤4294967296 by omega) hm1.1 lF2,wr1 (show k≤4611686018427387904 by omega)]
    by_cases e:k=amv n m le le' F (atm m le')[i]
    ·have:le' (atm m le')[i] (F.getD ((atm n le).getD k 0) 0)=true:=by rw[e];exact f2
     rw[this,Bool.not_true,cond_false,wgf,app1 (by rw[hv,List.length_map,List.length_take];omega),obS,wr1 (by omega)]
     exact ih _ (by rw[hv,map_take hi,e])
    ·have:le' (atm m le')[i] (F.getD ((atm n le).getD k 0) 0)=false:=f3 k (by unfold amv at *;omega)
     rw[this,Bool.not_false,cond_true]
     exact ih2 (by omega)
   ·intro rc2 hv2
    exact absurd f1 (by unfold amv at *;omega)
  ·intro rc l hv
   rw[List.take_length]at hv
   unfold wgg
   rw[cs_len,cdf (by omega),zk,hv]
theorem w5f (p q:PT) (f:List Int) (hp:∀r∈p.1,r.length≤4294967296) (hq:∀r∈q.1,r.length≤4294967296) (hf:f.length≤1048576) :
  ∃v:List Int×Bool×Unit,V89 big p q f=some (v,())∧V80 big p q f=some (v,())∧v.1.length≤10:=by
 unfold V89 w4q V80 wps
 rcases wi hp with⟨n,le,e,h,h1,h2⟩|⟨h1,l,h2⟩
 ·rcases wi hq with⟨m,le',e',h',h1',h2'⟩|⟨h1',l',h2'⟩
  ·rw[h1,h1',wh h2 h2']
   subst e;subst e'
   have h10:=h.lp.le10
   have h10':=h'.lp.le10
   have hBl:=w8 m le'
   simp only[obS,Bool.and_self,Bool.not_true,cond_false]
   have bad:∀{a b:Option (Bool×Unit)},a=some (false,())→b=some (false,())→True:=fun _ _=>trivial
   by_cases hgl:f.length=n
   ·cases hga:f.all (inB m) with
    | false =>
     have e1:V88 big (pos n le) (pos m le') f=some (false,()):=by
      unfold V88 wqe
      rw[wb,wb,cdf (by omega),xl m f (by omega) (by omega),hga];rfl
     have e2:V78 big (some (lat n le)) (some (lat m le')) f=some (false,()):=by
      unfold V78 wg7
      rw[obS,lat1,mkR_len,cdf (by omega),obS,lat1,wrl f (by omega),hga];rfl
     rw[e1,e2]
     exact⟨_,rfl,rfl,by simp⟩
    | true =>
     obtain⟨F,e1,hF⟩:=xx hga
     subst e1
     rw[cs_len]at hgl
     rw[wck h.lp h'.lp hgl hF hga,xeg h.lp h'.lp hgl hF hga]
     by_cases hm:LMp n m le le' F
     ·obtain⟨r1,r2⟩:=wb7 h h' hgl hF hm
      simp only[tv_t hm,obS,Bool.not_true,cond_false,wv h.lp,wv h'.lp,ww h.lp,ww h'.lp,cs_len,r1,r2]
      exact⟨_,rfl,rfl,by simp only[List.length_map];omega⟩
     ·rw[tv_f hm]
      exact⟨_,rfl,rfl,by simp⟩
   ·have e1:V88 big (pos n le) (pos m le') f=some (false,()):=by
     unfold V88 wqe
     rw[wb,wb,cdt (by omega)]
    have e2:V78 big (some (lat n le)) (some (lat m le')) f=some (false,()):=by
     unfold V78 wg7
     rw[obS,lat1,mkR_len,cdt (by omega)]
    rw[e1,e2]
    exact⟨_,rfl,rfl,by simp⟩
  ·rw[h1,h1',wh h2 h2']
   exact⟨_,rfl,rfl,by simp⟩
 ·rcases wi hq with⟨m,le',e',h',h1',h2'⟩|⟨h1',l',h2'⟩
  ·rw[h1,wh h2 h2']
   exact⟨_,rfl,rfl,by simp⟩
  ·rw[h1,wh h2 h2']
   exact⟨_,rfl,rfl,by simp⟩
structure Pt (n:Nat) (P:Nat→Nat):Prop where
 lo:∀x,x<n→P x≤x
 id:∀x,x<n→P (P x)=P x
theorem Pt.lt {n:Nat}{P:Nat→Nat}(h:Pt n P){x:Nat}(hx:x<n):P x<n:=Nat.lt_of_le_of_lt (h.lo x hx) hx
def Lep (n:Nat) (P C:Nat→Nat):Prop:=∀x,x<n→C (P x)=C x
theorem Lep.refl {n:Nat}{P:Nat→Nat}(h:Pt n P):Lep n P P:=h.id
theorem Lep.trans {n:Nat}{P Q C:Nat→Nat}(h:Pt n P) (h1:Lep n P Q) (h2:Lep n Q C):Lep n P C:=fun x hx=>by
 have e1:=h1 x hx
 have e2:=h2 (P x) (h.lt hx)
 have e3:=h2 x hx
 rw[←e2,e1,e3]
theorem wml {b i:Nat}(hb:b≤4611686018427387904) (hi:i≤10):shrI IntKind.i64 (b:Int) (i:Int)=some ((b / 2 ^ i:Nat):Int):=by
 unfold shrI
 rw[if_neg (by omega),Int.toNat_natCast,show min i IntKind.i64.bits=i from Nat.min_eq_left (by have:IntKind.i64.bits=64:=rfl;omega)]
 have e:((2:Int) ^ i)=((2 ^ i:Nat):Int):=by simp
 rw[e,Int.fdiv_eq_ediv_of_nonneg _ (Int.natCast_nonneg _),Int.natCast_ediv]
theorem wye {x:Nat}(hx:x≤4611686018427387904):bitI .and IntKind.i64 (x:Int) 1=((x % 2:Nat):Int):=by
 unfold bitI
 show IntKind.i64.wrap ((BitVec.ofInt 64 (x:Int) &&& BitVec.ofInt 64 1).toNat:Int)=_
 rw[BitVec.toNat_and,BitVec.toNat_ofInt,BitVec.toNat_ofInt]
 have e1:((x:Int) % ((2 ^ 64:Nat):Int)).toNat=x:=by
  rw[show((2 ^ 64:Nat):Int)=18446744073709551616 from rfl];omega
 have e2:((1:Int) % ((2 ^ 64:Nat):Int)).toNat=1:=by
  rw[show((2 ^ 64:Nat):Int)=18446744073709551616 from rfl];omega
 rw[e1,e2,Nat.and_one_is_mod,wr (by omega) (by omega)]
theorem w5p (a b:List Int) (ha:a.length≤4294967296) (hb:b.length≤4294967296):V100 big a b=some (tv (∀x∈a,x∈b),()):=by
 unfold V100 wt8
 refine xhj a.length (fun i=>∀x∈a.take i,x∈b) (by omega) ?_ ?_ 0 (by omega) (by simp)
 ·intro rc i hi hv ih
  unfold wcp
  rw[cdt (by omega),jf a i hi,obS,ws6 b _ hb,obS,wr1 (by omega)]
  by_cases c:a[i]∈b
  ·rw[cdf (fun h=>h c)]
   exact ih ((qp hi).2 ⟨hv,c⟩)
  ·rw[cdt c,tv_f fun h=>c (h _ (List.getElem_mem hi))]
 ·intro rc hv
  rw[List.take_length]at hv
  unfold wcp
  rw[cdf (by omega),zx,tv_t hv]
theorem xee (a b:List Int) (h:a.length=b.length) (h2:a.length≤4294967296):V105 big a b=some (lx a b,()):=by
 unfold V105 wug
 refine xhp a.length (fun i=>lx a b=lx (a.drop i) (b.drop i)) (by omega) ?_ ?_ 0 (by omega) rfl
 ·intro rc i hi hv ih
  have hib:i<b.length:=by omega
  unfold wc0
  simp only[cdt (show(i:Int)<(a.length:Int) by omega),jf a i hi,jf b i hib,obS,wr1 (show i≤4611686018427387904 by omega)]
  rw[xkz hi hib]at hv
  by_cases e:a[i]=b[i]
  ·rw[cdf (by simp[e])]
   rw[if_neg (by simp[e])]at hv
   exact ih hv
  ·rw[cdt e,hv,if_pos e]
 ·intro rc hv
  rw[List.drop_length]at hv
  unfold wc0
  rw[cdf (by omega),waa,hv];rfl
inductive Wd where
 | v (n:Int)
 | op (g:Int) (a b:Wd)
def Wd.fl:Wd→List Int
 | .v n=>[n]
 | .op g a b=>g::(a.fl++b.fl)
def Wd.hd:Wd→Int
 | .v n=>n
 | .op g _ _=>g
def Wd.ok:Wd→Prop
 | .v n=>0≤n∧n<5
 | .op g a b=>(g = -1∨g = -2)∧a.ok∧b.ok
theorem Wd.pos:∀A:Wd,0<A.fl.length
 | .v n=>by simp[Wd.fl]
 | .op g a b=>by simp[Wd.fl]
def wle:Wd→Wd→Bool
 | .v n,.v m=>decide (n=m)
 | .v n,.op h c d=>if h = -1 then wle (.v n) c&&wle (.v n) d else wle (.v n) c||wle (.v n) d
 | .op g a b,.v m=>if g = -2 then wle a (.v m)&&wle b (.v m) else wle a (.v m)||wle b (.v m)
 | .op g a b,.op h c d=>if g = -2 then wle a (.op h c d)&&wle b (.op h c d) else if h = -1 then wle (.op g a b) c&&wle (.op g a b) d else(wle a (.op h c d)||wle b (.op h c d))||(wle (.op g a b) c||wle (.op g a b) d)
  termination_by A B=>A.fl.length+B.fl.length
  decreasing_by all_goals (simp[Wd.fl];try omega)
def At (s:List Int) (i:Nat) (A:Wd):Prop:=A.ok∧∃r,s.drop i=A.fl++r
theorem At.lt {s:List Int}{i:Nat}{A:Wd}(h:At s i A):i+A.fl.length≤s.length:=by
 obtain⟨_,r,e⟩:=h
 have:=congrArg List.length e
 have:=A.pos
 simp only[List.length_drop,List.length_append]at *
 omega
theorem At.head {s:List Int}{i:Nat}{A:Wd}(h:At s i A):atI s (i:Int)=some A.hd:=by
 have hl:=h.lt
 have hp:=A.pos
 obtain⟨_,r,e⟩:=h
 rw[qc]
 have:s[i]? = (s.drop i)[0]? := by rw[List.getElem?_drop];rfl
 rw[this,e]
 cases A<;>simp[Wd.fl,Wd.hd]
def ea (E:List P2) (i:Nat):Nat:=(E.getD i (0,0,())).1.toNat
def eb (E:List P2) (i:Nat):Nat:=(E.getD i (0,0,())).2.1.toNat
theorem xft (n:Nat) (P:Nat→Bool):(fl n P).Nodup:=List.nodup_range.filter _
abbrev Cu:=List Int×Int×Int×Unit
def COk (k:Nat) (c:Cu):Prop:=0≤c.2.1∧c.2.1+k≤4611686018427387904∧c.1.length≤65536∧∀x∈c.1,0≤x∧x≤255
theorem and255 (x:Int):∃n:Nat,n≤255∧bitI .and .u64 x 255=(n:Int):=by
 refine⟨(BitVec.ofInt IntKind.u64.bits x &&& BitVec.ofInt IntKind.u64.bits 255).toNat, ?_, ?_⟩
 ·rw[BitVec.toNat_and]
  exact Nat.le_trans Nat.and_le_right (by decide)
 ·have h:(BitVec.ofInt IntKind.u64.bits x &&& BitVec.ofInt IntKind.u64.bits 255).toNat≤255:=by
   rw[BitVec.toNat_and]
   exact Nat.le_trans Nat.and_le_right (by decide)
  unfold bitI
  exact IntWalk.u64_in _ (by omega)
theorem wyl {k:Nat}{c:Cu}(h:COk (k+1) c):∃v c',V1 c=some (v,(c',()))∧0≤v∧v≤255∧COk k c':=by
 obtain⟨h0,h1,h2,h3⟩:=h
 obtain⟨l,a,s,u⟩:=c
 simp only at h0 h1 h2 h3
 have hw:IntKind.i64.wrap (a+1)=a+1:=wr (by omega) (by omega)
 have key:∀s':Int,COk k (l,a+1,s',u):=fun s'=>⟨by show 0≤a+1;omega,by show a+1+k≤_;omega,h2,h3⟩
 have tail:∀s':Int,∃v c',((shrI IntKind.u64 s' (40:Int)).bind fun xq=>some (IntKind.i64.wrap (bitI .and IntKind.u64 xq (255:Int)),((l,a+1,s',u),())))=some (v,(c',()))∧0≤v∧v≤255∧COk k c':=by
  intro s'
  obtain⟨n,hn,e⟩:=and255 (s'.fdiv (2 ^ min (40:Int).toNat IntKind.u64.bits))
  unfold shrI
  rw[if_neg (by omega),obS,e,wr (by omega) (by omega)]
  exact⟨_,_,rfl,by omega,by omega,key s'⟩
 unfold V1 V1_s
 dsimp only
 rw[hw]
 by_cases ha:a<(l.length:Int)
 ·rw[cdt ha]
  have hal:a.toNat<l.length:=by omega
  have e:atI l a=some l[a.toNat]:=by
   have:=jf l a.toNat hal
   rwa [show((a.toNat:Nat):Int)=a by omega]at this
  have hb:=h3 _ (List.getElem_mem hal)
  rw[e,obS]
  by_cases c:a+1≤(l.length:Int)
  ·rw[cdt c,wr (by omega) (by omega)]
   exact⟨_,_,rfl,hb.1,hb.2,key _⟩
  ·rw[cdf c]
   exact tail _
 ·rw[cdf ha]
  by_cases c:a+1≤(l.length:Int)
  ·rw[cdt c]
   exact⟨_,_,rfl,by omega,by omega,key _⟩
  ·rw[cdf c]
   exact tail _
theorem COk.mono {k j:Nat}{c:Cu}(h:COk k c) (hj:j≤k):COk j c:=by
 obtain⟨h0,h1,h2,h3⟩:=h
 exact⟨h0,by omega,h2,h3⟩
theorem wy1 {a n:Int}(ha:0≤a) (hn:0<n):∃v,remI a n=some v∧0≤v∧v<n:=by
 refine⟨a.tmod n, ?_,Int.tmod_nonneg n ha,Int.tmod_lt_of_pos a hn⟩
 unfold remI
 rw[if_neg (by omega)]
theorem wk {k:Nat}{c:Cu}(h:COk (k+2) c) (n:Int):∃v c',V2 c n=some (v,(c',()))∧0≤v∧(1≤n→v<n)∧COk k c':=by
 unfold V2 V2_s
 by_cases h1:n≤1
 ·rw[cdt h1]
  exact⟨_,_,rfl,by omega,by omega,h.mono (by omega)⟩
 ·obtain⟨v,c1,e1,a1,a2,k1⟩:=wyl (k:=k+1) h
  rw[cdf h1,e1,obS]
  by_cases h2:200<n
  ·obtain⟨v2,c2,e2,b1,b2,k2⟩:=wyl k1
   rw[cdt h2]
   dsimp only
   rw[e2,obS]
   dsimp only
   rw[wr (n:=v*256) (by omega) (by omega),wr (by omega) (by omega)]
   obtain⟨z,ez,z0,z1⟩:=wy1 (a:=v*256+v2) (n:=n) (by omega) (by omega)
   rw[ez,obS]
   exact⟨_,_,rfl,z0,fun _=>z1,k2⟩
  ·rw[cdf h2]
   dsimp only
   obtain⟨z,ez,z0,z1⟩:=wy1 (a:=v) (n:=n) a1 (by omega)
   rw[ez,obS]
   exact⟨_,_,rfl,z0,fun _=>z1,k1.mono (by omega)⟩
theorem xf {k:Nat}{c:Cu}(h:COk (k+2) c) (n:Int):∃b c',V3 c n=some (b,(c',()))∧COk k c':=by
 obtain⟨v,c1,e1,_,_,k1⟩:=wk h n
 unfold V3 V3_s
 rw[e1,obS]
 exact⟨_,_,rfl,k1⟩
theorem zq {k:Nat}{c:Cu}(h:COk (k+2) c){l:List Int}(hl:l≠[]):∃v c',V4 c l=some (v,(c',()))∧v∈l∧COk k c':=by
 obtain⟨v,c1,e1,h0,h1,k1⟩:=wk h (l.length:Int)
 have hp:=List.length_pos_iff.2 hl
 have hv:=h1 (by omega)
 have hvl:v.toNat<l.length:=by omega
 have e:atI l v=some l[v.toNat]:=by
  have:=jf l v.toNat hvl
  rwa [show((v.toNat:Nat):Int)=v by omega]at this
 unfold V4 V4_s
 rw[e1,obS]
 dsimp only
 rw[e,obS]
 exact⟨_,_,rfl,List.getElem_mem hvl,k1⟩
def Codes (code:List Int):Prop:=code.length≤65536∧∀x∈code,0≤x∧x≤255
theorem Codes.start {code:List Int}(h:Codes code):COk 10000 (code,(0:Int),(0:Int),()):=⟨Int.le_refl _,by show(0:Int)+(10000:Nat)≤_;omega,h.1,h.2⟩
abbrev PTd:=List (List Int)×Unit
def DrP (m:Nat) (p:PTd):Prop:=p.1.length≤m∧∀r∈p.1,r.length≤m
theorem wyn {n:Int}(h1 : -1000≤n) (h2:n≤1000){l:List Int}(hl:l.length≤1000):∃b,V7 big n l=some (b,())∧(b=true→∀x∈l,0≤x∧x<n):=by
 unfold V7 V7_s
 refine xnr (Q:=fun r=>∃b,r=some (b,())∧(b=true→∀x∈l,0≤x∧x<n)) l.length (fun i=>∀x∈l.take i,0≤x∧x<n) (by omega) (fun rc i hi hI hr => ?_) (fun rc hI => ?_) 0 (by omega) (by simp)
 ·unfold zu
  rw[cdt (by omega),jf l i hi,obS,wst,obS,wr (by omega) (by omega)]
  by_cases c:0≤l[i]∧l[i]≤n-1
  ·rw[decide_eq_true c]
   simp only[Bool.not_true,cond_false]
   rw[wr (by omega) (by omega)]
   refine hr fun x hx => ?_
   rw[List.take_succ_eq_append_getElem hi,List.mem_append,List.mem_singleton]at hx
   rcases hx with hx|rfl
   ·exact hI x hx
   ·omega
  ·rw[decide_eq_false c]
   simp only[Bool.not_false,cond_true]
   exact⟨_,rfl,fun h=>by cases h⟩
 ·unfold zu yp
  rw[cdf (by omega)]
  refine⟨_,rfl,fun _ => ?_⟩
  have hI:∀x∈l.take l.length,0≤x∧x<n:=hI
  rwa [List.take_of_length_le (Nat.le_refl _)]at hI
theorem wm0 {n:Nat}(hn:n≤1000){l:List Int}(hl:l.length≤1000):∃b,V8 big l (n:Int)=some (b,())∧(b=true→l.length=n∧∀x∈l,0≤x∧x<n):=by
 unfold V8 V8_s
 by_cases h:(l.length:Int)≠(n:Int)
 ·rw[cdt h]
  exact⟨_,rfl,fun h=>by cases h⟩
 ·rw[cdf h]
  have hln:l.length=n:=by omega
  obtain⟨b,e,hb⟩:=wyn (n:=(n:Int)) (by omega) (by omega) hl
  rw[e,obS]
  cases b with
  | false=>exact⟨_,rfl,fun h=>by cases h⟩
  | true =>
   have hb:=hb rfl
   simp only[Bool.not_true,cond_false]
   rw[uo false n (by omega),obS,obS,cdt (by omega)]
   refine xnt (Q:=fun r=>∃b,r=some (b,())∧(b=true→l.length=n∧∀x∈l,0≤x∧x<n)) n (fun i s=>s.length=n) (by omega) (fun rc i s hi hI hr => ?_) (fun rc s hI => ?_) 0 (by omega) _ (by simp)
   ·unfold wql
    have hil:i<l.length:=by omega
    have hx:=hb _ (List.getElem_mem hil)
    have hxl:l[i].toNat<s.length:=by rw[hI];omega
    have ea:atI s l[i]=some s[l[i].toNat]:=by
     have:=jf s l[i].toNat hxl
     rwa [show((l[i].toNat:Nat):Int)=l[i] by omega]at this
    rw[cdt (by omega),jf l i hil,obS,ea,obS,List.getElem?_eq_getElem hxl,obS]
    cases s[l[i].toNat] with
    | true=>exact⟨_,rfl,fun h=>by cases h⟩
    | false =>
     rw[cond_false,obS,ea,obS,List.getElem?_eq_getElem hxl,obS,wr (by omega) (by omega)]
     exact hr _ (by simpa using hI)
   ·unfold wql wmb
    rw[cdf (by omega)]
    exact⟨_,rfl,fun _=>⟨hln,hb⟩⟩
theorem whf {k n:Nat}(hn:n≤1000){c:Cu}(h:COk (k+2*n+6) c):∃l c',V5 big c (n:Int)=some (l,(c',()))∧l.length≤n+1∧COk k c':=by
 unfold V5 V5_s
 refine xnp (Q:=fun r=>∃l c',r=some (l,(c',()))∧l.length≤n+1∧COk k c') n (fun i c l=>l.length=i∧COk (k+2*(n-i)+6) c) (by omega) (fun rc i c l hi hI hr => ?_) (fun rc c l hI => ?_) 0 (by omega) _ _ ⟨rfl,by simpa using h⟩
 ·obtain⟨hl,hc⟩:=hI
  unfold wo6
  obtain⟨v,c',e,v0,v1,hc'⟩:=wk (k:=k+2*(n-(i+1))+6) (hc.mono (by omega)) ((l.length:Int)+1)
  have hv:=v1 (by omega)
  rw[cdt (by omega),wr (n:=(l.length:Int)+1) (by omega) (by omega),e,obS]
  dsimp only
  have s1:slI l 0 v=some ((l.drop 0).take (v-0).toNat):=by unfold slI;rw[if_pos (by omega)];rfl
  have s2:slI l v (l.length:Int)=some ((l.drop v.toNat).take ((l.length:Int)-v).toNat):=by unfold slI;rw[if_pos (by omega)]
  rw[s1,obS,jk (by simp;omega),obS,jk (by simp;omega),obS,s2,obS,jk (by simp;omega),obS,wr (by omega) (by omega)]
  refine hr _ _ ⟨?_,hc'⟩
  simp
  omega
 ·obtain⟨hl,hc⟩:=hI
  unfold wo6 wl1
  rw[cdf (by omega)]
  obtain⟨v,c',e,v0,v1,hc'⟩:=wk (k:=k+4) (hc.mono (by omega)) 24
  rw[e,obS]
  dsimp only
  by_cases h0:v=0
  ·rw[cdt h0,jk (by simp;omega),obS]
   exact⟨_,_,rfl,by simp[hl],hc'.mono (by omega)⟩
  ·rw[cdf h0]
   by_cases h1:v=1
   ·rw[cdt h1]
    by_cases h2:(0:Int)<n
    ·rw[cdt h2]
     obtain⟨v2,c2,e2,a0,a1,hc2⟩:=wk (k:=k+2) (hc'.mono (by omega)) (n:Int)
     have ha:=a1 (by omega)
     obtain⟨v3,c3,e3,_,hc3⟩:=zq (k:=k) hc2 (l:=[(0:Int), -1,(n:Int)]) (by simp)
     have hvl:v2.toNat<l.length:=by omega
     have ea:atI l v2=some l[v2.toNat]:=by
      have:=jf l v2.toNat hvl
      rwa [show((v2.toNat:Nat):Int)=v2 by omega]at this
     rw[e2,obS]
     dsimp only
     rw[e3,obS]
     dsimp only
     rw[ea,obS,List.getElem?_eq_getElem hvl,obS]
     exact⟨_,_,rfl,by simp[hl],hc3⟩
    ·rw[cdf h2]
     exact⟨_,_,rfl,by omega,hc'.mono (by omega)⟩
   ·rw[cdf h1]
    exact⟨_,_,rfl,by omega,hc'.mono (by omega)⟩
def MX (n:Nat) (m:List (List Bool)):Prop:=m.length=n∧(∀r∈m,r.length=n)∧∀i,i<n→∃r,m[i]? = some r∧r[i]? = some true
theorem MX.set {n:Nat}{m:List (List Bool)}(h:MX n m){x y:Nat}{r:List Bool}(hr:m[x]? = some r){v:Bool}(hv:x=y→v=true):MX n (m.set x (r.set y v)):=by
 obtain⟨h1,h2,h3⟩:=h
 have hx:=(List.getElem?_eq_some_iff.1 hr).1
 refine⟨by simpa using h1,fun q hq => ?_,fun i hi => ?_⟩
 ·rcases List.mem_or_eq_of_mem_set hq with hq|rfl
  ·exact h2 q hq
  ·rw[List.length_set];exact h2 r (List.mem_of_getElem? hr)
 ·obtain⟨q,q1,q2⟩:=h3 i hi
  by_cases e:x=i
  ·subst e
   rw[hr]at q1
   cases q1
   refine⟨_,by rw[List.getElem?_set_self hx], ?_⟩
   by_cases e:y=x
   ·subst e
    have hl:y<r.length:=(List.getElem?_eq_some_iff.1 q2).1
    rw[List.getElem?_set_self hl,hv rfl]
   ·rw[List.getElem?_set_ne e];exact q2
  ·exact⟨q,by rw[List.getElem?_set_ne e];exact q1,q2⟩
theorem MX.at {n:Nat}{m:List (List Bool)}(h:MX n m){x y:Nat}(hx:x<n) (hy:y<n):∃r v,m[x]? = some r∧atI m (x:Int)=some r∧r[y]? = some v∧atI r (y:Int)=some v∧(x=y→v=true):=by
 obtain⟨h1,h2,h3⟩:=h
 have hl:x<m.length:=by omega
 have hr:=h2 _ (List.getElem_mem hl)
 have hyl:y<(m[x]).length:=by omega
 refine⟨m[x],(m[x])[y],List.getElem?_eq_getElem hl,jf m x hl,List.getElem?_eq_getElem hyl,jf _ y hyl,fun e => ?_⟩
 subst e
 obtain⟨q,q1,q2⟩:=h3 x hx
 rw[List.getElem?_eq_getElem hl]at q1
 cases q1
 rw[List.getElem?_eq_getElem hyl]at q2
 exact Option.some.inj q2
def Fr (n:Nat) (r:Option (PTd×Unit)):Prop:=∃p:PTd,r=some (p,())∧p.1.length=n∧∀q∈p.1,1≤q.length∧q.length≤n
theorem xeb {n:Nat}(hn:n≤100){t4:PTd}{m:List (List Bool)}(hm:MX n m):Fr n (x7 big (n:Int) t4 m ([],()) (0:Int)):=by
 refine xni (Q:=Fr n) n (fun i p=>p.1.length=i∧∀q∈p.1,1≤q.length∧q.length≤n) (by omega) (fun rc i p hi hI hr => ?_) (fun rc p hI => ?_) 0 (by omega) _ ⟨rfl,by simp⟩
 ·obtain⟨hI1,hI2⟩:=hI
  unfold wg0
  rw[cdt (by omega)]
  refine xnj (Q:=Fr n) n (fun j b=>b.length≤j∧(i<j→1≤b.length)) (by omega) (fun rc2 j b hj hJ hr2 => ?_) (fun rc2 b hJ => ?_) 0 (by omega) _ ⟨by simp,by omega⟩
  ·unfold wkz
   obtain⟨r,v,e1,e2,e3,e4,e5⟩:=hm.at hj hi
   rw[cdt (by omega),e2,obS,Int.toNat_natCast,e1,obS,obS,e4,obS,obS,Int.toNat_natCast,e3,obS]
   cases v with
   | true =>
    rw[cond_true,jk (by simp;omega),obS,wr (by omega) (by omega)]
    exact hr2 _ ⟨by simp;omega,fun _=>by simp⟩
   | false =>
    rw[cond_false,wr (by omega) (by omega)]
    refine hr2 _ ⟨by omega,fun h=>hJ.2 ?_⟩
    rcases Nat.lt_or_ge i j with h'|h'
    ·exact h'
    ·have:j=i:=by omega
     exact absurd (e5 this) (by simp)
  ·unfold wkz wgx
   rw[cdf (by omega),jk (by simp;omega),obS,wr (by omega) (by omega)]
   refine hr _ ⟨by simp[hI1],fun q hq => ?_⟩
   rcases List.mem_append.1 hq with hq|hq
   ·exact hI2 q hq
   ·rw[List.mem_singleton]at hq
    subst hq
    exact⟨hJ.2 hi,hJ.1⟩
 ·unfold wg0 zo
  rw[cdf (by omega)]
  exact⟨_,rfl,hI.1,hI.2⟩
theorem w5k {n:Nat}(hn:n≤100){t4:PTd}{m:List (List Bool)}(hm:MX n m):Fr n (wb3 big (n:Int) t4 m (0:Int)):=by
 refine xnf (Q:=Fr n) n (fun _ m=>MX n m) (by omega) (fun rc z m hz hm hr => ?_) (fun rc m hm => ?_) 0 (by omega) _ hm
 ·unfold wgy
  rw[cdt (by omega)]
  refine xng (Q:=Fr n) n (fun _ m=>MX n m) (by omega) (fun rc x m hx hm hr2 => ?_) (fun rc m hm => ?_) 0 (by omega) _ hm
  ·unfold wgz
   rw[cdt (by omega)]
   refine xnh (Q:=Fr n) n (fun _ m=>MX n m) (by omega) (fun rc y m hy hm hr3 => ?_) (fun rc m hm => ?_) 0 (by omega) _ hm
   ·unfold wky
    obtain⟨r,v,e1,e2,e3,e4,e5⟩:=hm.at hx hy
    obtain⟨r',v',f1,f2,f3,f4,f5⟩:=hm.at hx hz
    rw[e1]at f1
    cases f1
    obtain⟨s,u,g1,g2,g3,g4,g5⟩:=hm.at hz hy
    simp only[Int.toNat_natCast,cdt (show(y:Int)<n by omega),e1,e2,e3,e4,f3,f4,g1,g2,g3,g4,obS]
    rw[wr (by omega) (by omega),show(y:Int)+1=((y+1:Nat):Int) by omega]
    cases v with
    | true =>
     rw[cond_true]
     exact hr3 _ (hm.set e1 fun _=>rfl)
    | false =>
     have hxy:x≠y:=fun e=>by have:=e5 e;cases this
     rw[cond_false]
     cases v' with
     | true=>rw[cond_true];exact hr3 _ (hm.set e1 fun e=>absurd e hxy)
     | false=>rw[cond_false];exact hr3 _ (hm.set e1 fun e=>absurd e hxy)
   ·unfold wky wgw
    rw[cdf (by omega),wr (by omega) (by omega)]
    exact hr2 _ hm
  ·unfold wgz zn
   rw[cdf (by omega),wr (by omega) (by omega)]
   exact hr _ hm
 ·unfold wgy zm
  rw[cdf (by omega)]
  exact xeb hn hm
theorem wmx {n:Nat}(hn:n≤100){ps:List (Int×(Int×Unit))}(hl:ps.length≤100000) (hp:∀p∈ps,(0≤p.1∧p.1<n)∧0≤p.2.1∧p.2.1<n):Fr n (V9 big (n:Int) ps):=by
 unfold V9 V9_s
 refine xnu (Q:=Fr n) n (fun i m=>m.length=i∧(∀r∈m,r.length=n)∧∀j,j<i→∃r,m[j]? = some r∧r[j]? = some true) (by omega) (fun rc i m hi hI hr => ?_) (fun rc m hI => ?_) 0 (by omega) _ ⟨rfl,by simp,by omega⟩
 ·obtain⟨h1,h2,h3⟩:=hI
  unfold wq8
  have hil:i<(List.replicate n false).length:=by simpa using hi
  rw[cdt (by omega),uo false n (by omega),obS,obS,cdt (by omega),jf _ i hil,obS,Int.toNat_natCast,List.getElem?_eq_getElem hil,obS,jk (by simp;omega),obS,wr (by omega) (by omega)]
  refine hr _ ⟨by simp[h1],fun r hr => ?_,fun j hj => ?_⟩
  ·rcases List.mem_append.1 hr with hr|hr
   ·exact h2 r hr
   ·rw[List.mem_singleton]at hr;rw[hr];simp
  ·by_cases e:j<i
   ·obtain⟨r,r1,r2⟩:=h3 j e
    exact⟨r,by rw[List.getElem?_append_left (by omega)];exact r1,r2⟩
   ·have e:j=i:=by omega
    subst e
    refine⟨_,by rw[List.getElem?_append_right (by omega),h1,Nat.sub_self];rfl, ?_⟩
    rw[List.getElem?_set_self hil]
 ·unfold wq8 wmh
  rw[cdf (by omega)]
  refine xnv (Q:=Fr n) ps.length (fun _ m=>MX n m) (by omega) (fun rc i m hi hm hr => ?_) (fun rc m hm => ?_) 0 (by omega) _ hI
  ·unfold wq9
   obtain⟨⟨a0,a1⟩,b0,b1⟩:=hp _ (List.getElem_mem hi)
   generalize hq:ps[i]=q at a0 a1 b0 b1
   obtain⟨x,y,u⟩:=q
   simp only at a0 a1 b0 b1
   obtain⟨x,rfl⟩:∃x':Nat,x=(x':Int):=⟨x.toNat,by omega⟩
   obtain⟨y,rfl⟩:∃y':Nat,y=(y':Int):=⟨y.toNat,by omega⟩
   obtain⟨r,v,e1,e2,e3,e4,e5⟩:=hm.at (x:=x) (y:=y) (by omega) (by omega)
   have ea:atI ps (i:Int)=some ((x:Int),((y:Int),u)):=by rw[jf ps i hi,hq]
   simp only[Int.toNat_natCast,cdt (show(i:Int)<ps.length by omega),ea,e1,e2,e3,e4,obS]
   rw[wr (by omega) (by omega)]
   exact hr _ (hm.set e1 fun _=>rfl)
  ·unfold wq9 wmi
   rw[cdf (by omega)]
   exact w5k hn hm
theorem xk1 {l:List Int}(hl:l.length≤1000000) (n:Int):∃l',V10 big l n=some (l',())∧l'.length≤l.length+1:=by
 have done:∀i:Nat,i≤l.length→∃l',wa1 l n (i:Int)=some (l',())∧l'.length≤l.length+1:=by
  intro i hi
  unfold wa1
  have s1:slI l 0 (i:Int)=some ((l.drop 0).take i):=by unfold slI;rw[if_pos (by omega)];simp
  have s2:slI l (i:Int) (l.length:Int)=some ((l.drop i).take (l.length-i)):=by unfold slI;rw[if_pos (by omega),show((l.length:Int)-(i:Int)).toNat=l.length-i by omega,Int.toNat_natCast]
  have tail:∃l',((slI l 0 (i:Int)).bind fun xq8=>(appI [] xq8).bind fun xq9=>(appI xq9 [n]).bind fun xq10=>(slI l (i:Int) (l.length:Int)).bind fun xq11=>(appI xq10 xq11).bind fun xq12=>some (xq12,(())))=some (l',())∧l'.length≤l.length+1:=by
   rw[s1,obS,jk (by simp;omega),obS,jk (by simp;omega),obS,s2,obS,jk (by simp;omega),obS]
   exact⟨_,rfl,by simp;omega⟩
  by_cases h:i<l.length
  ·rw[cdt (by omega),jf l i h,obS]
   by_cases c:l[i]=n
   ·rw[cdt c];exact⟨l,rfl,by omega⟩
   ·rw[cdf c];exact tail
  ·rw[cdf (by omega)];exact tail
 unfold V10 w2c
 refine xk6 (Q:=fun r=>∃l',r=some (l',())∧l'.length≤l.length+1) l.length (fun _=>True) (by omega) (fun rc i hi _ hr => ?_) (fun rc _ => ?_) 0 (by omega) trivial
 ·unfold whl
  rw[cdt (by omega),jf l i hi,obS]
  by_cases c:l[i]<n
  ·rw[cdt c,wr (by omega) (by omega)];exact hr trivial
  ·rw[cdf c];exact done i (by omega)
 ·unfold whl
  rw[cdf (by omega)]
  exact done _ (by omega)
def Dq (m k:Nat) (r:Option (PTd×(Cu×Unit))):Prop:=∃p c',r=some (p,(c',()))∧DrP m p∧COk k c'
theorem w5t {k:Nat}{t2:PTd}{p:PTd}{c:Cu}(hp:p.1.length≤11) (hr:∀r∈p.1,r.length≤12) (hc:COk (k+2*(12-p.1.length)+2) c):Dq 12 k (wt big c t2 p):=by
 refine xhx (Q:=Dq 12 k) (fun _ p=>12-p.1.length) (fun c p=>p.1.length≤11∧(∀r∈p.1,r.length≤12)∧COk (k+2*(12-p.1.length)+2) c) (fun rc c p hI hrec => ?_) c p (by omega) ⟨hp,hr,hc⟩
 obtain⟨h1,h2,h3⟩:=hI
 unfold wsa wc9
 obtain⟨v,c',e,v0,v1,hc'⟩:=wk (k:=k+2*(12-p.1.length)) h3 2
 have hv:=v1 (by omega)
 rw[e,obS]
 dsimp only
 rw[wr (by omega) (by omega)]
 by_cases c:(p.1.length:Int)<10+v
 ·rw[cdt c,jk (by simp;omega),obS]
  refine hrec _ _ ⟨by simp;omega,fun r hr => ?_, ?_⟩ (by simp;omega)
  ·rcases List.mem_append.1 hr with hr|hr
   ·exact h2 r hr
   ·rw[List.mem_singleton]at hr;rw[hr];simp
  ·simp only[List.length_append,List.length_singleton]
   exact hc'.mono (by omega)
 ·rw[cdf c]
  exact⟨_,_,rfl,⟨by omega,h2⟩,hc'.mono (by omega)⟩
theorem wla {k n:Nat}(hn:n≤7){t2:PTd}{c:Cu}{ps:List (Int×(Int×Unit))}(hl:ps.length≤1000) (hp:∀p∈ps,(0≤p.1∧p.1<n)∧0≤p.2.1∧p.2.1<n) (hc:COk (k+40) c) :
  Dq 12 k (yd (wt big) c t2 (n:Int) ps):=by
 obtain⟨p,e,p1,p2⟩:=wmx (n:=n) (by omega) (by omega) hp
 have hd:DrP 12 p:=⟨by omega,fun r hr=>by have:=p2 r hr;omega⟩
 unfold yd
 rw[e,obS]
 by_cases h0:(n:Int)=0
 ·rw[cdt h0]
  exact⟨_,_,rfl,hd,hc.mono (by omega)⟩
 ·rw[cdf h0]
  obtain⟨b,c1,e1,hc1⟩:=xf (k:=k+38) hc 16
  rw[e1,obS]
  cases b with
  | false=>exact⟨_,_,rfl,hd,hc1.mono (by omega)⟩
  | true =>
   simp only[Bool.not_true,cond_false]
   obtain⟨x,c2,e2,x0,x1,hc2⟩:=wk (k:=k+36) hc1 (n:Int)
   have hx:=x1 (by omega)
   obtain⟨v,c3,e3,_,_,hc3⟩:=wk (k:=k+34) hc2 4
   rw[e2,obS]
   dsimp only
   rw[e3,obS]
   dsimp only
   have hxl:x.toNat<p.1.length:=by omega
   have ea:atI p.1 x=some p.1[x.toNat]:=by
    have:=jf p.1 x.toNat hxl
    rwa [show((x.toNat:Nat):Int)=x by omega]at this
   have eb:p.1[x.toNat]? = some p.1[x.toNat]:=List.getElem?_eq_getElem hxl
   have hrow:=p2 _ (List.getElem_mem hxl)
   have upd:∀r:List Int,r.length≤12→DrP 12 (p.1.set x.toNat r,p.2):=fun r hr=>⟨by simp;omega,fun q hq=>by
    rcases List.mem_or_eq_of_mem_set hq with hq|rfl
    ·exact hd.2 q hq
    ·exact hr⟩
   simp only[ea,eb,obS]
   by_cases c0:v=0
   ·rw[cdt c0]
    have s1:slI p.1[x.toNat] (1:Int) (p.1[x.toNat].length:Int)=some ((p.1[x.toNat].drop 1).take (p.1[x.toNat].length-1)):=by unfold slI;rw[if_pos (by omega),show((p.1[x.toNat].length:Int)-1).toNat=p.1[x.toNat].length-1 by omega];rfl
    rw[s1,obS]
    exact⟨_,_,rfl,upd _ (by simp;omega),hc3.mono (by omega)⟩
   ·rw[cdf c0]
    by_cases c1:v=1
    ·rw[cdt c1,jk (by simp;omega),obS]
     exact⟨_,_,rfl,upd _ (by simp;omega),hc3.mono (by omega)⟩
    ·rw[cdf c1]
     by_cases c2':v=2
     ·rw[cdt c2']
      obtain⟨y,c4,e4,_,_,hc4⟩:=wk (k:=k+32) hc3 (n:Int)
      obtain⟨l',e5,hl'⟩:=xk1 (l:=p.1[x.toNat]) (by omega) y
      rw[e4,obS]
      dsimp only
      rw[e5,obS]
      exact⟨_,_,rfl,upd _ (by simp only;omega),hc4.mono (by omega)⟩
     ·rw[cdf c2']
      by_cases c3':v=3
      ·rw[cdt c3']
       exact w5t (by omega) (fun r hr=>by have:=p2 r hr;omega) (hc3.mono (by omega))
      ·rw[cdf c3']
       exact⟨_,_,rfl,hd,hc3.mono (by omega)⟩
theorem wg3 {n:Nat}{names:List Int}(hl:names.length=n) (hn:∀x∈names,0≤x∧x<n){x:Int}(h0:0≤x) (h1:x<n):∃v,atI names x=some v∧names[x.toNat]? = some v∧0≤v∧v<n:=by
 have hx:x.toNat<names.length:=by omega
 refine⟨names[x.toNat], ?_,List.getElem?_eq_getElem hx,hn _ (List.getElem_mem hx)⟩
 have:=jf names x.toNat hx
 rwa [show((x.toNat:Nat):Int)=x by omega]at this
theorem xem {k:Nat}{c:Cu}(hc:COk (k+300) c):Dq 12 k (V11 big c):=by
 unfold V11 w2g
 obtain⟨n,c0,e,hn,hc0⟩:=zq (k:=k+298) hc (l:=[(0:Int),1,2,3,4,4,5,5,6,7]) (by simp)
 rw[e,obS]
 dsimp only
 obtain⟨n,rfl⟩:∃m:Nat,n=(m:Int):=⟨n.toNat,by simp at hn;omega⟩
 have hn7:n≤7:=by simp at hn;omega
 refine xk9 (Q:=Dq 12 k) n (fun i c ps=>ps.length≤i*n∧(∀p∈ps,(0≤p.1∧p.1<n)∧0≤p.2.1∧p.2.1<n)∧COk (k+100+2*(n*(n-i))) c) (by omega) (fun rc i c ps hi hI hr => ?_) (fun rc c ps hI => ?_) 0 (by omega) _ _ ⟨by simp,by simp,hc0.mono (by have:n*(n-0)≤7*7:=Nat.mul_le_mul hn7 (by omega);omega)⟩
 ·obtain⟨h1,h2,h3⟩:=hI
  unfold wdc
  rw[cdt (by omega),wr (by omega) (by omega),show(i:Int)+1=((i+1:Nat):Int) by omega]
  have hmul:n*(n-i)=n*(n-(i+1))+n:=by
   rw[show n-i=(n-(i+1))+1 by omega,Nat.mul_succ]
  have hmul2:(i+1)*n=i*n+n:=Nat.succ_mul i n
  refine xla (Q:=Dq 12 k) n (fun j c ps=>ps.length≤i*n+j∧(∀p∈ps,(0≤p.1∧p.1<n)∧0≤p.2.1∧p.2.1<n)∧COk (k+100+2*(n*(n-(i+1)))+2*(n-j)) c) (by omega) (fun rc2 j c ps hj hJ hr2 => ?_) (fun rc2 c ps hJ => ?_) (i+1) (by omega) _ _ ⟨by omega,h2,h3.mono (by omega)⟩
  ·obtain⟨j1,j2,j3⟩:=hJ
   unfold who
   obtain⟨b,c',e,hc'⟩:=xf (k:=k+100+2*(n*(n-(i+1)))+2*(n-(j+1))) (j3.mono (by omega)) 3
   have hin:i*n≤7*7:=Nat.mul_le_mul (by omega) hn7
   rw[cdt (by omega),e,obS,wr (by omega) (by omega)]
   cases b with
   | true =>
    rw[cond_true,jk (by simp;omega),obS]
    refine hr2 _ _ ⟨by simp;omega,fun p hp => ?_,hc'⟩
    rcases List.mem_append.1 hp with hp|hp
    ·exact j2 p hp
    ·rw[List.mem_singleton]at hp
     rw[hp]
     exact⟨⟨by simp,by simp;omega⟩,by simp,by simp;omega⟩
   | false =>
    rw[cond_false]
    exact hr2 _ _ ⟨by omega,j2,hc'⟩
  ·obtain⟨j1,j2,j3⟩:=hJ
   unfold who wda
   rw[cdf (by omega),wr (by omega) (by omega)]
   exact hr _ _ ⟨by omega,j2,j3.mono (by omega)⟩
 ·obtain⟨h1,h2,h3⟩:=hI
  have hnn:n*n≤7*7:=Nat.mul_le_mul hn7 hn7
  unfold wdc yr
  rw[cdf (by omega)]
  obtain⟨names,c1,e1,hl1,hc1⟩:=whf (k:=k+60) (n:=n) (by omega) (h3.mono (by omega))
  obtain⟨b,e2,hb⟩:=wm0 (n:=n) (by omega) (l:=names) (by omega)
  rw[e1,obS]
  dsimp only
  rw[e2,obS]
  cases b with
  | false =>
   rw[cond_false]
   exact wla hn7 (by omega) h2 (hc1.mono (by omega))
  | true =>
   obtain⟨hb1,hb2⟩:=hb rfl
   obtain⟨b,c2,e3,hc2⟩:=xf (k:=k+58) hc1 2
   rw[cond_true,e3,obS]
   cases b with
   | false =>
    rw[cond_false]
    exact wla hn7 (by omega) h2 (hc2.mono (by omega))
   | true =>
    rw[cond_true]
    refine xhw (Q:=Dq 12 k) ps.length (fun _ qs=>qs.length=ps.length∧∀p∈qs,(0≤p.1∧p.1<n)∧0≤p.2.1∧p.2.1<n) (by omega) (fun rc2 i qs hi hI hr => ?_) (fun rc2 qs hI => ?_) 0 (by omega) _ ⟨rfl,h2⟩
    ·obtain⟨i1,i2⟩:=hI
     have hil:i<qs.length:=by omega
     obtain⟨⟨a0,a1⟩,b0,b1⟩:=i2 _ (List.getElem_mem hil)
     obtain⟨x,x1,x2,x3,x4⟩:=wg3 hb1 hb2 a0 a1
     obtain⟨y,y1,y2,y3,y4⟩:=wg3 hb1 hb2 b0 b1
     unfold wdb
     simp only[Int.toNat_natCast,cdt (show(i:Int)<qs.length by omega),jf qs i hil,List.getElem?_eq_getElem hil,x1,x2,y1,y2,obS]
     rw[wr (by omega) (by omega)]
     refine hr _ ⟨by simpa using i1,fun p hp => ?_⟩
     rcases List.mem_or_eq_of_mem_set hp with hp|rfl
     ·exact i2 p hp
     ·exact⟨⟨x3,x4⟩,y3,y4⟩
    ·obtain⟨i1,i2⟩:=hI
     unfold wdb
     rw[cdf (by omega)]
     exact wla hn7 (by omega) i2 (hc2.mono (by omega))
def okKnown (k:Nat):Bool:=match V13 (k:Int) with
 | some (p,())=>decide (p.1.length≤9)&&p.1.all (fun r=>decide (r.length≤9))&&(match V18 big p with
  | some (ps,())=>decide (ps.length≤100)&&ps.all fun q=>decide (0≤q.1)&&decide (q.1<(p.1.length:Int))&&decide (0≤q.2.1)&&decide (q.2.1<(p.1.length:Int))
  | none=>false)
 | none=>false
theorem wzg:(List.range 12).all okKnown=true:=by kernel_rfl
theorem xec {k:Int}(h0:0≤k) (h1:k<12):∃p ps,V13 k=some (p,())∧DrP 9 p∧V18 big p=some (ps,())∧ps.length≤100∧∀q∈ps,(0≤q.1∧q.1<p.1.length)∧0≤q.2.1∧q.2.1<p.1.length:=by
 have h:=List.all_eq_true.1 wzg k.toNat (List.mem_range.2 (by omega))
 unfold okKnown at h
 rw[show((k.toNat:Nat):Int)=k by omega]at h
 split at h
 case h_2=>cases h
 rename_i p e
 simp only[Bool.and_eq_true,decide_eq_true_eq,List.all_eq_true]at h
 obtain⟨⟨h1,h2⟩,h3⟩:=h
 split at h3
 case h_2=>cases h3
 rename_i ps e2
 simp only[Bool.and_eq_true,decide_eq_true_eq,List.all_eq_true]at h3
 exact⟨p,ps,e,⟨h1,h2⟩,e2,h3.1,fun q hq=>by
  obtain⟨⟨⟨a,b⟩,c⟩,d⟩:=h3.2 q hq
  exact⟨⟨a,b⟩,c,d⟩⟩
theorem wzf {k:Nat}{c:Cu}(hc:COk (k+400) c):Dq 12 k (V19 big c):=by
 unfold V19 w2n
 obtain⟨b,c1,e1,hc1⟩:=xf (k:=k+398) hc 10
 rw[e1,obS]
 cases b with
 | true =>
  rw[cond_true]
  obtain⟨p,c2,e2,hp,hc2⟩:=xem (k:=k+98) hc1
  rw[e2,obS]
  exact⟨_,_,rfl,hp,hc2.mono (by omega)⟩
 | false =>
  rw[cond_false]
  obtain⟨v,c2,e2,v0,v1,hc2⟩:=wk (k:=k+396) hc1 12
  obtain⟨p,ps,e3,hp,e4,hl,hps⟩:=xec v0 (v1 (by omega))
  have hp':DrP 12 p:=⟨by have:=hp.1;omega,fun r hr=>by have:=hp.2 r hr;omega⟩
  have hn:=hp.1
  obtain⟨names,c3,e5,hl1,hc3⟩:=whf (k:=k+300) (n:=p.1.length) (by omega) (hc2.mono (by omega))
  obtain⟨b,e6,hb⟩:=wm0 (n:=p.1.length) (by omega) (l:=names) (by omega)
  rw[e2,obS]
  dsimp only
  rw[e3,obS]
  dsimp only
  rw[e5,obS]
  dsimp only
  rw[e6,obS]
  cases b with
  | false=>exact⟨_,_,rfl,hp',hc3.mono (by omega)⟩
  | true =>
   obtain⟨hb1,hb2⟩:=hb rfl
   obtain⟨b,c4,e7,hc4⟩:=xf (k:=k+298) hc3 2
   rw[cond_true,e7,obS]
   cases b with
   | false=>exact⟨_,_,rfl,hp',hc4.mono (by omega)⟩
   | true =>
    rw[cond_true,e4,obS]
    refine xle (Q:=Dq 12 k) ps.length (fun _ qs=>qs.length=ps.length∧∀q∈qs,(0≤q.1∧q.1<p.1.length)∧0≤q.2.1∧q.2.1<p.1.length) (by omega) (fun rc2 i qs hi hI hr => ?_) (fun rc2 qs hI => ?_) 0 (by omega) _ ⟨rfl,hps⟩
    ·obtain⟨i1,i2⟩:=hI
     have hil:i<qs.length:=by omega
     obtain⟨⟨a0,a1⟩,b0,b1⟩:=i2 _ (List.getElem_mem hil)
     obtain⟨x,x1,x2,x3,x4⟩:=wg3 hb1 hb2 a0 a1
     obtain⟨y,y1,y2,y3,y4⟩:=wg3 hb1 hb2 b0 b1
     unfold whv
     simp only[Int.toNat_natCast,cdt (show(i:Int)<qs.length by omega),jf qs i hil,List.getElem?_eq_getElem hil,x1,x2,y1,y2,obS]
     rw[wr (by omega) (by omega)]
     refine hr _ ⟨by simpa using i1,fun q hq => ?_⟩
     rcases List.mem_or_eq_of_mem_set hq with hq|rfl
     ·exact i2 q hq
     ·exact⟨⟨x3,x4⟩,y3,y4⟩
    ·obtain⟨i1,i2⟩:=hI
     unfold whv wdj
     obtain⟨p',e8,p1,p2⟩:=wmx (n:=p.1.length) (by omega) (by omega) i2
     rw[cdf (by omega),e8,obS]
     exact⟨_,_,rfl,⟨by show p'.1.length≤12;omega,fun r hr=>by have:=p2 r hr;omega⟩,hc4.mono (by omega)⟩
theorem xfr {code:List Int}(hw:Wf (.pair (.sl (.int .u8)) .unit) (code,())) (h:code.length≤65536):Codes code:=by
 refine⟨h,fun x hx => ?_⟩
 have:=hw.1.2 x hx
 have h2:(Lit.int .u8 x).wf=true:=this
 simp only[Lit.wf,Bool.and_eq_true,decide_eq_true_eq]at h2
 have e1:IntKind.u8.min=0:=rfl
 have e2:IntKind.u8.max=255:=rfl
 rw[e1,e2]at h2
 exact h2
def Wd.dual:Wd→Wd
 | .v n => .v n
 | .op g a b => .op (-3-g) a.dual b.dual
theorem cmp_mem {n:Nat}{le:Nat→Nat→Bool}{x y:Nat}:y∈comp n le x↔y<n∧mt n le y x=bt n le∧mt n (du le) y x=tp n le:=by
 unfold comp rel
 rw[fl_mem,Bool.and_eq_true,decide_eq_true_eq,decide_eq_true_eq]
theorem xkt {n:Nat}{le:Nat→Nat→Bool}{x y:Nat}(hx:x<n) (hy:y∈comp n le x):x∈comp n le y:=by
 obtain⟨h1,h2,h3⟩:=cmp_mem.1 hy
 exact cmp_mem.2 ⟨hx,by rw[wu];exact h2,by rw[wu];exact h3⟩
def UniC (n:Nat) (le:Nat→Nat→Bool):Prop:=∀x,x<n→(comp n le x).length=1
theorem UniC.cmp {n:Nat}{le:Nat→Nat→Bool}(h:UniC n le):Cmp n le:=fun x hx e=>by have:=h x hx;rw[e]at this;cases this
theorem wt7 {n:Nat}{le:Nat→Nat→Bool}(h:LatP n le){x:Nat}(hx:x<n) (e:le x (bt n le)=true):x=bt n le:=h.as hx (wl h) e (xi h hx)
theorem xhi {n:Nat}{le:Nat→Nat→Bool}(h:LatP n le){x:Nat}(hx:x<n) (e:le (tp n le) x=true):x=tp n le:=h.as hx (w7 h) (yq h hx) e
theorem xd9 {n:Nat}{le:Nat→Nat→Bool}(h:LatP n le) (hd:Dis n le){v a b:Nat}(hv:v<n) (ha:a<n) (hb:b<n) (e:le v (mt n (du le) a b)=true):le v (mt n (du le) (mt n le v a) (mt n le v b))=true:=by
 rw[←hd v a b hv ha hb]
 exact h.mg hv (jlt h ha hb) hv (h.ord.refl v hv) e
theorem xfo {n:Nat}{le:Nat→Nat→Bool}(h:LatP n le) (hd:Dis n le){x y:Nat}(hx:x<n) (hy:y∈comp n le x):Cen n le x y:=fun z hz=>by
 obtain⟨y1,y2,y3⟩:=cmp_mem.1 hy
 have h1:mt n (du le) (mt n le z x) (mt n le z y)=z:=by
  rw[←hd z x y hz hx y1,wu (le:=du le),y3]
  exact h.as (h.mlt hz (w7 h)) hz (h.m1 hz (w7 h)) (h.mg hz (w7 h) hz (h.ord.refl z hz) (yq h hz))
 refine⟨h1, ?_⟩
 have l1:=jlt h hz hx
 have l2:=jlt h hz y1
 have l3:=h.mlt l1 l2
 refine h.as l3 hz ?_ (h.mg l1 l2 hz (j1 h hz hx) (j1 h hz y1))
 refine h.tr l3 (jlt h (h.mlt l3 hz) (h.mlt l3 hx)) hz (xd9 h hd l3 hz hx (h.m1 l1 l2)) ?_
 refine jg h (h.mlt l3 hz) (h.mlt l3 hx) hz (h.m2 l3 hz) ?_
 have k1:=h.mlt l3 hx
 refine h.tr k1 (jlt h (h.mlt k1 hz) (h.mlt k1 y1)) hz (xd9 h hd k1 hz y1 (h.tr k1 l3 l2 (h.m1 l3 hx) (h.m2 l1 l2))) ?_
 refine jg h (h.mlt k1 hz) (h.mlt k1 y1) hz (h.m2 k1 hz) ?_
 have k2:=h.mlt k1 y1
 have k3:=h.mg y1 hx k2 (h.m2 k1 y1) (h.tr k2 k1 hx (h.m1 k1 y1) (h.m2 l3 hx))
 rw[y2]at k3
 exact h.tr k2 (wl h) hz k3 (xi h hz)
theorem cenB_iff {n:Nat}{le:Nat→Nat→Bool}{x:Nat}:cenB n le x=true↔∃y,y∈comp n le x∧Cen n le x y:=by
 unfold cenB
 rw[List.any_eq_true]
 exact⟨fun⟨y,h1,h2⟩=>⟨y,h1,tv_iff.1 h2⟩,fun⟨y,h1,h2⟩=>⟨y,h1,tv_iff.2 h2⟩⟩
theorem cenA {n:Nat}{le:Nat→Nat→Bool}(h:LatP n le){x y w:Nat}(hx:x<n) (hy:y<n) (hw:w<n) (hc:Cen n le x y){u:Nat}(hu:u<n) (h1:le (mt n le w x) u=true) (h2:le (mt n le w y) u=true):le w u=true:=by
 have:=(hc w hw).1
 rw[←this]
 exact jg h (h.mlt hw hx) (h.mlt hw hy) hu h1 h2
theorem cenBm {n:Nat}{le:Nat→Nat→Bool}(h:LatP n le){x y w:Nat}(hx:x<n) (hy:y<n) (hw:w<n) (hc:Cen n le x y){u:Nat}(hu:u<n) (h1:le u (mt n (du le) w x)=true) (h2:le u (mt n (du le) w y)=true):le u w=true:=by
 have:=(hc w hw).2
 rw[←this]
 exact h.mg (jlt h hw hx) (jlt h hw hy) hu h1 h2
theorem xd6 {n:Nat}{le:Nat→Nat→Bool}(h:LatP n le){x y:Nat}(hx:x<n) (hy:y<n) (hA:∀w u,w<n→u<n→le (mt n le w x) u=true→le (mt n le w y) u=true→le w u=true)
  (hB:∀w u,w<n→u<n→le u (mt n (du le) w x)=true→le u (mt n (du le) w y)=true→le u w=true):Cen n le x y:=fun z hz=>by
 have a1:=h.mlt hz hx
 have a2:=h.mlt hz hy
 have b1:=jlt h hz hx
 have b2:=jlt h hz hy
 exact⟨h.as (jlt h a1 a2) hz (jg h a1 a2 hz (h.m1 hz hx) (h.m1 hz hy)) (hA z _ hz (jlt h a1 a2) (j1 h a1 a2) (j2 h a1 a2)),
  h.as (h.mlt b1 b2) hz (hB z _ hz (h.mlt b1 b2) (h.m1 b1 b2) (h.m2 b1 b2)) (h.mg b1 b2 hz (j1 h hz hx) (j1 h hz hy))⟩
theorem Cen.dual {n:Nat}{le:Nat→Nat→Bool}{x y:Nat}(hc:Cen n le x y):Cen n (du le) x y:=fun z hz=>⟨(hc z hz).2,(hc z hz).1⟩
theorem comp_dual {n:Nat}{le:Nat→Nat→Bool}{x y:Nat}:y∈comp n (du le) x↔y∈comp n le x:=by
 rw[cmp_mem,cmp_mem]
 exact⟨fun⟨a,b,c⟩=>⟨a,c,b⟩,fun⟨a,b,c⟩=>⟨a,c,b⟩⟩
structure CP (n:Nat) (le:Nat→Nat→Bool) (x y:Nat):Prop where
 lx:x<n
 c:y∈comp n le x
 z:Cen n le x y
theorem CP.ly {n:Nat}{le:Nat→Nat→Bool}{x y:Nat}(p:CP n le x y):y<n:=(cmp_mem.1 p.c).1
theorem CP.sym {n:Nat}{le:Nat→Nat→Bool}{x y:Nat}(p:CP n le x y):CP n le y x:=⟨p.ly,xkt p.lx p.c,fun z hz=>by
 have:=p.z z hz
 rw[wu (le:=du le) (mt n le z y),wu (mt n (du le) z y)];exact this⟩
theorem CP.dual {n:Nat}{le:Nat→Nat→Bool}{x y:Nat}(p:CP n le x y):CP n (du le) x y:=⟨p.lx,comp_dual.2 p.c,p.z.dual⟩
theorem CP.meet {n:Nat}{le:Nat→Nat→Bool}(h:LatP n le){x x' a a':Nat}(p:CP n le x x') (q:CP n le a a'):CP n le (mt n le x a) (mt n (du le) x' a'):=by
 have hx:=p.lx
 have hx':=p.ly
 have ha:=q.lx
 have ha':=q.ly
 have lm:=h.mlt hx ha
 have lj:=jlt h hx' ha'
 obtain⟨_,px1,px2⟩:=cmp_mem.1 p.c
 obtain⟨_,qa1,qa2⟩:=cmp_mem.1 q.c
 refine⟨lm,cmp_mem.2 ⟨lj, ?_, ?_⟩,xd6 h lm lj ?_ ?_⟩
 ·have k:=h.mlt lj lm
  refine wt7 h k ?_
  have k1:=h.m1 lj lm
  have k2:=h.tr k lm hx (h.m2 lj lm) (h.m1 hx ha)
  have k3:=h.tr k lm ha (h.m2 lj lm) (h.m2 hx ha)
  have k4:=cenBm h ha ha' hx' q.z k (h.tr k ha (jlt h hx' ha) k3 (j2 h hx' ha)) k1
  rw[←px1]
  exact h.mg hx' hx k k4 k2
 ·have k:=jlt h lj lm
  refine xhi h k ?_
  rw[←px2]
  refine jg h hx' hx k (h.tr hx' lj k (j1 h hx' ha') (j1 h lj lm)) ?_
  refine cenA h ha ha' hx q.z k (j2 h lj lm) ?_
  exact h.tr (h.mlt hx ha') ha' k (h.m2 hx ha') (h.tr ha' lj k (j2 h hx' ha') (j1 h lj lm))
 ·intro w u hw hu e1 e2
  have wx:=h.mlt hw hx
  have wj:=h.mlt hw lj
  refine cenA h hx hx' hw p.z hu (cenA h ha ha' wx q.z hu ?_ ?_) ?_
  ·have k:=h.mlt wx ha
   have k1:=h.tr k wx hw (h.m1 wx ha) (h.m1 hw hx)
   have k2:=h.tr k wx hx (h.m1 wx ha) (h.m2 hw hx)
   exact h.tr k (h.mlt hw lm) hu (h.mg hw lm k k1 (h.mg hx ha k k2 (h.m2 wx ha))) e1
  ·have k:=h.mlt wx ha'
   have k1:=h.tr k wx hw (h.m1 wx ha') (h.m1 hw hx)
   exact h.tr k wj hu (h.mg hw lj k k1 (h.tr k ha' lj (h.m2 wx ha') (j2 h hx' ha'))) e2
  ·have k:=h.mlt hw hx'
   exact h.tr k wj hu (h.mg hw lj k (h.m1 hw hx') (h.tr k hx' lj (h.m2 hw hx') (j1 h hx' ha'))) e2
 ·intro w u hw hu e1 e2
  have uz:=h.mlt hu hx
  have uz':=h.mlt hu hx'
  have wm:=jlt h hw lm
  have wj:=jlt h hw lj
  refine cenA h hx hx' hu p.z hw (cenA h ha ha' uz q.z hw ?_ ?_) ?_
  ·have k:=h.mlt uz ha
   have k0:=h.tr k uz hu (h.m1 uz ha) (h.m1 hu hx)
   have k1:=h.tr k uz hx (h.m1 uz ha) (h.m2 hu hx)
   have k2:=h.m2 uz ha
   have wx':=jlt h hw hx'
   have k3:le (mt n le (mt n le u x) a) (mt n (du le) w x')=true:=by
    refine cenBm h ha ha' wx' q.z k (h.tr k ha (jlt h wx' ha) k2 (j2 h wx' ha)) ?_
    have t:=jlt h wx' ha'
    refine h.tr k wj t (h.tr k hu wj k0 e2) (jg h hw lj t (h.tr hw wx' t (j1 h hw hx') (j1 h wx' ha')) (jg h hx' ha' t (h.tr hx' wx' t (j2 h hw hx') (j1 h wx' ha')) (j2 h wx' ha')))
   exact cenBm h hx hx' hw p.z k (h.tr k hx (jlt h hw hx) k1 (j2 h hw hx)) k3
  ·have k:=h.mlt uz ha'
   have k0:=h.tr k uz hu (h.m1 uz ha') (h.m1 hu hx)
   have wa:=jlt h hw ha
   exact cenBm h ha ha' hw q.z k (h.tr k wm wa (h.tr k hu wm k0 e1) (jg h hw lm wa (j1 h hw ha) (h.tr lm ha wa (h.m2 hx ha) (j2 h hw ha)))) (h.tr k ha' (jlt h hw ha') (h.m2 uz ha') (j2 h hw ha'))
  ·have wx:=jlt h hw hx
   exact cenBm h hx hx' hw p.z uz' (h.tr uz' wm wx (h.tr uz' hu wm (h.m1 hu hx') e1) (jg h hw lm wx (j1 h hw hx) (h.tr lm hx wx (h.m1 hx ha) (j2 h hw hx)))) (h.tr uz' hx' (jlt h hw hx') (h.m2 hu hx') (j2 h hw hx'))
theorem CP.join {n:Nat}{le:Nat→Nat→Bool}(h:LatP n le){x x' a a':Nat}(p:CP n le x x') (q:CP n le a a'):CP n le (mt n (du le) x a) (mt n le x' a') :=
 (CP.meet h.du p.dual q.dual).dual
theorem xkr {n:Nat}{le:Nat→Nat→Bool}{x:Nat}(hx:x<n):cenB n le x=true↔∃y,CP n le x y:=by
 rw[cenB_iff]
 exact⟨fun⟨y,a,b⟩=>⟨y,hx,a,b⟩,fun⟨y,p⟩=>⟨y,p.c,p.z⟩⟩
theorem CP.bot {n:Nat}{le:Nat→Nat→Bool}(h:LatP n le):CP n le (bt n le) (tp n le):=by
 have b:=wl h
 have t:=w7 h
 refine⟨b,cmp_mem.2 ⟨t,wt7 h (h.mlt t b) (h.m2 t b),xhi h (jlt h t b) (j1 h t b)⟩,xd6 h b t ?_ ?_⟩
 ·intro w u hw hu _ e
  exact h.tr hw (h.mlt hw t) hu (h.mg hw t hw (h.ord.refl w hw) (yq h hw)) e
 ·intro w u hw hu e _
  exact h.tr hu (jlt h hw b) hw e (jg h hw b hw (h.ord.refl w hw) (xi h hw))
noncomputable def cbl (n:Nat) (le:Nat→Nat→Bool) (c:Nat):List Nat:=fl n fun z=>cenB n le z&&le z c
theorem xe {n:Nat}{le:Nat→Nat→Bool}{c z:Nat}(hz:z<n):z∈cbl n le c↔(∃y,CP n le z y)∧le z c=true:=by
 unfold cbl
 rw[fl_mem,Bool.and_eq_true,xkr hz]
 exact⟨fun q=>q.2,fun q=>⟨hz,q⟩⟩
theorem zp {n:Nat}{le:Nat→Nat→Bool}{c z:Nat}(hz:z∈cbl n le c):z<n:=(fl_mem.1 hz).1
theorem cbl_nodup {n:Nat}{le:Nat→Nat→Bool}{c:Nat}:(cbl n le c).Nodup:=List.nodup_range.filter _
theorem whe {α:Type}{A B:List α}(f:α→α) (hA:A.Nodup) (hf:∀a,a∈A→f a∈B) (hi:∀a b,a∈A→b∈A→f a=f b→a=b):A.length≤B.length:=by
 have hn:(A.map f).Nodup:=List.pairwise_map.2 (hA.imp_of_mem fun {a b} ha hb hne e=>hne (hi a b ha hb e))
 have:=hn.length_le_of_subset (l₂:=B) fun x hx=>by
  obtain⟨a,ha,rfl⟩:=List.mem_map.1 hx
  exact hf a ha
 simpa using this
theorem wk7 {α:Type}(p:α→Bool):∀l:List α,l.length=(l.filter p).length+(l.filter fun z => !p z).length
 | []=>rfl
 | x::l=>by
  have:=wk7 p l
  rw[List.filter_cons,List.filter_cons]
  cases p x<;>simp<;>omega
theorem xfq {n:Nat}{le:Nat→Nat→Bool}(h:LatP n le){c a c' a':Nat}(pc:CP n le c c') (pa:CP n le a a') (hac:le a c=true) (hm:∀z y,CP n le z y→le z a=true→z=bt n le∨z=a) (hab:a≠bt n le) :
  (cbl n le c).length=2*(cbl n le (mt n le c a')).length:=by
 have la:=pa.lx
 have la':=pa.ly
 have lc:=pc.lx
 have lca:=h.mlt lc la'
 obtain⟨_,pa1,pa2⟩:=cmp_mem.1 pa.c
 have hsplit:=wk7 (fun z=>le a z) (cbl n le c)
 have dich:∀z,z∈cbl n le c→¬le a z=true→le z a'=true:=fun z hz hn=>by
  have lz:=zp hz
  obtain⟨⟨y,pz⟩,hzc⟩:=(xe lz).1 hz
  have hb:mt n le z a=bt n le:=by
   rcases hm _ _ (CP.meet h pz pa) (h.m2 lz la) with r|r
   ·exact r
   ·exact absurd (r▸h.m1 lz la) hn
  exact cenA h la la' lz pa.z la' (by rw[hb];exact xi h la') (h.m2 lz la')
 have naa':¬le a a'=true:=fun e=>hab (wt7 h la (by rw[←pa1];exact h.mg la' la la e (h.ord.refl a la)))
 have e2:(cbl n le c).filter (fun z => !le a z)=cbl n le (mt n le c a'):=by
  unfold cbl fl
  rw[List.filter_filter]
  refine List.filter_congr fun z hz => ?_
  have lz:=List.mem_range.1 hz
  rw[Bool.eq_iff_iff]
  simp only[Bool.and_eq_true,Bool.not_eq_true']
  constructor
  ·rintro⟨h1,h2,h3⟩
   exact⟨h2,h.mg lc la' lz h3 (dich z (fl_mem.2 ⟨lz,by simp[h2,h3]⟩) (by simp[h1]))⟩
  ·rintro⟨h1,h2⟩
   have k1:=h.tr lz lca lc h2 (h.m1 lc la')
   have k2:=h.tr lz lca la' h2 (h.m2 lc la')
   refine⟨?_,h1,k1⟩
   cases e:le a z with
   | false=>rfl
   | true=>exact absurd (h.tr la lz la' e k2) naa'
 have inv1:∀z,z<n→le a z=true→mt n (du le) (mt n le z a') a=z:=fun z lz e=>by
  have r:=(pa.z z lz).1
  have:mt n le z a=a:=h.as (h.mlt lz la) la (h.m2 lz la) (h.mg lz la la e (h.ord.refl a la))
  rw[this,wu (le:=du le)]at r
  exact r
 have inv2:∀z,z<n→le z a'=true→mt n le (mt n (du le) z a) a'=z:=fun z lz e=>by
  have r:=(pa.z z lz).2
  have:mt n (du le) z a'=a':=h.as (jlt h lz la') la' (jg h lz la' la' e (h.ord.refl a' la')) (j2 h lz la')
  rw[this]at r
  exact r
 have mem2:∀z,z∈(cbl n le c).filter (fun z => !le a z)↔z∈cbl n le (mt n le c a'):=fun z=>by rw[e2]
 have hA:∀z,z∈(cbl n le c).filter (fun z=>le a z)↔z∈cbl n le c∧le a z=true:=fun z=>List.mem_filter
 have le1:((cbl n le c).filter fun z=>le a z).length≤(cbl n le (mt n le c a')).length:=by
  refine whe (fun z=>mt n le z a') (cbl_nodup.filter _) (fun z hz => ?_) (fun z w hz hw e => ?_)
  ·have ⟨h1,h2⟩:=(hA z).1 hz
   have lz:=zp h1
   obtain⟨⟨y,pz⟩,hzc⟩:=(xe lz).1 h1
   have lm:=h.mlt lz la'
   exact(xe lm).2 ⟨⟨_,CP.meet h pz pa.sym⟩,h.mg lc la' lm (h.tr lm lz lc (h.m1 lz la') hzc) (h.m2 lz la')⟩
  ·have ⟨h1,h2⟩:=(hA z).1 hz
   have ⟨h3,h4⟩:=(hA w).1 hw
   rw[←inv1 z (zp h1) h2,←inv1 w (zp h3) h4]
   exact congrArg (fun t=>mt n (du le) t a) e
 have le2:(cbl n le (mt n le c a')).length≤((cbl n le c).filter fun z=>le a z).length:=by
  refine whe (fun z=>mt n (du le) z a) cbl_nodup (fun z hz => ?_) (fun z w hz hw e => ?_)
  ·have lz:=zp hz
   obtain⟨⟨y,pz⟩,hzc⟩:=(xe lz).1 hz
   have lj:=jlt h lz la
   exact(hA _).2 ⟨(xe lj).2 ⟨⟨_,CP.join h pz pa⟩,jg h lz la lc (h.tr lz lca lc hzc (h.m1 lc la')) hac⟩,j2 h lz la⟩
  ·have lz:=zp hz
   have lw:=zp hw
   have z1:=h.tr lz lca la' ((xe lz).1 hz).2 (h.m2 lc la')
   have w1:=h.tr lw lca la' ((xe lw).1 hw).2 (h.m2 lc la')
   rw[←inv2 z lz z1,←inv2 w lw w1]
   exact congrArg (fun t=>mt n le t a') e
 have e3:((cbl n le c).filter fun z => !le a z).length=(cbl n le (mt n le c a')).length:=by rw[e2]
 omega
theorem w1t {n:Nat}{le:Nat→Nat→Bool}(h:LatP n le):∀k x y,CP n le x y→x≠bt n le→(fl n fun y=>le y x).length≤k→∃p p',CP n le p p'∧p≠bt n le∧le p x=true∧∀z y,CP n le z y→le z p=true→z=bt n le∨z=p
 | 0,x,y,hx,_,hk=>by
  have:x∈fl n fun y=>le y x:=fl_mem.2 ⟨hx.lx,h.ord.refl x hx.lx⟩
  have:=List.length_pos_of_mem this
  omega
 | k+1,x,y,hx,hb,hk=>by
  by_cases ha:∀z y,CP n le z y→le z x=true→z=bt n le∨z=x
  ·exact⟨x,y,hx,hb,h.ord.refl x hx.lx,ha⟩
  ·have ⟨q,hq⟩:=Classical.not_forall.1 ha
   have ⟨q',hq⟩:=Classical.not_forall.1 hq
   have ⟨hq1,hq2⟩:=Classical.not_imp.1 hq
   have ⟨hq3,hq4⟩:=Classical.not_imp.1 hq2
   have h1:q≠bt n le:=fun e=>hq4 (.inl e)
   have h2:q≠x:=fun e=>hq4 (.inr e)
   have hlt:(fl n fun y=>le y q).length<(fl n fun y=>le y x).length :=
    w5j (fun y hy e=>h.tr hy hq1.lx hx.lx e hq3) hx.lx (h.ord.refl x hx.lx) (by
     cases e:le x q with
     | false=>rfl
     | true=>exact absurd (h.as hq1.lx hx.lx hq3 e) h2)
   obtain⟨p,p',hp,hpb,hpq,hpm⟩:=w1t h k q q' hq1 h1 (by omega)
   exact⟨p,p',hp,hpb,h.tr hp.lx hq1.lx hx.lx hpq hq3,hpm⟩
theorem w1u {n:Nat}{le:Nat→Nat→Bool}(h:LatP n le):∀k c c',CP n le c c'→(cbl n le c).length≤k→∃m,(cbl n le c).length=2 ^ m
 | 0,c,c',hc,hk=>by
  have:c∈cbl n le c:=(xe hc.lx).2 ⟨⟨_,hc⟩,h.ord.refl c hc.lx⟩
  have:=List.length_pos_of_mem this
  omega
 | k+1,c,c',hc,hk=>by
  have hmem:c∈cbl n le c:=(xe hc.lx).2 ⟨⟨_,hc⟩,h.ord.refl c hc.lx⟩
  have hpos:=List.length_pos_of_mem hmem
  by_cases hb:c=bt n le
  ·refine⟨0, ?_⟩
   have h1:(cbl n le c).length≤[bt n le].length:=whe id cbl_nodup (fun z hz=>by
    have lz:=zp hz
    have:=((xe lz).1 hz).2
    rw[hb]at this
    have:=wt7 h lz this
    simp[this]) (fun _ _ _ _ e=>e)
   simp at h1
   omega
  ·obtain⟨a,a',pa,hab,hac,hm⟩:=w1t h _ c c' hc hb (Nat.le_refl _)
   have e:=xfq h hc pa hac hm hab
   obtain⟨m,hm2⟩:=w1u h k _ _ (CP.meet h hc pa.sym) (by omega)
   exact⟨m+1,by rw[e,hm2,Nat.pow_succ];omega⟩
theorem xks {n:Nat}{le:Nat→Nat→Bool}(h:LatP n le):∃m,(fl n (cenB n le)).length=2 ^ m:=by
 obtain⟨m,hm⟩:=w1u h _ _ _ (CP.bot h).sym (Nat.le_refl _)
 refine⟨m, ?_⟩
 rw[←hm]
 unfold cbl
 congr 1
 refine ur fun x hx => ?_
 rw[yq h hx,Bool.and_true]
theorem ya (a:List Int) (h:a.length≤400000000000):V75 big a a=some (true,()):=by
 unfold V75 w4d
 rw[cdf (by omega)]
 refine xml a.length (fun i=>True) (by omega) (fun rc i hi hI hr => ?_) (fun rc hI => ?_) 0 (by omega) trivial
 ·unfold wjr
  rw[cdt (by omega),jf a i hi,obS,obS,cdf (by omega),wr1 (by omega)]
  exact hr trivial
 ·unfold wjr wfj
  rw[cdf (by omega)]
theorem DrP.rows12 {p:PT}(h:DrP 12 p):∀r∈p.1,r.length≤4294967296:=fun r hr=>by have:=h.2 r hr;omega
theorem xej:∀{a b:List Int},a.length=b.length→lx a b=decide (cmpL a b<0)
 | [],[],_=>by simp[lx,cmpL]
 | [],_::_,h=>by simp at h
 | _::_,[],h=>by simp at h
 | x::a,y::b,h=>by
  have ih:=xej (a:=a) (b:=b) (by simpa using h)
  unfold lx cmpL
  by_cases e:x=y
  ·rw[if_neg (by simp[e]),if_pos e];exact ih
  ·rw[if_pos e,if_neg e]
   by_cases l:x<y
   ·rw[if_pos l];simp[l]
   ·rw[if_neg l];simp[l]
theorem xkw {a b:List Int}(h:a.length<b.length):ltOf cmpT a b=true:=by simp[ltOf,cmpT,h]
theorem xkx {a b:List Int}(h:b.length<a.length):ltOf cmpT a b=false:=by
 unfold ltOf cmpT
 rw[if_neg (by omega),if_pos h];decide
theorem xky {a b:List Int}(h:a.length=b.length):ltOf cmpT a b=lx a b:=by
 rw[xej h]
 unfold ltOf cmpT
 rw[if_neg (by omega),if_neg (by omega)]
theorem xen {ls:List (List Int)}{l:List Int}(hs:SortedL cmpT ls){m:Nat}(hm:m≤ls.length) (h1:∀(j:Nat) (hj:j<ls.length),m≤j→ltOf cmpT l ls[j]=true) (h2:∀(hk:0<m) ,ltOf cmpT l (ls[m-1]'(by omega))=false) :
  ls.take m++[l]++ls.drop m=insBy cmpT l ls:=by
 refine jan jw ?_ ?_ (jad jw l ls hs)
 ·refine List.Perm.trans ?_ (vr l ls).symm
  rw[List.append_assoc,List.singleton_append]
  refine List.perm_middle.trans ?_
  rw[List.take_append_drop]
 ·have hs':SortedL cmpT (ls.take m++ls.drop m):=by rw[List.take_append_drop];exact hs
  obtain⟨s1,s2,s3⟩:=List.pairwise_append.1 hs'
  have e1:∀x∈ls.take m,ltOf cmpT l x=false:=fun x hx=>by
   obtain⟨j,hj,rfl⟩:=List.mem_iff_getElem.1 hx
   rw[List.length_take]at hj
   have hm0:0<m:=by omega
   rw[List.getElem_take]
   by_cases q:j=m-1
   ·subst q;exact h2 hm0
   ·exact jep jw _ _ _ (h2 hm0) ((List.pairwise_iff_getElem.1 hs) j (m-1) (by omega) (by omega) (by omega))
  have e2:∀x∈ls.drop m,ltOf cmpT x l=false:=fun x hx=>by
   obtain⟨j,hj,rfl⟩:=List.mem_iff_getElem.1 hx
   rw[List.length_drop]at hj
   rw[List.getElem_drop]
   have:=h1 (m+j) (by omega) (by omega)
   cases q:ltOf cmpT ls[m+j] l with
   | false=>rfl
   | true=>have:=jgc jw _ _ _ this q;rw[jdg jw]at this;cases this
  unfold SortedL
  rw[List.append_assoc,List.singleton_append,List.pairwise_append]
  refine⟨s1,List.pairwise_cons.2 ⟨e2,s2⟩,fun x hx y hy => ?_⟩
  rcases List.mem_cons.1 hy with rfl|hy
  ·exact e1 x hx
  ·exact s3 x hx y hy
theorem xfz (ls:List (List Int)) (l:List Int) (hll:l.length≤4294967296) (h:ls.length≤4294967290) (hs:SortedL cmpT ls):V106 big ls l=some (insBy cmpT l ls,()):=by
 have fin:∀k:Nat,k≤ls.length→(∀(j:Nat) (hj:j<ls.length),k≤j→ltOf cmpT l ls[j]=true)→(∀(hk:0<k) (hq:k-1<ls.length),ltOf cmpT l ls[k-1]=false)→yc ls l (k:Int)=some (insBy cmpT l ls,()):=by
  intro k hk h1 h2
  have e1:slI ls 0 (k:Int)=some (ls.take k):=by have:=qn ls 0 k (by omega) hk;simpa using this
  have e2:slI ls (k:Int) (ls.length:Int)=some (ls.drop k):=by
   have:=qn ls k ls.length hk (Nat.le_refl _)
   rw[this,List.take_of_length_le (by rw[List.length_drop];omega)]
  have hl:(ls.take k).length≤ls.length:=by rw[List.length_take];omega
  unfold yc
  rw[e1,obS]
  have a1:appI ([]:List (List Int)) (ls.take k)=some (ls.take k):=by
   unfold appI;rw[if_pos (by simp;omega)];rfl
  rw[a1,obS,app1 (by omega),obS,e2,obS]
  have a2:appI (ls.take k++[l]) (ls.drop k)=some (ls.take k++[l]++ls.drop k):=by
   unfold appI
   rw[if_pos (by rw[List.length_append,List.length_drop,List.length_take];simp;omega)]
  rw[a2,obS,xen hs hk h1 fun q=>h2 q (by omega)]
 unfold V106 wui
 refine xhq (Q:=fun r=>r=some (insBy cmpT l ls,())) (fun k=>k.toNat) (fun k=>∃m:Nat,k=(m:Int)∧m≤ls.length∧∀(j:Nat) (hj:j<ls.length),m≤j→ltOf cmpT l ls[j]=true) ?_ _ (by omega) ⟨ls.length,rfl,Nat.le_refl _,fun j hj hm=>absurd hm (by omega)⟩
 rintro rc k ⟨m,rfl,hm,hgt⟩ ih
 unfold wr5
 by_cases c:m=0
 ·subst c
  rw[cdf (by omega)]
  exact fin 0 (by omega) hgt fun q=>absurd q (by omega)
 ·have e:IntKind.i64.wrap ((m:Int)-1)=((m-1:Nat):Int):=by rw[wr (by omega) (by omega)];omega
  have hat:atI ls ((m-1:Nat):Int)=some ls[m-1]:=jf ls (m-1) (by omega)
  have go:ltOf cmpT l ls[m-1]=true→rc ls l ((m-1:Nat):Int)=some (insBy cmpT l ls,()):=fun q=>ih ((m-1:Nat):Int) ⟨m-1,rfl,by omega,fun j hj hq=>by
   by_cases z:j=m-1
   ·subst z;exact q
   ·exact hgt j hj (by omega)⟩ (by omega)
  have stop:ltOf cmpT l ls[m-1]=false→yc ls l (m:Int)=some (insBy cmpT l ls,()):=fun q=>fin m hm hgt fun _ _=>q
  rw[cdt (by omega),e,hat,obS]
  by_cases c1:(l.length:Int)<(ls[m-1].length:Int)
  ·rw[cdt c1];exact go (xkw (by omega))
  ·rw[cdf c1,obS]
   by_cases c2:(l.length:Int)=(ls[m-1].length:Int)
   ·have hle:V105 big l ls[m-1]=some (lx l ls[m-1],()):=xee l ls[m-1] (by omega) hll
    rw[cdt c2,obS,hle,obS]
    have hq:=xky (a:=l) (b:=ls[m-1]) (by omega)
    cases hx:lx l ls[m-1] with
    | true=>exact go (hq.trans hx)
    | false=>exact stop (hq.trans hx)
   ·rw[cdf c2];exact stop (xkx (by omega))
theorem wzj (c:List Int→List Int→Int) (l:List (List Int)) (x:List Int):sortBy c (l++[x])=insBy c x (sortBy c l):=by unfold sortBy;rw[List.foldl_append];rfl
theorem whg {c:List Int→List Int→Int}(h:CmpOk c) (l:List (List Int)):(sortBy c l).length=l.length:=(vz h l).length_eq
theorem w5u {c:List Int→List Int→Int}(h:CmpOk c){l:List (List Int)}{x:List Int}:x∈sortBy c l↔x∈l:=(vz h l).mem_iff
theorem wzk (c:List Int→List Int→Int) (l:List (List Int)) (h:l.length≤4294967296):sortRowsV c l=some ((),(sortBy c l,())):=by unfold sortRowsV;rw[if_pos h]
def bitp (c i:Nat):Bool:=decide (c / 2 ^ i % 2=1)
theorem wyo {P:Nat→Bool}{a:Nat}:∀{b:Nat},a≤b→(∀i,a≤i→i<b→P i=false)→fl b P=fl a P
 | 0,h,_=>by rw[show a=0 by omega]
 | b+1,h,hp=>by
  by_cases e:a=b+1
  ·rw[e]
  ·rw[qi,if_neg (by rw[hp b (by omega) (by omega)];simp)]
   exact wyo (by omega) fun i h1 h2=>hp i h1 (by omega)
def nbits (c:Nat):Nat:=if c=0 then 0 else c.log2+1
theorem wyv {c k:Nat}(hc:c<2 ^ k):nbits c≤k:=by
 unfold nbits
 split
 ·omega
 ·rename_i h
  have:=(Nat.log2_lt h).2 hc
  omega
theorem nbits_pos {c i:Nat}:i<nbits c↔0<c / 2 ^ i:=by
 unfold nbits
 split
 ·rename_i h;subst h;simp
 ·rename_i h
  rw[Nat.lt_succ_iff,Nat.le_log2 h]
  constructor
  ·exact fun q=>Nat.div_pos q (Nat.pow_pos (by omega))
  ·intro q
   refine Nat.not_lt.1 fun z => ?_
   rw[Nat.div_eq_of_lt z]at q
   omega
theorem xd4 {c k:Nat}(hk:k≤10) (hc:c<2 ^ k):V93 big (c:Int)=some (cs (fl k (bitp c)),()):=by
 have hp:2 ^ k≤1024:=by have:=Nat.pow_le_pow_right (n:=2) (by omega) hk;omega
 have hn:=wyv hc
 have hcut:fl k (bitp c)=fl (nbits c) (bitp c):=wyo hn fun i h1 _=>by
  have:¬0<c / 2 ^ i:=fun q=>by have:=nbits_pos.2 q;omega
  unfold bitp;rw[decide_eq_false];generalize c / 2 ^ i=z at *;omega
 rw[hcut]
 unfold V93 w4v
 refine xm6 (nbits c) (fun i l=>l=cs (fl i (bitp c))) (by omega) ?_ ?_ 0 (by omega) _ rfl
 ·rintro rc i l hi rfl ih
  have hl:=jh i (bitp c)
  have hd:=nbits_pos.1 hi
  have hle:=Nat.div_le_self c (2 ^ i)
  unfold wkk
  rw[wml (by omega) (by omega),obS,cdt (by generalize c / 2 ^ i=z at *;omega),obS,wye (by omega),wr1 (by omega)]
  by_cases e:c / 2 ^ i % 2=1
  ·rw[cdt (show((c / 2 ^ i % 2:Nat):Int)=1 by rw[e];rfl),app1 (by rw[cs_len];omega),obS]
   exact ih _ (by rw[fl_t (P:=bitp c) (decide_eq_true e)])
  ·rw[cdf (show ¬((c / 2 ^ i % 2:Nat):Int)=1 from fun q=>e (by generalize c / 2 ^ i % 2=z at *;omega))]
   exact ih _ (by rw[fl_f (P:=bitp c) (decide_eq_false e)])
 ·rintro rc l rfl
  have hd:¬0<c / 2 ^ nbits c:=fun q=>by have:=nbits_pos.2 q;omega
  unfold wkk
  rw[wml (by omega) (by omega),obS,cdf (by generalize c / 2 ^ nbits c=z at *;omega),wgi]
theorem w5i {S L:List Nat}(h:∀s∈S,s<L.length) (hS:S.length≤1048576):V99 big (cs S) (cs L)=some (cs (S.map fun s=>L.getD s 0),()):=by
 unfold V99 w46
 rw[cs_len,jar (by omega),obS,obS,cdt (by omega)]
 refine xnc S.length (fun i l=>l=mkR S.length fun j=>if j<i then((L.getD (S.getD j 0) 0:Nat):Int) else 0) (by omega) ?_ ?_ 0 (by omega) _ (jq fun x _=>by rw[if_neg (by omega)])
 ·rintro rc i l hi rfl ih
  have hs:=h _ (List.getElem_mem hi)
  unfold wks
  rw[cdt (by omega),jo hi,obS,jo hs,obS,jd hi,obS,Int.toNat_natCast,ju hi,obS,wr1 (by omega)]
  refine ih _ ?_
  rw[qy]
  refine jq fun x hx => ?_
  by_cases c:x=i
  ·subst c
   rw[if_pos rfl,if_pos (by omega),wg hi,wg hs]
  ·rw[if_neg c]
   by_cases d:x<i
   ·rw[if_pos d,if_pos (by omega)]
   ·rw[if_neg d,if_neg (by omega)]
 ·rintro rc l rfl
  unfold wks
  rw[cdf (by omega),wgs]
  congr 2
  refine(jch (by rw[cs_len,List.length_map]) fun i hi => ?_).symm
  have hi':i<S.length:=by rw[cs_len,List.length_map]at hi;exact hi
  rw[if_pos hi',wg hi']
  simp[cs]
theorem ws8 {n:Nat}(H:Nat→Bool) (hn:n≤1048576):V95 big (mkR n H)=some (cs (fl n H),()):=by
 unfold V95 w4z
 rw[mkR_len]
 refine xm8 n (fun i l=>l=cs (fl i H)) (by omega) ?_ ?_ 0 (by omega) _ rfl
 ·rintro rc i l hi rfl ih
  have hl:=jh i H
  unfold wko
  rw[cdt (by omega),jd hi,obS,wr1 (by omega)]
  cases hH:H i with
  | true=>rw[cond_true,app1 (by rw[cs_len];omega),obS];exact ih _ (fl_t hH)
  | false=>exact ih _ (fl_f hH)
 ·rintro rc l rfl
  unfold wko
  rw[cdf (by omega),wgk]
theorem xfw {n:Nat}{S:List Nat}(hS:∀s∈S,s<n) (hn:n≤1048576) (hl:S.length≤1048576):V94 big (cs S) (n:Int)=some (mkR n fun z=>decide (z∈S),()):=by
 unfold V94 w4x
 rw[jar (by omega),obS,obS,cdt (by omega),cs_len]
 refine xm7 S.length (fun i l=>l=mkR n fun z=>decide (z∈S.take i)) (by omega) ?_ ?_ 0 (by omega) _ (jq fun x _=>by simp)
 ·rintro rc i l hi rfl ih
  have hs:=hS _ (List.getElem_mem hi)
  unfold wkm
  rw[cdt (by omega),jo hi,obS,jd hs,obS,Int.toNat_natCast,ju hs,obS,wr1 (by omega)]
  refine ih _ ?_
  rw[qy]
  refine jq fun x hx => ?_
  by_cases c:x=S[i]
  ·rw[if_pos c,decide_eq_true]
   exact(ut hi).2 (.inr c)
  ·rw[if_neg c]
   refine decide_eq_decide.2 ((ut hi).trans ⟨fun q=>q.resolve_right c,.inl⟩).symm
 ·rintro rc l rfl
  unfold wkm
  rw[cdf (by omega),wgj,List.take_length]
def ClP (n:Nat) (le:Nat→Nat→Bool) (K:Nat→Bool):Prop:=∀x y,x<n→y<n→K x=true→K y=true→K (mt n le x y)=true∧K (mt n (du le) x y)=true
noncomputable def lcl (n:Nat) (le:Nat→Nat→Bool) (H:Nat→Bool) (z:Nat):Bool:=tv (∀K:Nat→Bool,ClP n le K→(∀x,x<n→H x=true→K x=true)→K z=true)
noncomputable def hv (n:Nat) (H:Nat→Bool) (E:Nat→Prop):List Bool:=mkR n fun z=>H z||tv (E z)
noncomputable def cv (n:Nat) (H:Nat→Bool) (E:Nat→Prop):Bool:=tv (∃z,z<n∧E z∧H z=false)
theorem wmy {n:Nat}{H:Nat→Bool}{E E':Nat→Prop}(h:∀z,E z↔E' z):hv n H E=hv n H E':=by rw[show E=E' from funext fun z=>propext (h z)]
theorem wmw {n:Nat}{H:Nat→Bool}{E E':Nat→Prop}(h:∀z,E z↔E' z):cv n H E=cv n H E':=by rw[show E=E' from funext fun z=>propext (h z)]
theorem xnm {n:Nat}{H:Nat→Bool}{E:Nat→Prop}{z:Nat}:(hv n H E).set z true=hv n H fun x=>E x∨x=z:=by
 unfold hv
 rw[qy]
 refine jq fun x _ => ?_
 by_cases c:x=z
 ·rw[if_pos c,tv_t (.inr c),Bool.or_true]
 ·rw[if_neg c]
  congr 1
  exact qt ⟨.inl,fun q=>q.resolve_right c⟩
theorem xku {n:Nat}{H:Nat→Bool}{E:Nat→Prop}{z:Nat}(hz:z<n):cv n H (fun x=>E x∨x=z)=(cv n H E || !(H z||tv (E z))):=by
 unfold cv
 by_cases c:∃z,z<n∧E z∧H z=false
 ·rw[tv_t c,Bool.true_or]
  obtain⟨x,h1,h2,h3⟩:=c
  exact tv_t ⟨x,h1,.inl h2,h3⟩
 ·rw[tv_f c,Bool.false_or]
  cases hH:H z with
  | true =>
   rw[Bool.true_or,Bool.not_true,tv_f]
   rintro⟨x,h1,h2|h2,h3⟩
   ·exact c ⟨x,h1,h2,h3⟩
   ·rw[h2,hH]at h3;cases h3
  | false =>
   by_cases e:E z
   ·exact absurd ⟨z,hz,e,hH⟩ c
   ·rw[tv_f e]
    exact tv_t ⟨z,hz,.inr rfl,hH⟩
theorem wyp {n:Nat}{le:Nat→Nat→Bool}(h:LatP n le){S:List Nat}(hS:∀s∈S,s<n) (hl:S.length≤1048576):V96 big (some (lat n le)) (cs S)=some (cs (fl n (lcl n le fun z=>decide (z∈S))),()):=by
 have h10:=h.le10
 unfold V96 w43
 rw[obS,lat1,mkR_len,xfw hS (by omega) hl,obS]
 have fin:∀H:Nat→Bool,(∀z,z<n→z∈S→H z=true)→(∀z,z<n→H z=true→lcl n le (fun z=>decide (z∈S)) z=true)→ClP n le H→wb2 (mkR n H)=some (cs (fl n (lcl n le fun z=>decide (z∈S))),()):=fun H a b c=>by
  unfold wb2
  rw[ws8 H (by omega),obS,ur (P:=H) (Q:=lcl n le fun z=>decide (z∈S)) fun x hx => ?_]
  cases hH:H x with
  | true=>exact(b x hx hH).symm
  | false =>
   symm
   refine tv_f fun q => ?_
   have:=q H c fun y hy hd=>a y hy (of_decide_eq_true hd)
   rw[hH]at this;cases this
 refine xna (fun hv c=>2*(hv.filter (! ·)).length+(if c then 1 else 0)) (fun hv c=>∃H:Nat→Bool,hv=mkR n H∧(∀z,z<n→z∈S→H z=true)∧(∀z,z<n→H z=true→lcl n le (fun z=>decide (z∈S)) z=true)∧(c=false→ClP n le H)) ?_ _ _ ?_
  ⟨_,rfl,fun z _ hz=>decide_eq_true hz,fun z hz hd=>tv_t fun K _ hK=>hK z hz hd,fun q=>by cases q⟩
 rotate_left
 ·have:((mkR n fun z=>decide (z∈S)).filter (! ·)).length≤n:=Nat.le_trans (List.length_filter_le _ _) (by rw[mkR_len];exact Nat.le_refl _)
  simp only[if_true];omega
 rintro rc _ c ⟨H,rfl,hS1,hS2,hC⟩ ih
 unfold wqv
 cases c with
 | false=>exact fin H hS1 hS2 (hC rfl)
 | true =>
  have hL:∀{i},(hi:i<(fl n H).length)→(fl n H)[i]<n∧H (fl n H)[i]=true:=fun hi=>fl_mem.1 (List.getElem_mem hi)
  have hLl:(fl n H).length≤n:=jh _ _
  rw[cond_true,ws8 H (by omega),obS,cs_len]
  let E13:=fun(i j t:Nat) (z:Nat)=>(∃a b,a<(fl n H).length∧b<(fl n H).length∧(a<i∨a=i∧b<j)∧(z=mt n le ((fl n H).getD a 0) ((fl n H).getD b 0)∨z=mt n (du le) ((fl n H).getD a 0) ((fl n H).getD b 0))) ∨
   (0<t∧z=mt n le ((fl n H).getD i 0) ((fl n H).getD j 0))∨(1<t∧z=mt n (du le) ((fl n H).getD i 0) ((fl n H).getD j 0))
  have hE:∀i j t,E13 i j t=fun z=>(∃a b,a<(fl n H).length∧b<(fl n H).length∧(a<i∨a=i∧b<j)∧(z=mt n le ((fl n H).getD a 0) ((fl n H).getD b 0)∨z=mt n (du le) ((fl n H).getD a 0) ((fl n H).getD b 0))) ∨
   (0<t∧z=mt n le ((fl n H).getD i 0) ((fl n H).getD j 0))∨(1<t∧z=mt n (du le) ((fl n H).getD i 0) ((fl n H).getD j 0)):=fun _ _ _=>rfl
  have s13:∀i j,i<(fl n H).length→j<(fl n H).length→∀z,E13 i j 2 z↔E13 i (j+1) 0 z:=fun i j hi hj z=>by
   simp only[hE]
   constructor
   ·rintro (⟨a,b,h1,h2,h3,h4⟩|⟨_,h4⟩|⟨_,h4⟩)
    ·exact .inl ⟨a,b,h1,h2,by omega,h4⟩
    ·exact .inl ⟨i,j,hi,hj,by omega,.inl h4⟩
    ·exact .inl ⟨i,j,hi,hj,by omega,.inr h4⟩
   ·rintro (⟨a,b,h1,h2,h3,h4⟩|⟨q,_⟩|⟨q,_⟩)
    ·by_cases e:a=i∧b=j
     ·obtain⟨rfl,rfl⟩:=e
      rcases h4 with h4|h4
      ·exact .inr (.inl ⟨by omega,h4⟩)
      ·exact .inr (.inr ⟨by omega,h4⟩)
     ·exact .inl ⟨a,b,h1,h2,by omega,h4⟩
    ·omega
    ·omega
  have s10:∀i,i<(fl n H).length→∀z,E13 i (fl n H).length 0 z↔E13 (i+1) 0 0 z:=fun i hi z=>by
   simp only[hE]
   constructor
   ·rintro (⟨a,b,h1,h2,h3,h4⟩|⟨q,_⟩|⟨q,_⟩)
    ·exact .inl ⟨a,b,h1,h2,by omega,h4⟩
    ·omega
    ·omega
   ·rintro (⟨a,b,h1,h2,h3,h4⟩|⟨q,_⟩|⟨q,_⟩)
    ·exact .inl ⟨a,b,h1,h2,by omega,h4⟩
    ·omega
    ·omega
  clear_value E13
  refine xm9 (fl n H).length (fun i l c=>l=hv n H (E13 i 0 0)∧c=cv n H (E13 i 0 0)) (by omega) ?_ ?_ 0 (by omega) _ _ ⟨jq fun z _ => ?_, ?_⟩
  rotate_left 2
  ·rw[tv_f,Bool.or_false]
   rw[hE]
   rintro (⟨a,b,h1,h2,h3,h4⟩|⟨q,_⟩|⟨q,_⟩)<;>omega
  ·symm
   refine tv_f ?_
   rw[hE]
   rintro⟨z,_,(⟨a,b,h1,h2,h3,h4⟩|⟨q,_⟩|⟨q,_⟩),_⟩<;>omega
  ·rintro rc2 i l c hi ⟨rfl,rfl⟩ ih2
   have hLi:=hL hi
   unfold wgq
   rw[cdt (by omega),jo hi,obS,Int.toNat_natCast,jz hi,obS,cs_len]
   refine xkc (fl n H).length (fun j l c=>l=hv n H (E13 i j 0)∧c=cv n H (E13 i j 0)) (by omega) ?_ ?_ 0 (by omega) _ _ ⟨rfl,rfl⟩
   ·rintro rc3 j l c hj ⟨rfl,rfl⟩ ih3
    have hLj:=hL hj
    have hm:=h.mlt hLi.1 hLj.1
    have hjn:=jlt h hLi.1 hLj.1
    unfold way
    rw[cdt (by omega),jo hj,obS,Int.toNat_natCast,jz hj,obS,obS,lat2,jd hLi.1,obS,jd hLj.1,obS,obS,lat3,jd hLi.1,obS,jd hLj.1,obS]
    refine xkd 2 (fun t l c=>l=hv n H (E13 i j t)∧c=cv n H (E13 i j t)) (by omega) ?_ ?_ 0 (by omega) _ _ ⟨rfl,rfl⟩
    ·rintro rc4 t l c ht ⟨rfl,rfl⟩ ih4
     have step:∀z,z<n→(∀x,(E13 i j t x∨x=z)↔E13 i j (t+1) x)→atI [((mt n le (fl n H)[i] (fl n H)[j]:Nat):Int),((mt n (du le) (fl n H)[i] (fl n H)[j]:Nat):Int)] (t:Int)=some (z:Int)→[((mt n le (fl n H)[i] (fl n H)[j]:Nat):Int),((mt n (du le) (fl n H)[i] (fl n H)[j]:Nat):Int)][t]? = some (z:Int) →
       waz rc4 (yk rc3) (some (lat n le)) (hv n H (E13 i j t)) (cv n H (E13 i j t)) (cs (fl n H)) ((fl n H)[i]:Int) ((fl n H).length:Int) (i:Int) ((fl n H).length:Int) (j:Int) [((mt n le (fl n H)[i] (fl n H)[j]:Nat):Int),((mt n (du le) (fl n H)[i] (fl n H)[j]:Nat):Int)] 2 (t:Int)=some (cs (fl n (lcl n le fun z=>decide (z∈S))),()):=by
      intro z hz he e1 e2
      have g1:atI (hv n H (E13 i j t)) (z:Int)=some (H z||tv (E13 i j t z)):=jd hz
      have g2:(hv n H (E13 i j t))[z]? = some (H z||tv (E13 i j t z)):=ju hz
      have k1:(hv n H (E13 i j t)).set z true=hv n H (E13 i j (t+1)):=by rw[xnm];exact wmy he
      have k2:cv n H (E13 i j (t+1))=(cv n H (E13 i j t) || !(H z||tv (E13 i j t z))):=by rw[←xku hz];exact(wmw he).symm
      unfold waz
      rw[cdt (by omega),e1,obS,Int.toNat_natCast,e2,obS,Int.toNat_natCast,g1,g2,k1,wr1 (by omega)]
      simp only[obS]
      cases hc:cv n H (E13 i j t) with
      | true=>rw[cond_true];exact ih4 _ _ ⟨rfl,by rw[k2,hc];rfl⟩
      | false=>rw[cond_false];exact ih4 _ _ ⟨rfl,by rw[k2,hc];rfl⟩
     have hti:t=0∨t=1:=by omega
     rcases hti with rfl|rfl
     ·refine step _ hm (fun x => ?_) rfl rfl
      simp only[hE,wg hi,wg hj]
      constructor
      ·rintro ((q|⟨q,_⟩|⟨q,_⟩)|q)
       ·exact .inl q
       ·omega
       ·omega
       ·exact .inr (.inl ⟨by omega,q⟩)
      ·rintro (q|⟨_,q⟩|⟨q,_⟩)
       ·exact .inl (.inl q)
       ·exact .inr q
       ·omega
     ·refine step _ hjn (fun x => ?_) rfl rfl
      simp only[hE,wg hi,wg hj]
      constructor
      ·rintro ((q|⟨_,q⟩|⟨q,_⟩)|q)
       ·exact .inl q
       ·exact .inr (.inl ⟨by omega,q⟩)
       ·omega
       ·exact .inr (.inr ⟨by omega,q⟩)
      ·rintro (q|⟨_,q⟩|⟨_,q⟩)
       ·exact .inl (.inl q)
       ·exact .inl (.inr (.inl ⟨by omega,q⟩))
       ·exact .inr q
    ·rintro rc4 l c ⟨rfl,rfl⟩
     unfold waz
     rw[cdf (by simp),yk,wr1 (by omega)]
     exact ih3 _ _ ⟨wmy (s13 i j hi hj),wmw (s13 i j hi hj)⟩
   ·rintro rc3 l c ⟨rfl,rfl⟩
    unfold way
    rw[cdf (by omega),xw,wr1 (by omega)]
    exact ih2 _ _ ⟨wmy (s10 i hi),wmw (s10 i hi)⟩
  ·rintro rc2 l c ⟨rfl,rfl⟩
   unfold wgq
   rw[cdf (by omega),zl]
   have hEz:∀z,E13 (fl n H).length 0 0 z↔∃x y,x<n∧y<n∧H x=true∧H y=true∧(z=mt n le x y∨z=mt n (du le) x y):=fun z=>by
    rw[hE]
    constructor
    ·rintro (⟨a,b,h1,h2,h3,h4⟩|⟨q,_⟩|⟨q,_⟩)
     ·rw[wg h1,wg h2]at h4
      exact⟨_,_,(hL h1).1,(hL h2).1,(hL h1).2,(hL h2).2,h4⟩
     ·omega
     ·omega
    ·rintro⟨x,y,h1,h2,h3,h4,h5⟩
     obtain⟨a,ha,rfl⟩:=List.getElem_of_mem (fl_mem.2 ⟨h1,h3⟩)
     obtain⟨b,hb,rfl⟩:=List.getElem_of_mem (fl_mem.2 ⟨h2,h4⟩)
     exact .inl ⟨a,b,ha,hb,.inl ha,by rw[wg ha,wg hb];exact h5⟩
   refine ih _ _ ⟨fun z=>H z||tv (E13 (fl n H).length 0 0 z),rfl,fun z hz hs=>by show(H z||tv (E13 (fl n H).length 0 0 z))=true;rw[hS1 z hz hs];rfl,fun z hz hd => ?_,fun q => ?_⟩ ?_
   ·cases hH:H z with
    | true=>exact hS2 z hz hH
    | false =>
     have hd:(H z||tv (E13 (fl n H).length 0 0 z))=true:=hd
     rw[hH,Bool.false_or]at hd
     obtain⟨x,y,h1,h2,h3,h4,h5⟩:=(hEz z).1 (tv_iff.1 hd)
     refine tv_t fun K hK hKS => ?_
     have a1:=tv_iff.1 (hS2 x h1 h3) K hK hKS
     have a2:=tv_iff.1 (hS2 y h2 h4) K hK hKS
     rcases h5 with rfl|rfl
     ·exact(hK x y h1 h2 a1 a2).1
     ·exact(hK x y h1 h2 a1 a2).2
   ·have hno:∀z,z<n→E13 (fl n H).length 0 0 z→H z=true:=fun z hz he=>by
     cases hH:H z with
     | true=>rfl
     | false =>
      have:cv n H (E13 (fl n H).length 0 0)=true:=tv_t ⟨z,hz,he,hH⟩
      rw[q]at this;cases this
    have hback:∀z,z<n→(H z||tv (E13 (fl n H).length 0 0 z))=true→H z=true:=fun z hz hd=>by
     cases hH:H z with
     | true=>rfl
     | false=>rw[hH,Bool.false_or]at hd;rw[hno z hz (tv_iff.1 hd)]at hH;cases hH
    intro x y hx hy k1 k2
    have b1:=hback x hx k1
    have b2:=hback y hy k2
    have e1:E13 (fl n H).length 0 0 (mt n le x y):=(hEz _).2 ⟨x,y,hx,hy,b1,b2,.inl rfl⟩
    have e2:E13 (fl n H).length 0 0 (mt n (du le) x y):=(hEz _).2 ⟨x,y,hx,hy,b1,b2,.inr rfl⟩
    exact⟨by show(H _||tv (E13 (fl n H).length 0 0 _))=true;rw[tv_t e1,Bool.or_true],by show(H _||tv (E13 (fl n H).length 0 0 _))=true;rw[tv_t e2,Bool.or_true]⟩
   ·have hc1:∀m,cv (m+1) H (E13 (fl n H).length 0 0)=(cv m H (E13 (fl n H).length 0 0)||(tv (E13 (fl n H).length 0 0 m) && !H m)):=fun m=>by
     unfold cv
     by_cases c:∃z,z<m∧E13 (fl n H).length 0 0 z∧H z=false
     ·rw[tv_t c,Bool.true_or]
      obtain⟨z,h1,h2,h3⟩:=c
      exact tv_t ⟨z,by omega,h2,h3⟩
     ·rw[tv_f c,Bool.false_or]
      by_cases e:E13 (fl n H).length 0 0 m
      ·rw[tv_t e,Bool.true_and]
       cases hH:H m with
       | true =>
        refine tv_f ?_
        rintro⟨z,h1,h2,h3⟩
        by_cases q:z=m
        ·subst q;rw[hH]at h3;cases h3
        ·exact c ⟨z,by omega,h2,h3⟩
       | false=>exact tv_t ⟨m,by omega,e,hH⟩
      ·rw[tv_f e,Bool.false_and]
       refine tv_f ?_
       rintro⟨z,h1,h2,h3⟩
       by_cases q:z=m
       ·subst q;exact e h2
       ·exact c ⟨z,by omega,h2,h3⟩
    have hcnt:∀m,((mkR m fun z=>H z||tv (E13 (fl n H).length 0 0 z)).filter (! ·)).length+(if cv m H (E13 (fl n H).length 0 0)=true then 1 else 0)≤((mkR m H).filter (! ·)).length:=fun m=>by
     induction m with
     | zero=>rw[show cv 0 H (E13 (fl n H).length 0 0)=false from tv_f fun⟨z,h1,_⟩=>absurd h1 (by omega)];simp[mkR]
     | succ m ihm =>
      rw[jv,jv,List.filter_append,List.filter_append,List.length_append,List.length_append,hc1]
      cases hH:H m with
      | true=>simpa using ihm
      | false =>
       cases he:tv (E13 (fl n H).length 0 0 m) with
       | true =>
        have:((mkR m fun z=>H z||tv (E13 (fl n H).length 0 0 z)).filter (! ·)).length≤((mkR m H).filter (! ·)).length:=Nat.le_trans (Nat.le_add_right _ _) ihm
        simp
        simpa using this
       | false=>simp;simp at ihm;omega
    have hcn:=hcnt n
    unfold hv
    simp only[if_true]
    split at hcn
    ·rename_i q;rw[q];simp only[if_true];omega
    ·rename_i q;rw[if_neg q];omega
theorem xfp {n:Nat}{le:Nat→Nat→Bool}(h:LatP n le){x:Nat}(hx:x<n):mt n (du le) x (bt n le)=x :=
 h.as (jlt h hx (wl h)) hx (by have:=h.du.mg hx (wl h) hx (h.ord.refl x hx) (xi h hx);exact this) (j1 h hx (wl h))
theorem xnl {n:Nat}{le:Nat→Nat→Bool}(h:BoolP n le):cpl n le (bt n le)=tp n le:=by
 obtain⟨h1,_,h3⟩:=w6 h.cmp (wl h.lp)
 rw[xfp h.lp h1]at h3
 exact h3
def SubA (n:Nat) (le:Nat→Nat→Bool) (S:List Nat):Prop:=bt n le∈S∧(∀s∈S,cpl n le s∈S)∧∀x∈S,∀y∈S,mt n le x y∈S∧mt n (du le) x y∈S
theorem w5v {n:Nat}{le:Nat→Nat→Bool}(h:BoolP n le){S:List Nat}(hS:∀s∈S,s<n) (hl:S.length≤10):V104 big (pos n le) (mkR n fun x=>((cpl n le x:Nat):Int)) (cs S)=some (tv (SubA n le S),()):=by
 have h10:=h.lp.le10
 have hcl:(cs S).length≤4294967296:=by rw[cs_len];omega
 have mem:∀z:Nat,V14 big (cs S) (z:Int)=some (decide (z∈S),()):=fun z=>by
  rw[wb9 _ _ hcl]
  congr 2
  exact decide_eq_decide.2 cs_mem
 unfold V104 wuf
 rw[wq h.lp,obS,mem,obS]
 by_cases hb:bt n le∈S
 case neg=>rw[show decide (gb n (du le) []∈S)=false from decide_eq_false hb,Bool.not_false,cond_true,tv_f fun q=>hb q.1]
 rw[show decide (gb n (du le) []∈S)=true from decide_eq_true hb,Bool.not_true,cond_false,xj h.lp,obS,mem,obS]
 by_cases ht:tp n le∈S
 case neg=>rw[show decide (gb n le []∈S)=false from decide_eq_false ht,Bool.not_false,cond_true,tv_f fun q=>ht (xnl h▸q.2.1 _ q.1)]
 rw[show decide (gb n le []∈S)=true from decide_eq_true ht,Bool.not_true,cond_false]
 refine xhn S.length (fun i=>∀j (hj:j<S.length),j<i→cpl n le S[j]∈S∧∀k (hk:k<j),mt n le S[j] S[k]∈S∧mt n (du le) S[j] S[k]∈S) (by omega) ?_ ?_ 0 (by omega) (fun j _ q=>absurd q (by omega))
 ·intro rc i hi hv ih
  have hs:=hS _ (List.getElem_mem hi)
  unfold z9
  rw[cs_len,cdt (by omega),jo hi,obS,jd hs,obS,mem,obS]
  by_cases hc:cpl n le S[i]∈S
  case neg=>rw[decide_eq_false hc,Bool.not_false,cond_true,tv_f fun q=>hc (q.2.1 _ (List.getElem_mem hi))]
  rw[decide_eq_true hc,Bool.not_true,cond_false]
  refine xho i (fun k=>∀j (hj:j<i),j<k→mt n le S[i] S[j]∈S∧mt n (du le) S[i] S[j]∈S) (by omega) ?_ ?_ 0 (by omega) (fun j _ q=>absurd q (by omega))
  ·intro rc2 k hk hv2 ih2
   have hk':k<S.length:=by omega
   have hsk:=hS _ (List.getElem_mem hk')
   unfold wcy
   rw[cdt (by omega)]
   simp only[jo hi,jo hk',obS,xb h.lp hs hsk,w5 h.lp hs hsk,mem]
   by_cases h1:mt n le S[i] S[k]∈S
   case neg=>rw[decide_eq_false h1,Bool.not_false,cond_true,tv_f fun q=>h1 (q.2.2 _ (List.getElem_mem hi) _ (List.getElem_mem hk')).1]
   by_cases h2:mt n (du le) S[i] S[k]∈S
   case neg=>rw[decide_eq_true h1,Bool.not_true,cond_false,decide_eq_false h2,Bool.not_false,cond_true,tv_f fun q=>h2 (q.2.2 _ (List.getElem_mem hi) _ (List.getElem_mem hk')).2]
   rw[decide_eq_true h1,decide_eq_true h2,Bool.not_true,cond_false,cond_false,wr1 (by omega)]
   refine ih2 fun j hj hjk => ?_
   by_cases q:j=k
   ·subst q;exact⟨h1,h2⟩
   ·exact hv2 j hj (by omega)
  ·intro rc2 hv2
   unfold wcy
   rw[cdf (by omega),z8,wr1 (by omega)]
   refine ih fun j hj hji => ?_
   by_cases q:j=i
   ·subst q;exact⟨hc,fun k hk=>hv2 k hk hk⟩
   ·exact hv j hj (by omega)
 ·intro rc hv
  unfold z9
  rw[cs_len,cdf (by omega),xn,tv_t]
  refine⟨hb,fun s hs => ?_,fun x hx y hy => ?_⟩
  ·obtain⟨j,hj,rfl⟩:=List.getElem_of_mem hs
   exact(hv j hj hj).1
  ·obtain⟨j,hj,rfl⟩:=List.getElem_of_mem hx
   obtain⟨k,hk,rfl⟩:=List.getElem_of_mem hy
   rcases Nat.lt_trichotomy k j with q|q|q
   ·exact(hv j hj hj).2 k q
   ·subst q
    have hs:=hS _ (List.getElem_mem hj)
    rw[yn h.lp hs,yn h.lp.du hs]
    exact⟨List.getElem_mem hj,List.getElem_mem hj⟩
   ·rw[wu S[j] S[k],wu (le:=du le) S[j] S[k]]
    exact(hv k hk hk).2 j q
theorem w5m {n:Nat}{le:Nat→Nat→Bool}(h:LatP n le){P:Nat→Bool}:V97 (some (lat n le)) (cs (fl n P))=some (tv (fl n P≠[]∧ClP n le P),()):=by
 have h10:=h.le10
 have hl:=jh n P
 have hS:∀s∈fl n P,s<n:=fun s hs=>(fl_mem.1 hs).1
 unfold V97 xg8
 rw[cs_len]
 by_cases h0:fl n P=[]
 ·rw[h0,cdf (by simp),tv_f fun q=>q.1 rfl]
 ·have hpos:0<(fl n P).length:=List.length_pos_iff.2 h0
  have hall:(cs (fl n P)).all (inB n)=true:=by
   rw[List.all_eq_true]
   intro x hx
   obtain⟨s,hs,rfl⟩:=List.mem_map.1 hx
   have:=hS s hs
   unfold inB;rw[decide_eq_true_eq];omega
  rw[cdt (by omega),obS,lat1,wrl _ (by rw[cs_len];omega),obS,hall,cond_true,wy2 _ (by rw[cs_len];omega),obS,wcm (wss n P),cond_true,wyp h hS (by omega),obS,cs_len]
  congr 2
  have hle:∀x,x<n→P x=true→lcl n le (fun z=>decide (z∈fl n P)) x=true:=fun x hx hp=>tv_t fun K _ hK=>hK x hx (decide_eq_true (fl_mem.2 ⟨hx,hp⟩))
  have hcl:ClP n le (lcl n le fun z=>decide (z∈fl n P)):=fun x y hx hy h1 h2 =>
   ⟨tv_t fun K hC hK=>(hC x y hx hy (tv_iff.1 h1 K hC hK) (tv_iff.1 h2 K hC hK)).1,tv_t fun K hC hK=>(hC x y hx hy (tv_iff.1 h1 K hC hK) (tv_iff.1 h2 K hC hK)).2⟩
  by_cases hc:ClP n le P
  ·rw[tv_t ⟨h0,hc⟩,decide_eq_true_eq]
   congr 2
   refine ur fun x hx => ?_
   cases hp:P x with
   | true=>exact hle x hx hp
   | false =>
    refine tv_f fun q => ?_
    have:=q P hc fun y hy hd=>(fl_mem.1 (of_decide_eq_true hd)).2
    rw[hp]at this;cases this
  ·rw[tv_f fun q=>hc q.2,decide_eq_false_iff_not]
   intro e
   apply hc
   have hsub:(fl n P).Sublist (fl n (lcl n le fun z=>decide (z∈fl n P))):=by
    have e2:fl n P=(fl n (lcl n le fun z=>decide (z∈fl n P))).filter P:=by
     conv=>lhs;unfold fl
     conv=>rhs;unfold fl
     rw[List.filter_filter]
     refine List.filter_congr fun x hx => ?_
     cases hp:P x with
     | true=>rw[show lcl n le (fun z=>decide (z∈List.filter P (List.range n))) x=true from hle x (List.mem_range.1 hx) hp];rfl
     | false=>rfl
    have e3:=List.filter_sublist (l:=fl n (lcl n le fun z=>decide (z∈fl n P))) (p:=P)
    rwa [←e2]at e3
   have heq:=hsub.eq_of_length (by omega)
   have hP:∀x,x<n→P x=lcl n le (fun z=>decide (z∈fl n P)) x:=fun x hx=>Go.Gx.fl_inj heq hx
   intro x y hx hy h1 h2
   rw[hP x hx]at h1
   rw[hP y hy]at h2
   have:=hcl x y hx hy h1 h2
   rw[hP _ (h.mlt hx hy),hP _ (jlt h hx hy)]
   exact this
theorem xf2 {n:Nat}{le:Nat→Nat→Bool}{P:Nat→Bool}(h:LatP n le):SubA n le (fl n P)↔(fl n P≠[]∧ClP n le P)∧bt n le∈fl n P∧∀s∈fl n P,cpl n le s∈fl n P:=by
 constructor
 ·rintro⟨h1,h2,h3⟩
  refine⟨⟨fun e=>(by rw[e]at h1;cases h1),fun x y hx hy p q => ?_⟩,h1,h2⟩
  have:=h3 x (fl_mem.2 ⟨hx,p⟩) y (fl_mem.2 ⟨hy,q⟩)
  exact⟨(fl_mem.1 this.1).2,(fl_mem.1 this.2).2⟩
 ·rintro⟨⟨_,h2⟩,h3,h4⟩
  refine⟨h3,h4,fun x hx y hy => ?_⟩
  have a:=fl_mem.1 hx
  have b:=fl_mem.1 hy
  have:=h2 x y a.1 b.1 a.2 b.2
  exact⟨fl_mem.2 ⟨h.mlt a.1 b.1,this.1⟩,fl_mem.2 ⟨jlt h a.1 b.1,this.2⟩⟩
theorem xed {c k:Nat}(hk:k≤10) (hc:c<2 ^ k):V103 big (c:Int)=some (cs (fl k (bitp c)),()):=by
 have hp:2 ^ k≤1024:=by have:=Nat.pow_le_pow_right (n:=2) (by omega) hk;omega
 have hn:=wyv hc
 have hcut:fl k (bitp c)=fl (nbits c) (bitp c):=wyo hn fun i h1 _=>by
  have:¬0<c / 2 ^ i:=fun q=>by have:=nbits_pos.2 q;omega
  unfold bitp;rw[decide_eq_false];generalize c / 2 ^ i=z at *;omega
 rw[hcut]
 unfold V103 wud
 refine xhm (nbits c) (fun i l=>l=cs (fl i (bitp c))) (by omega) ?_ ?_ 0 (by omega) _ rfl
 ·rintro rc i l hi rfl ih
  have hl:=jh i (bitp c)
  have hd:=nbits_pos.1 hi
  have hle:=Nat.div_le_self c (2 ^ i)
  unfold wcv
  rw[wml (by omega) (by omega),obS,cdt (by generalize c / 2 ^ i=z at *;omega),obS,wye (by omega),wr1 (by omega)]
  by_cases e:c / 2 ^ i % 2=1
  ·rw[cdt (show((c / 2 ^ i % 2:Nat):Int)=1 by rw[e];rfl),app1 (by rw[cs_len];omega),obS]
   exact ih _ (by rw[fl_t (P:=bitp c) (decide_eq_true e)])
  ·rw[cdf (show ¬((c / 2 ^ i % 2:Nat):Int)=1 from fun q=>e (by generalize c / 2 ^ i % 2=z at *;omega))]
   exact ih _ (by rw[fl_f (P:=bitp c) (decide_eq_false e)])
 ·rintro rc l rfl
  have hd:¬0<c / 2 ^ nbits c:=fun q=>by have:=nbits_pos.2 q;omega
  unfold wcv
  rw[wml (by omega) (by omega),obS,cdf (by generalize c / 2 ^ nbits c=z at *;omega),z6]
noncomputable def suL (n:Nat) (le:Nat→Nat→Bool) (c:Nat):List (List Int):=((List.range c).filter fun b=>tv (SubA n le (fl n (bitp b)))).map fun b=>cs (fl n (bitp b))
theorem whh (n:Nat) (le:Nat→Nat→Bool) (c:Nat):suL n le (c+1)=if tv (SubA n le (fl n (bitp c)))=true then suL n le c++[cs (fl n (bitp c))] else suL n le c:=by
 unfold suL
 rw[List.range_succ,List.filter_append,List.map_append]
 by_cases h:SubA n le (fl n (bitp c))
 ·simp[tv_t h]
 ·simp[tv_f h]
theorem wmm (n:Nat) (le:Nat→Nat→Bool) (c:Nat):(suL n le c).length≤c:=by
 unfold suL;rw[List.length_map];exact Nat.le_trans (List.length_filter_le _ _) (by simp)
theorem xk3 {n:Nat}{le:Nat→Nat→Bool}{c:Nat}{x:List Int}(h:x∈suL n le c):x.length≤n:=by
 obtain⟨b,_,rfl⟩:=List.mem_map.1 h
 have:=jh n (bitp b)
 rw[cs_len];omega
theorem w1v (n:Nat) (le:Nat→Nat→Bool):(mkR n fun x=>((cpl n le x:Nat):Int))=cs (mkR n fun x=>cpl n le x):=by
 unfold cs mkR;rw[List.map_map];rfl
theorem xf3 {n:Nat}{le:Nat→Nat→Bool}(h:BoolP n le) (h1:V37 (pos n le)=some (true,())) (h2:V64 (pos n le)=some ((some (lat n le),true,()),())):∃v:List (List Int),V107 big (pos n le)=some ((v,true,()),())∧V101 big (pos n le)=some ((v,true,()),())∧v.length≤1024∧(∀x∈v,x.length≤10)∧v.length=(suL n le (2 ^ n)).length:=by
 unfold V107 wm3 V101 wm1
 have h10:=h.lp.le10
 have hp:2 ^ n≤1024:=by
  have:=Nat.pow_le_pow_right (n:=2) (by omega) h10
  omega
 rw[h1,h2]
 simp only[obS,Bool.not_true,cond_false,wyj h,wy3 h]
 refine⟨sortBy cmpT (suL n le (2 ^ n)), ?_, ?_, ?_, ?_,by rw[whg jw]⟩
 ·show wln big (pos n le) [] (mkR n fun x=>((cpl n le x:Nat):Int)) (0:Int)=_
  refine xhr (2 ^ n) (fun c out=>out=sortBy cmpT (suL n le c)) (by omega) ?_ ?_ 0 (Nat.zero_le _) _ rfl
  ·rintro rc c out hc rfl ih
   have hfl:=wmm n le c
   have hbl:=jh n (bitp c)
   unfold wc3
   rw[wb,shl1 (by omega),obS,cdt (by unfold pw;omega),xed (by omega) hc,obS,w5v h (fun s hs=>(fl_mem.1 hs).1) (by omega),obS,wr1 (by omega)]
   by_cases hg:SubA n le (fl n (bitp c))
   ·rw[tv_t hg,cond_true,xfz _ _ (by rw[cs_len];omega) (by rw[whg jw];omega) (ue jw _),obS]
    exact ih _ (by rw[whh,if_pos (tv_t hg),wzj])
   ·rw[tv_f hg,cond_false]
    exact ih _ (by rw[whh,if_neg (by rw[tv_f hg];simp)])
  ·rintro rc out rfl
   unfold wc3
   rw[wb,shl1 (by omega),obS,cdf (by unfold pw;omega),wab]
 ·show wld big (some (lat n le)) (mkR n fun x=>((cpl n le x:Nat):Int)) [] (0:Int)=_
  refine xhk (2 ^ n) (fun c out=>out=suL n le c) (by omega) ?_ ?_ 0 (Nat.zero_le _) _ rfl
  ·rintro rc c out hc rfl ih
   have hfl:=wmm n le c
   have hbl:=jh n (bitp c)
   have hS:∀s∈fl n (bitp c),s<n:=fun s hs=>(fl_mem.1 hs).1
   have hcl:(cs (fl n (bitp c))).length≤4294967296:=by rw[cs_len];omega
   have hno:¬SubA n le (fl n (bitp c))→rc (some (lat n le)) (mkR n fun x=>((cpl n le x:Nat):Int)) (suL n le c) ((c+1:Nat):Int)=some ((sortBy cmpT (suL n le (2 ^ n)),true,()),()):=fun q=>ih _ (by rw[whh,if_neg (by rw[tv_f q];simp)])
   have hsa:=xf2 (P:=bitp c) h.lp
   unfold wcr
   rw[obS,lat1,mkR_len,shl1 (by omega),obS,cdt (by unfold pw;omega),xd4 (by omega) hc,obS,w5m h.lp,obS,wr1 (by omega)]
   by_cases c1:fl n (bitp c)≠[]∧ClP n le (bitp c)
   case neg=>rw[tv_f c1,cond_false];exact hno fun q=>c1 (hsa.1 q).1
   rw[tv_t c1,cond_true,xy h.lp,obS,ws6 _ _ hcl,obS]
   by_cases c2:bt n le∈fl n (bitp c)
   case neg =>
    rw[show decide (((bt n le:Nat):Int) ∉ cs (fl n (bitp c)))=true from decide_eq_true fun q=>c2 (cs_mem.1 q),Bool.not_true,cond_false]
    exact hno fun q=>c2 (hsa.1 q).2.1
   rw[show decide (((bt n le:Nat):Int) ∉ cs (fl n (bitp c)))=false from decide_eq_false fun q=>q (cs_mem.2 c2),Bool.not_false,cond_true,w1v,
    w5i (fun s hs=>by rw[mkR_len];exact hS s hs) (by omega),obS,w5p _ _ (by rw[cs_len,List.length_map];omega) hcl,obS,←w1v]
   have hpt:(∀x∈cs ((fl n (bitp c)).map fun s=>(mkR n fun x=>cpl n le x).getD s 0),x∈cs (fl n (bitp c)))↔∀s∈fl n (bitp c),cpl n le s∈fl n (bitp c):=by
    have hg:∀s,s<n→(mkR n fun x=>cpl n le x).getD s 0=cpl n le s:=fun s hs=>by rw[List.getD_eq_getElem?_getD,ju hs];rfl
    constructor
    ·intro q s hs
     have:=q _ (cs_mem.2 (List.mem_map.2 ⟨s,hs,rfl⟩))
     rw[hg s (hS s hs)]at this
     exact cs_mem.1 this
    ·intro q x hx
     obtain⟨y,hy,rfl⟩:=List.mem_map.1 hx
     obtain⟨s,hs,rfl⟩:=List.mem_map.1 hy
     show(((mkR n fun x=>cpl n le x).getD s 0:Nat):Int)∈_
     rw[hg s (hS s hs)]
     exact cs_mem.2 (q s hs)
   rw[qt hpt]
   by_cases c3:∀s∈fl n (bitp c),cpl n le s∈fl n (bitp c)
   ·rw[tv_t c3,cond_true,app1 (by omega),obS]
    exact ih _ (by rw[whh,if_pos (tv_t (hsa.2 ⟨c1,c2,c3⟩))])
   ·rw[tv_f c3,cond_false];exact hno fun q=>c3 (hsa.1 q).2.2
  ·rintro rc out rfl
   have hfl:=wmm n le (2 ^ n)
   unfold wcr
   rw[obS,lat1,mkR_len,shl1 (by omega),obS,cdf (by unfold pw;omega),zy]
   unfold qg
   rw[wzk _ _ (by omega)];rfl
 ·show(sortBy cmpT _).length≤1024
  rw[whg jw]
  have:=wmm n le (2 ^ n)
  omega
 ·intro x hx
  have:=xk3 ((w5u jw).1 hx)
  omega
theorem xfx:∀(N:Nat) (L:List Nat),L.Nodup→(∀x∈L,x<N)→L.length≤N:=fun N L h1 h2=>by
 have:=h1.length_le_of_subset (l₂:=List.range N) fun x hx=>List.mem_range.2 (h2 x hx)
 rwa [List.length_range]at this
theorem wk9 {α β:Type}{f:α→β}:∀{l:List α},(∀a∈l,∀b∈l,f a=f b→a=b)→l.Nodup→(l.map f).Nodup
 | [],_,_=>List.nodup_nil
 | a::l,hf,h=>by
  obtain⟨h1,h2⟩:=List.nodup_cons.1 h
  rw[List.map_cons,List.nodup_cons]
  refine⟨fun q => ?_,wk9 (fun x hx y hy=>hf x (List.mem_cons_of_mem _ hx) y (List.mem_cons_of_mem _ hy)) h2⟩
  obtain⟨b,hb,e⟩:=List.mem_map.1 q
  exact h1 (hf b (List.mem_cons_of_mem _ hb) a (by simp) e▸hb)
structure GLat {α:Type}(le:α→α→Prop) (m j:α→α→α):Prop where
 rf:∀a,le a a
 tr:∀{a b c},le a b→le b c→le a c
 asy:∀{a b},le a b→le b a→a=b
 m1:∀a b,le (m a b) a
 m2:∀a b,le (m a b) b
 mg:∀{a b c},le c a→le c b→le c (m a b)
 j1:∀a b,le a (j a b)
 j2:∀a b,le b (j a b)
 jg:∀{a b c},le a c→le b c→le (j a b) c
def GMod {α:Type}(le:α→α→Prop) (m j:α→α→α):Prop:=∀x y z,le x z→j x (m y z)=m (j x y) z
theorem GLat.op {α:Type}{le:α→α→Prop}{m j:α→α→α}(H:GLat le m j):GLat (fun a b=>le b a) j m:=⟨H.rf,fun a b=>H.tr b a,fun a b=>H.asy b a,H.j1,H.j2,H.jg,H.m1,H.m2,H.mg⟩
theorem GLat.mc {α:Type}{le:α→α→Prop}{m j:α→α→α}(H:GLat le m j) (a b:α):m a b=m b a:=H.asy (H.mg (H.m2 a b) (H.m1 a b)) (H.mg (H.m2 b a) (H.m1 b a))
theorem GLat.jc {α:Type}{le:α→α→Prop}{m j:α→α→α}(H:GLat le m j) (a b:α):j a b=j b a:=H.op.mc a b
theorem GMod.op {α:Type}{le:α→α→Prop}{m j:α→α→α}(H:GLat le m j) (M:GMod le m j):GMod (fun a b=>le b a) j m:=fun x y z h=>by
 have:=M z y x h
 rw[H.mc x (j y z),H.jc y z,←this,H.jc,H.mc y x]
def Bst (Q:List Int→Prop) (b:List Int):Prop:=b=[]∧(∀l,¬Q l)∨Q b∧∀l,Q l→lx l b=false
theorem Bst.congr {Q R:List Int→Prop}{b:List Int}(h:Bst Q b) (e:∀l,Q l↔R l):Bst R b:=by
 have:Q=R:=funext fun l=>propext (e l)
 rw[←this];exact h
def SetL (n:Nat) (l:List Int):Prop:=∃P,l=cs (fl n P)
theorem SetL.len {n:Nat}{l:List Int}(h:SetL n l):l.length≤n:=by obtain⟨P,rfl⟩:=h;rw[cs_len];exact jh n P
theorem wzl (R:List (List Int)) (hl:R.length≤1000000000) (hr:∀x∈R,x.length≤10):V108 big R R=some (true,()):=by
 unfold V108 wul
 rw[cdf (by omega)]
 refine xhs R.length (fun i=>True) (by omega) (fun rc i hi hI hr2 => ?_) (fun rc hI => ?_) 0 (by omega) trivial
 ·have:=hr _ (List.getElem_mem hi)
  unfold wc5
  rw[cdt (by omega),jf R i hi,obS,obS,ya _ (by omega),obS,wr1 (by omega)]
  exact hr2 trivial
 ·unfold wc5 wac
  rw[cdf (by omega)]
theorem xkq {n:Nat}{le:Nat→Nat→Bool}(h:BoolP n le):n≤8:=by
 obtain⟨m,hm⟩:=xks h.lp
 have e:fl n (cenB n le)=List.range n:=by
  unfold fl
  refine List.filter_eq_self.2 fun x hx => ?_
  have hx:=List.mem_range.1 hx
  obtain⟨c1,c2,c3⟩:=w6 h.cmp hx
  have hc:cpl n le x∈comp n le x:=cmp_mem.2 ⟨c1,c2,c3⟩
  exact cenB_iff.2 ⟨_,hc,xfo h.lp h.dis hx hc⟩
 rw[e,List.length_range]at hm
 have h10:=h.lp.le10
 have:m<4:=by
  rcases Nat.lt_or_ge m 4 with c|c
  ·exact c
  ·have:=Nat.pow_le_pow_right (n:=2) (by omega) c
   omega
 have:m=0∨m=1∨m=2∨m=3:=by omega
 rcases this with rfl|rfl|rfl|rfl<;>simp at hm<;>omega
def okPow (k:Nat):Bool:=match V21 big (k:Int) with
 | some (p,())=>decide (p.1.length≤9)&&p.1.all (fun r=>decide (r.length≤9))&&(match V18 big p with
  | some (ps,())=>decide (ps.length≤100)&&ps.all fun q=>decide (0≤q.1)&&decide (q.1<(p.1.length:Int))&&decide (0≤q.2.1)&&decide (q.2.1<(p.1.length:Int))
  | none=>false)
 | none=>false
theorem xel:(List.range 4).all okPow=true:=by kernel_rfl
theorem xk0 {k:Int}(h0:0≤k) (h1:k<4):∃p ps,V21 big k=some (p,())∧DrP 9 p∧V18 big p=some (ps,())∧ps.length≤100∧∀q∈ps,(0≤q.1∧q.1<p.1.length)∧0≤q.2.1∧q.2.1<p.1.length:=by
 have h:=List.all_eq_true.1 xel k.toNat (List.mem_range.2 (by omega))
 unfold okPow at h
 rw[show((k.toNat:Nat):Int)=k by omega]at h
 split at h
 case h_2=>cases h
 rename_i p e
 simp only[Bool.and_eq_true,decide_eq_true_eq,List.all_eq_true]at h
 obtain⟨⟨h1,h2⟩,h3⟩:=h
 split at h3
 case h_2=>cases h3
 rename_i ps e2
 simp only[Bool.and_eq_true,decide_eq_true_eq,List.all_eq_true]at h3
 exact⟨p,ps,e,⟨h1,h2⟩,e2,h3.1,fun q hq=>by
  obtain⟨⟨⟨a,b⟩,c⟩,d⟩:=h3.2 q hq
  exact⟨⟨a,b⟩,c,d⟩⟩
theorem whi {k:Nat}{c:Cu}(hc:COk (k+410) c):Dq 12 k (V22 big c):=by
 unfold V22 w2q
 obtain⟨b,c1,e1,hc1⟩:=xf (k:=k+408) hc 6
 rw[e1,obS]
 cases b with
 | true =>
  rw[cond_true]
  obtain⟨p,c2,e2,hp,hc2⟩:=wzf (k:=k+8) hc1
  rw[e2,obS]
  exact⟨_,_,rfl,hp,hc2.mono (by omega)⟩
 | false =>
  rw[cond_false]
  obtain⟨v,c2,e2,v0,hc2⟩:=zq (k:=k+406) hc1 (l:=[(2:Int),2,3,3,1,0]) (by simp)
  have hv:0≤v∧v<4:=by
   simp only[List.mem_cons,List.not_mem_nil,or_false]at v0
   omega
  obtain⟨p,ps,e3,hp,e4,hl,hps⟩:=xk0 hv.1 hv.2
  have hp':DrP 12 p:=⟨by have:=hp.1;omega,fun r hr=>by have:=hp.2 r hr;omega⟩
  have hn:=hp.1
  obtain⟨names,c3,e5,hl1,hc3⟩:=whf (k:=k+300) (n:=p.1.length) (by omega) (hc2.mono (by omega))
  obtain⟨b,e6,hb⟩:=wm0 (n:=p.1.length) (by omega) (l:=names) (by omega)
  rw[e2,obS]
  dsimp only
  rw[e3,obS]
  dsimp only
  rw[e5,obS]
  dsimp only
  rw[e6,obS]
  cases b with
  | false=>exact⟨_,_,rfl,hp',hc3.mono (by omega)⟩
  | true =>
   obtain⟨hb1,hb2⟩:=hb rfl
   rw[cond_true,e4,obS]
   refine xlh (Q:=Dq 12 k) ps.length (fun _ qs=>qs.length=ps.length∧∀q∈qs,(0≤q.1∧q.1<p.1.length)∧0≤q.2.1∧q.2.1<p.1.length) (by omega) (fun rc2 i qs hi hI hr => ?_) (fun rc2 qs hI => ?_) 0 (by omega) _ ⟨rfl,hps⟩
   ·obtain⟨i1,i2⟩:=hI
    have hil:i<qs.length:=by omega
    obtain⟨⟨a0,a1⟩,b0,b1⟩:=i2 _ (List.getElem_mem hil)
    obtain⟨x,x1,x2,x3,x4⟩:=wg3 hb1 hb2 a0 a1
    obtain⟨y,y1,y2,y3,y4⟩:=wg3 hb1 hb2 b0 b1
    unfold whz
    simp only[Int.toNat_natCast,cdt (show(i:Int)<qs.length by omega),jf qs i hil,List.getElem?_eq_getElem hil,x1,x2,y1,y2,obS]
    rw[wr (by omega) (by omega)]
    refine hr _ ⟨by simpa using i1,fun q hq => ?_⟩
    rcases List.mem_or_eq_of_mem_set hq with hq|rfl
    ·exact i2 q hq
    ·exact⟨⟨x3,x4⟩,y3,y4⟩
   ·obtain⟨i1,i2⟩:=hI
    unfold whz wdl
    obtain⟨p',e8,p1,p2⟩:=wmx (n:=p.1.length) (by omega) (by omega) i2
    rw[cdf (by omega),e8,obS]
    exact⟨_,_,rfl,⟨by show p'.1.length≤12;omega,fun r hr=>by have:=p2 r hr;omega⟩,hc3.mono (by omega)⟩
theorem wym {code:List Int}(hc:Codes code):∃p c,V22 big (code,((0:Int),((0:Int),())))=some (p,(c,()))∧DrP 12 p∧COk 9500 c:=whi (k:=9500) (hc.start.mono (by omega))
theorem wzb {n:Nat}{le:Nat→Nat→Bool}(h:LatP n le) (h2:V51 (pos n le)=some ((some (lat n le),true,()),())):V110 (pos n le)=some ((cs (atm n le),true,()),()):=by
 unfold V110 w52 V109 w5x
 rw[h2,obS]
 dsimp only
 rw[Bool.not_true,cond_false,wv h]
 rfl
def Wd.du:Wd→Wd
 | .v n => .v n
 | .op g a b => .op (-3-g) a.du b.du
def jn:List Wd→Wd
 | [] => .v 0
 | [x]=>x
 | x::y::l => .op (-2) x (jn (y::l))
def mb (g:Int):Wd→List Wd
 | .v n=>[.v n]
 | .op h a b=>if h=g then mb g a++mb g b else [.op h a b]
def Anti (m:List Wd):Prop:=m.Pairwise fun x y=>wle x y=false∧wle y x=false
structure JC (m:List Wd):Prop where
 two:2≤m.length
 ok:∀x∈m,x.ok
 nj:∀x∈m,x.hd ≠ -2
 anti:Anti m
 low:∀x∈m,x.hd = -1→∀t∈mb (-1) x,wle t (jn m)=false
 srt:SortedL cmpT (m.map Wd.fl)
theorem JC.ne {m:List Wd}(h:JC m):m≠[]:=fun e=>by have:=h.two;rw[e]at this;simp at this
def rows (m:List Wd):List (List Int):=m.map Wd.fl
theorem yl {m:Nat}{le':Nat→Nat→Bool}(h:LatP m le'){a:Nat}(ha:a<m) (hc:cov m le' (bt m le') a=true):le' a (bt m le')=false:=by
 cases e:le' a (bt m le') with
 | false=>rfl
 | true =>
  have:=h.as ha (wl h) e (xi h ha)
  have hls:=wrj hc
  unfold ls at hls
  simp[this]at hls
theorem wci {m:Nat}{le':Nat→Nat→Bool}(h:BoolP m le'){a y z:Nat}(ha:a<m) (hy:y<m) (hz:z<m) (hc:cov m le' (bt m le') a=true):le' a (mt m (du le') y z)=true↔le' a y=true∨le' a z=true :=
 ⟨wrf h ha hy hz hc,fun q=>q.elim (fun e=>h.lp.tr ha hy (jlt h.lp hy hz) e (j1 h.lp hy hz)) (fun e=>h.lp.tr ha hz (jlt h.lp hy hz) e (j2 h.lp hy hz))⟩
theorem ym {m:Nat}{le':Nat→Nat→Bool}(h:LatP m le'){a y z:Nat}(ha:a<m) (hy:y<m) (hz:z<m):le' a (mt m le' y z)=true↔le' a y=true∧le' a z=true :=
 ⟨fun q=>⟨h.tr ha (h.mlt hy hz) hy q (h.m1 hy hz),h.tr ha (h.mlt hy hz) hz q (h.m2 hy hz)⟩,fun q=>h.mg hy hz ha q.1 q.2⟩
theorem wms {m:Nat}{le':Nat→Nat→Bool}(h:BoolP m le'){a x:Nat}(ha:a<m) (hx:x<m) (hc:cov m le' (bt m le') a=true):le' a (cpl m le' x) = !le' a x:=by
 obtain⟨q1,q2,q3⟩:=w6 h.cmp hx
 have n0:=yl h.lp ha hc
 have t0:=yq h.lp ha
 rw[←q3,wci h ha q1 hx hc]at t0
 cases e1:le' a x with
 | true =>
  cases e2:le' a (cpl m le' x) with
  | false=>rfl
  | true =>
   have:=h.lp.mg q1 hx ha e2 e1
   rw[q2,n0]at this
   cases this
 | false =>
  rw[e1]at t0
  simpa using t0
theorem wyu {m:Nat}{le':Nat→Nat→Bool}(h:BoolP m le'){a:Nat}(ha:a<m) (hc:cov m le' (bt m le') a=true):∀(S:List Nat) (j:Nat),j<m→(∀s∈S,s<m)→(le' a (S.foldl (fun j x=>mt m (du le') j x) j)=true↔le' a j=true∨∃s∈S,le' a s=true)
 | [],j,hj,_=>by simp
 | s::S,j,hj,hS=>by
  have hs:=hS s List.mem_cons_self
  rw[List.foldl_cons,wyu h ha hc S _ (jlt h.lp hj hs) fun t ht=>hS t (List.mem_cons_of_mem _ ht),wci h ha hj hs hc]
  constructor
  ·rintro ((e|e)|⟨t,ht,e⟩)
   ·exact .inl e
   ·exact .inr ⟨s,List.mem_cons_self,e⟩
   ·exact .inr ⟨t,List.mem_cons_of_mem _ ht,e⟩
  ·rintro (e|⟨t,ht,e⟩)
   ·exact .inl (.inl e)
   ·rcases List.mem_cons.1 ht with rfl|ht
    ·exact .inl (.inr e)
    ·exact .inr ⟨t,ht,e⟩
theorem xef {m:Nat}{le':Nat→Nat→Bool}(h:BoolP m le'){a:Nat}(ha:a<m) (hc:cov m le' (bt m le') a=true){S:List Nat}(hS:∀s∈S,s<m):le' a (jnf m le' S)=true↔∃s∈S,le' a s=true:=by
 unfold jnf
 rw[wyu h ha hc S _ (wl h.lp) hS,yl h.lp ha hc]
 simp
theorem w1s {m:Nat}{le':Nat→Nat→Bool}{a b:Nat}(ha:a<m) (hca:cov m le' (bt m le') a=true) (hcb:cov m le' (bt m le') b=true) (hl:le' a b=true):a=b:=by
 by_cases e:a=b
 ·exact e
 ·have c1:=wrj hca
  have c2:ls le' a b=true:=by unfold ls;simp[e,hl]
  rw[wt5 ha c1 c2]at hcb
  cases hcb
theorem wn {m:Nat}{le':Nat→Nat→Bool}{j:Nat}(hj:j<(atm m le').length):(atm m le').getD j 0<m∧cov m le' (bt m le') ((atm m le').getD j 0)=true:=fl_mem.1 (we hj)
theorem xko {m:Nat}{le':Nat→Nat→Bool}{i j:Nat}(hi:i<(atm m le').length) (hj:j<(atm m le').length) (e:(atm m le').getD i 0=(atm m le').getD j 0):i=j:=by
 rw[wg hi,wg hj]at e
 exact(List.getElem_inj (xft m _)).1 e
theorem wre {m:Nat}{le':Nat→Nat→Bool}(h:LatP m le'){i j:Nat}(hi:i<(atm m le').length) (hj:j<(atm m le').length):le' ((atm m le').getD i 0) ((atm m le').getD j 0)=decide (i=j):=by
 obtain⟨a1,a2⟩:=wn hi
 obtain⟨b1,b2⟩:=wn hj
 by_cases e:i=j
 ·subst e
  rw[decide_eq_true rfl,h.ord.refl _ a1]
 ·rw[decide_eq_false e]
  cases q:le' ((atm m le').getD i 0) ((atm m le').getD j 0) with
  | false=>rfl
  | true=>exact absurd (xko hi hj (w1s a1 a2 b2 q)) e
theorem sel_mem {le:Nat→Nat→Bool}{A G B:List Nat}{x b:Nat}:∀{k},b∈sel le A G B x k↔∃i,i<k∧b=B.getD i 0∧le (A.getD (G.getD i 0) 0) x=true
 | 0=>by simp[sel]
 | k+1=>by
  have ih:b∈sel le A G B x k↔_:=sel_mem
  unfold sel
  constructor
  ·intro q
   split at q
   ·rename_i c
    rcases List.mem_append.1 q with q|q
    ·obtain⟨i,hi,r⟩:=ih.1 q
     exact⟨i,by omega,r⟩
    ·rw[List.mem_singleton]at q
     exact⟨k,by omega,q,c⟩
   ·obtain⟨i,hi,r⟩:=ih.1 q
    exact⟨i,by omega,r⟩
  ·rintro⟨i,hi,e,c⟩
   by_cases q:i=k
   ·subst q
    rw[if_pos c,e]
    exact List.mem_append.2 (.inr List.mem_cons_self)
   ·have:=ih.2 ⟨i,by omega,e,c⟩
    split
    ·exact List.mem_append.2 (.inl this)
    ·exact this
theorem wk6 {n m:Nat}{le le':Nat→Nat→Bool}(h':BoolP m le'){A G:List Nat}{x:Nat}:bmv m le le' A G (atm m le') x<m:=wrm h'.lp (wg4 w9 _ (Nat.le_refl _))
theorem xc {m:Nat}{le le':Nat→Nat→Bool}(h':BoolP m le'){A G:List Nat}{j x:Nat}(hj:j<(atm m le').length):le' ((atm m le').getD j 0) (bmv m le le' A G (atm m le') x)=le (A.getD (G.getD j 0) 0) x:=by
 obtain⟨b1,b2⟩:=wn hj
 rw[Bool.eq_iff_iff]
 unfold bmv
 rw[xef h' b1 b2 (wg4 w9 _ (Nat.le_refl _))]
 constructor
 ·rintro⟨s,hs,e⟩
  obtain⟨i,hi,rfl,c⟩:=sel_mem.1 hs
  rw[wre h'.lp hj hi,decide_eq_true_eq]at e
  rw[e];exact c
 ·intro c
  exact⟨_,sel_mem.2 ⟨j,hj,rfl,c⟩,by rw[wre h'.lp hj hj,decide_eq_true rfl]⟩
theorem w5g {n:Nat}{le:Nat→Nat→Bool}(h:LatP n le):∀d x,x<n→(fl n fun z=>ls le z x).length<d→x≠bt n le→∃k,k<(atm n le).length∧le ((atm n le).getD k 0) x=true:=by
 intro d
 induction d with
 | zero=>intro x _ hd;omega
 | succ d ih =>
  intro x hx hd h0
  by_cases ec:cov n le (bt n le) x=true
  ·obtain⟨k,hk,e⟩:=List.getElem_of_mem (show x∈atm n le from fl_mem.2 ⟨hx,ec⟩)
   exact⟨k,hk,by rw[wg hk,e];exact h.ord.refl x hx⟩
  ·have h1:ls le (bt n le) x=true:=by unfold ls;simp[Ne.symm h0,xi h hx]
   by_cases q:∃z,z<n∧ls le (bt n le) z=true∧ls le z x=true
   ·obtain⟨y,hy,y1,y2⟩:=q
    have hlt:=w5j (fun z hz hzy=>xhh h hz hy hx hzy y2) hy y2 (xei (le:=le))
    obtain⟨k,hk,e⟩:=ih y hy (by omega) (by intro e;unfold ls at y1;simp[e]at y1)
    exact⟨k,hk,h.tr (w9 _ (we hk)) hy hx e (by unfold ls at y2;simp at y2;exact y2.2)⟩
   ·exact absurd (wt6 h1 fun z hz hzz=>q ⟨z,hz,hzz⟩) ec
theorem wyi {n:Nat}{le:Nat→Nat→Bool}(h:BoolP n le){x y:Nat}(hx:x<n) (hy:y<n) (hh:∀j,j<(atm n le).length→le ((atm n le).getD j 0) x=true→le ((atm n le).getD j 0) y=true):le x y=true:=by
 obtain⟨q1,q2,q3⟩:=w6 h.cmp hy
 have hb:mt n le x (cpl n le y)=bt n le:=by
  by_cases e:mt n le x (cpl n le y)=bt n le
  ·exact e
  ·obtain⟨k,hk,e2⟩:=w5g h.lp _ _ (h.lp.mlt hx q1) (Nat.lt_succ_self _) e
   obtain⟨a1,a2⟩:=wn hk
   obtain⟨e3,e4⟩:=(ym h.lp a1 hx q1).1 e2
   rw[wms h a1 hy a2,hh k hk e3]at e4
   cases e4
 refine w5h h hx hy hy (fun t _ _ h2=>h2) fun t ht h1 h2 => ?_
 have:=h.lp.mg hx q1 ht h1 h2
 rw[hb]at this
 exact h.lp.tr ht (wl h.lp) hy this (xi h.lp hy)
theorem xg {n:Nat}{le:Nat→Nat→Bool}(h:BoolP n le){x y:Nat}(hx:x<n) (hy:y<n) (hh:∀j,j<(atm n le).length→le ((atm n le).getD j 0) x=le ((atm n le).getD j 0) y):x=y :=
 h.lp.as hx hy (wyi h hx hy fun j hj e=>by rw[←hh j hj];exact e) (wyi h hy hx fun j hj e=>by rw[hh j hj];exact e)
theorem whd {n:Nat}{f:Nat→Nat}{x:Nat}(hx:x<n):(mkR n f).getD x 0=f x:=by rw[List.getD_eq_getElem?_getD,ju hx];rfl
theorem xd5 {n m:Nat}{le le':Nat→Nat→Bool}(h:BoolP n le) (h':BoolP m le'){G:List Nat}(hG:∀g∈G,g<(atm n le).length) (hgl:G.length=(atm m le').length):LMp n m le le' (mkR n fun x=>bmv m le le' (atm n le) G (atm m le') x):=by
 have hat:∀j,j<(atm m le').length→(atm n le).getD (G.getD j 0) 0<n∧cov n le (bt n le) ((atm n le).getD (G.getD j 0) 0)=true:=fun j hj=>wn (hG _ (we (by omega)))
 have hF:∀x,x<n→(mkR n fun x=>bmv m le le' (atm n le) G (atm m le') x).getD x 0=bmv m le le' (atm n le) G (atm m le') x:=fun x hx=>whd hx
 have hlt:∀x,bmv m le le' (atm n le) G (atm m le') x<m:=fun x=>wk6 (n:=n) h'
 refine⟨?_, ?_,fun x y hx hy=>⟨?_, ?_⟩⟩
 ·rw[hF _ (wl h.lp)]
  refine xg h' (hlt _) (wl h'.lp) fun j hj => ?_
  rw[xc h' hj,yl h.lp (hat j hj).1 (hat j hj).2,yl h'.lp (wn hj).1 (wn hj).2]
 ·rw[hF _ (w7 h.lp)]
  refine xg h' (hlt _) (w7 h'.lp) fun j hj => ?_
  rw[xc h' hj,yq h.lp (hat j hj).1,yq h'.lp (wn hj).1]
 ·have l1:=h.lp.mlt hx hy
  rw[hF _ l1,hF _ hx,hF _ hy]
  refine xg h' (hlt _) (h'.lp.mlt (hlt _) (hlt _)) fun j hj => ?_
  rw[xc h' hj,Bool.eq_iff_iff,ym h.lp (hat j hj).1 hx hy,ym h'.lp (wn hj).1 (hlt _) (hlt _),xc h' hj,xc h' hj]
 ·have l1:=jlt h.lp hx hy
  rw[hF _ l1,hF _ hx,hF _ hy]
  refine xg h' (hlt _) (jlt h'.lp (hlt _) (hlt _)) fun j hj => ?_
  rw[xc h' hj,Bool.eq_iff_iff,wci h (hat j hj).1 hx hy (hat j hj).2,wci h' (wn hj).1 (hlt _) (hlt _) (wn hj).2,xc h' hj,xc h' hj]
theorem xkn {n m:Nat}{le le':Nat→Nat→Bool}(h:BoolP n le) (h':BoolP m le'){G:List Nat}(hG:∀g∈G,g<(atm n le).length) (hgl:G.length=(atm m le').length){j:Nat}(hj:j<(atm m le').length):amv n m le le' (mkR n fun x=>bmv m le le' (atm n le) G (atm m le') x) ((atm m le').getD j 0)=G.getD j 0:=by
 have hg:=hG _ (we (show j<G.length by omega))
 have e:∀k,k<(atm n le).length→le' ((atm m le').getD j 0) ((mkR n fun x=>bmv m le le' (atm n le) G (atm m le') x).getD ((atm n le).getD k 0) 0)=decide (G.getD j 0=k):=fun k hk=>by
  rw[whd (wn hk).1,xc h' hj,wre h.lp hg hk]
 unfold amv
 obtain⟨f1,f2,f3,f4⟩:=whc (P:=fun k=>le' ((atm m le').getD j 0) ((mkR n fun x=>bmv m le le' (atm n le) G (atm m le') x).getD ((atm n le).getD k 0) 0)) hg (by rw[e _ hg,decide_eq_true rfl])
 rw[e _ f1,decide_eq_true_eq]at f2
 exact f2.symm
theorem xfm {n m:Nat}{le le':Nat→Nat→Bool}(h:BoolP n le) (h':BoolP m le'){G:List Nat}(hG:∀g∈G,g<(atm n le).length) (hgl:G.length=(atm m le').length):((atm m le').map fun a=>((amv n m le le' (mkR n fun x=>bmv m le le' (atm n le) G (atm m le') x) a:Nat):Int))=cs G:=by
 refine List.ext_getElem (by rw[List.length_map,cs_len,hgl]) fun j h1 h2 => ?_
 rw[List.length_map]at h1
 rw[cs_len]at h2
 rw[List.getElem_map,←wg h1,xkn h h' hG hgl h1,(List.getElem_eq_iff _).2 (wy h2)]
theorem xkp {n m:Nat}{le le':Nat→Nat→Bool}(h:BoolP n le) (h':BoolP m le'){F:List Nat}(hl:F.length=n) (hF:∀x∈F,x<m) (hm:LMp n m le le' F):(∀g∈(atm m le').map (amv n m le le' F),g<(atm n le).length)∧∀x,x<n→bmv m le le' (atm n le) ((atm m le').map (amv n m le le' F)) (atm m le') x=F.getD x 0:=by
 have hFl:∀x,x<n→F.getD x 0<m:=fun x hx=>hF _ (we (by omega))
 have hit:∀a,a<m→cov m le' (bt m le') a=true→amv n m le le' F a<(atm n le).length∧le' a (F.getD ((atm n le).getD (amv n m le le' F a) 0) 0)=true:=fun a ha hc=>by
  obtain⟨k0,hk0,hp0⟩:=wmt h h' hl hF hm ha hc
  obtain⟨f1,f2,f3,f4⟩:=whc (P:=fun k=>le' a (F.getD ((atm n le).getD k 0) 0)) hk0 hp0
  exact⟨f1,f2⟩
 constructor
 ·intro g hg
  obtain⟨a,ha,rfl⟩:=List.mem_map.1 hg
  exact(hit a (fl_mem.1 ha).1 (fl_mem.1 ha).2).1
 ·intro x hx
  refine xg h' (wk6 (n:=n) h') (hFl x hx) fun j hj => ?_
  obtain⟨b1,b2⟩:=wn hj
  obtain⟨g1,g2⟩:=hit _ b1 b2
  have eg:((atm m le').map (amv n m le le' F)).getD j 0=amv n m le le' F ((atm m le').getD j 0):=by
   rw[List.getD_eq_getElem?_getD,List.getElem?_map,List.getElem?_eq_getElem hj,wg hj];rfl
  rw[xc h' hj,eg]
  obtain⟨a1,a2⟩:=wn g1
  generalize hA:(atm n le).getD (amv n m le le' F ((atm m le').getD j 0)) 0=A at *
  have hmm:=(hm.maps A x a1 hx).1
  cases q:le A x with
  | true =>
   have e:mt n le A x=A:=h.lp.as (h.lp.mlt a1 hx) a1 (h.lp.m1 a1 hx) (h.lp.mg a1 hx a1 (h.lp.ord.refl A a1) q)
   rw[e]at hmm
   rw[hmm,ym h'.lp b1 (hFl A a1) (hFl x hx)]at g2
   exact g2.2.symm
  | false =>
   have e:mt n le A x=bt n le:=by
    refine xg h (h.lp.mlt a1 hx) (wl h.lp) fun i hi => ?_
    obtain⟨i1,i2⟩:=wn hi
    rw[yl h.lp i1 i2]
    cases r:le ((atm n le).getD i 0) (mt n le A x) with
    | false=>rfl
    | true =>
     obtain⟨r1,r2⟩:=(ym h.lp i1 a1 hx).1 r
     rw[w1s i1 i2 a2 r1,q]at r2
     cases r2
   rw[e,hm.bot]at hmm
   cases r:le' ((atm m le').getD j 0) (F.getD x 0) with
   | false=>rfl
   | true =>
    have:=(ym h'.lp b1 (hFl A a1) (hFl x hx)).2 ⟨g2,r⟩
    rw[←hmm,yl h'.lp b1 b2]at this
    cases this
def codP (Q:Nat→Bool):Nat→Nat
 | 0=>0
 | k+1=>codP Q k+(if Q k=true then 2 ^ k else 0)
theorem wsq (Q:Nat→Bool):∀k,codP Q k<2 ^ k
 | 0=>by simp[codP]
 | k+1=>by
  have:=wsq Q k
  rw[codP,Nat.pow_succ]
  split<;>omega
theorem xfn {c i k:Nat}{b:Bool}(hi:i<k):bitp (c+(if b=true then 2 ^ k else 0)) i=bitp c i:=by
 cases b with
 | false=>rw[if_neg (by simp),Nat.add_zero]
 | true =>
  have e:2 ^ k=2 ^ i*(2*2 ^ (k-i-1)):=by
   rw[←Nat.pow_succ',←Nat.pow_add]
   congr 1
   omega
  unfold bitp
  rw[if_pos rfl,e,Nat.add_mul_div_left _ _ (Nat.pow_pos (by omega)),Nat.add_mul_mod_self_left]
theorem wg9 (Q:Nat→Bool):∀{k i},i<k→bitp (codP Q k) i=Q i
 | k+1,i,hi=>by
  rw[codP]
  by_cases e:i=k
  ·subst e
   have:=wsq Q i
   unfold bitp
   cases Q i with
   | false=>simp[Nat.div_eq_of_lt this]
   | true=>rw[if_pos rfl,Nat.add_div_right _ (Nat.pow_pos (by omega)),Nat.div_eq_of_lt this];rfl
  ·rw[xfn (by omega)]
   exact wg9 Q (by omega)
theorem wmv (c:Nat):∀k,codP (bitp c) k=c % 2 ^ k
 | 0=>by simp[codP,Nat.mod_one]
 | k+1=>by
  rw[codP,wmv c k,Nat.mod_pow_succ]
  unfold bitp
  have:c / 2 ^ k % 2=0∨c / 2 ^ k % 2=1:=by omega
  rcases this with e|e<;>simp[e]
theorem wri {Q R:Nat→Bool}:∀{k},(∀i,i<k→Q i=R i)→codP Q k=codP R k
 | 0,_=>rfl
 | k+1,h=>by rw[codP,codP,wri fun i hi=>h i (by omega),h k (by omega)]
theorem wyg {k c c':Nat}(h:c<2 ^ k) (h':c'<2 ^ k) (hh:∀i,i<k→bitp c i=bitp c' i):c=c':=by
 have:=wri hh
 rw[wmv,wmv,Nat.mod_eq_of_lt h,Nat.mod_eq_of_lt h']at this
 exact this
theorem wrh {n:Nat}{le:Nat→Nat→Bool}(h:BoolP n le):(atm n le).length≤3:=by
 have h8:=xkq h
 have hS:∀c,∀s∈(fl (atm n le).length (bitp c)).map fun i=>(atm n le).getD i 0,s<n:=by
  intro c s hs
  obtain⟨i,hi,rfl⟩:=List.mem_map.1 hs
  exact(wn (fl_mem.1 hi).1).1
 have key:∀c i,i<(atm n le).length→le ((atm n le).getD i 0) (jnf n le ((fl (atm n le).length (bitp c)).map fun i=>(atm n le).getD i 0))=bitp c i:=by
  intro c i hi
  obtain⟨b1,b2⟩:=wn hi
  rw[Bool.eq_iff_iff,xef h b1 b2 (hS c)]
  constructor
  ·rintro⟨s,hs,e⟩
   obtain⟨j,hj,rfl⟩:=List.mem_map.1 hs
   rw[wre h.lp hi (fl_mem.1 hj).1,decide_eq_true_eq]at e
   rw[e];exact(fl_mem.1 hj).2
  ·intro e
   exact⟨_,List.mem_map.2 ⟨i,fl_mem.2 ⟨hi,e⟩,rfl⟩,h.lp.ord.refl _ b1⟩
 have:=xfx n ((List.range (2 ^ (atm n le).length)).map fun c=>jnf n le ((fl (atm n le).length (bitp c)).map fun i=>(atm n le).getD i 0))
  (wk9 (fun a ha b hb e=>wyg (List.mem_range.1 ha) (List.mem_range.1 hb) fun i hi=>by rw[←key a i hi,←key b i hi,e]) List.nodup_range)
  (fun x hx=>by
   obtain⟨c,_,rfl⟩:=List.mem_map.1 hx
   exact wrm h.lp (hS c))
 rw[List.length_map,List.length_range]at this
 rcases Nat.lt_or_ge 3 (atm n le).length with c|c
 ·have:=Nat.pow_le_pow_right (n:=2) (by omega) c
  omega
 ·exact c
theorem xk4 {n m:Nat}{le le':Nat→Nat→Bool}{f:Nat→Nat}(h':BoolP m le') (hb:f (bt m le')=bt n le) (hc:∀y,y<m→f (cpl m le' y)=cpl n le (f y)) (hm:∀y z,y<m→z<m→f (mt m le' y z)=mt n le (f y) (f z)∧f (mt m (du le') y z)=mt n (du le) (f y) (f z)) (hf:∀y,y<m→f y<n){P:Nat→Bool}(hs:SubA n le (fl n P)):SubA m le' (fl m fun y=>P (f y)):=by
 obtain⟨s1,s2,s3⟩:=hs
 have inn:∀y,y∈fl m (fun y=>P (f y))→y<m∧f y∈fl n P:=fun y hy=>⟨(fl_mem.1 hy).1,fl_mem.2 ⟨hf y (fl_mem.1 hy).1,(fl_mem.1 hy).2⟩⟩
 have out:∀y,y<m→f y∈fl n P→y∈fl m fun y=>P (f y):=fun y hy q=>fl_mem.2 ⟨hy,(fl_mem.1 q).2⟩
 refine⟨out _ (wl h'.lp) (by rw[hb];exact s1),fun y hy => ?_,fun y hy z hz => ?_⟩
 ·obtain⟨y1,y2⟩:=inn y hy
  exact out _ (w6 h'.cmp y1).1 (by rw[hc y y1];exact s2 _ y2)
 ·obtain⟨y1,y2⟩:=inn y hy
  obtain⟨z1,z2⟩:=inn z hz
  obtain⟨e1,e2⟩:=hm y z y1 z1
  obtain⟨t1,t2⟩:=s3 _ y2 _ z2
  exact⟨out _ (h'.lp.mlt y1 z1) (by rw[e1];exact t1),out _ (jlt h'.lp y1 z1) (by rw[e2];exact t2)⟩
theorem xnk {n m:Nat}{le le':Nat→Nat→Bool}{f:Nat→Nat}(h':BoolP m le') (hb:f (bt m le')=bt n le) (hc:∀y,y<m→f (cpl m le' y)=cpl n le (f y)) (hm:∀y z,y<m→z<m→f (mt m le' y z)=mt n le (f y) (f z)∧f (mt m (du le') y z)=mt n (du le) (f y) (f z)) (hf:∀y,y<m→f y<n) (hs:∀x,x<n→∃y,y<m∧f y=x):(suL n le (2 ^ n)).length≤(suL m le' (2 ^ m)).length:=by
 unfold suL
 rw[List.length_map,List.length_map]
 have hn:(((List.range (2 ^ n)).filter fun b=>tv (SubA n le (fl n (bitp b)))).map fun c=>codP (fun y=>bitp c (f y)) m).Nodup:=wk9 (fun a ha b hb e=>by
  have ha:=List.mem_range.1 (List.mem_filter.1 ha).1
  have hb:=List.mem_range.1 (List.mem_filter.1 hb).1
  refine wyg ha hb fun x hx => ?_
  obtain⟨y,hy,rfl⟩:=hs x hx
  rw[←wg9 (fun y=>bitp a (f y)) hy,e,wg9 (fun y=>bitp b (f y)) hy]) (List.nodup_range.filter _)
 have:=hn.length_le_of_subset (l₂:=(List.range (2 ^ m)).filter fun b=>tv (SubA m le' (fl m (bitp b)))) fun x hx=>by
  obtain⟨c,hc2,rfl⟩:=List.mem_map.1 hx
  refine List.mem_filter.2 ⟨List.mem_range.2 (wsq _ m),tv_t ?_⟩
  rw[ur fun y hy=>wg9 (fun y=>bitp c (f y)) hy]
  exact xk4 h' hb hc hm hf (tv_iff.1 (List.mem_filter.1 hc2).2)
 rwa [List.length_map]at this
theorem w1x {n m:Nat}{le le':Nat→Nat→Bool}(h:BoolP n le) (h':BoolP m le') (hk:(atm n le).length=(atm m le').length):(suL n le (2 ^ n)).length≤(suL m le' (2 ^ m)).length:=by
 have rg:∀{j k:Nat},j<k→(List.range k).getD j 0=j:=fun {j k} hj=>by
  rw[wg (by rw[List.length_range];exact hj),List.getElem_range]
 have hG:∀g∈List.range (atm n le).length,g<(atm m le').length:=fun g hg=>by rw[←hk];exact List.mem_range.1 hg
 have LM:=xd5 h' h hG (List.length_range)
 obtain⟨f,hfe⟩:∃f:Nat→Nat,f=fun y=>bmv n le' le (atm m le') (List.range (atm n le).length) (atm n le) y:=⟨_,rfl⟩
 have hf:∀y,f y<n:=fun y=>by rw[hfe];exact wk6 (n:=m) h
 have fat:∀j,j<(atm n le).length→∀y,le ((atm n le).getD j 0) (f y)=le' ((atm m le').getD j 0) y:=fun j hj y=>by
  rw[hfe]
  show le _ (bmv n le' le (atm m le') (List.range (atm n le).length) (atm n le) y)=_
  rw[xc h hj,rg hj]
 have gat:∀j,j<(atm n le).length→∀x,le' ((atm m le').getD j 0) (bmv m le le' (atm n le) (List.range (atm m le').length) (atm m le') x)=le ((atm n le).getD j 0) x:=fun j hj x=>by
  rw[xc h' (by omega),rg (by omega)]
 have hD:∀y,y<m→(mkR m fun y=>bmv n le' le (atm m le') (List.range (atm n le).length) (atm n le) y).getD y 0=f y:=fun y hy=>by rw[whd hy,hfe]
 refine xnk (f:=f) h' ?_ (fun y hy => ?_) (fun y z hy hz=>⟨?_, ?_⟩) (fun y _=>hf y) fun x hx=>⟨bmv m le le' (atm n le) (List.range (atm m le').length) (atm m le') x,wk6 (n:=n) h', ?_⟩
 ·have:=LM.bot
  rwa [hD _ (wl h'.lp)]at this
 ·obtain⟨q1,_⟩:=w6 h'.cmp hy
  obtain⟨q2,_⟩:=w6 h.cmp (hf y)
  refine xg h (hf _) q2 fun j hj => ?_
  rw[fat j hj,wms h' (wn (by omega)).1 hy (wn (by omega)).2,wms h (wn hj).1 (hf y) (wn hj).2,fat j hj]
 ·have:=(LM.maps y z hy hz).1
  rwa [hD _ (h'.lp.mlt hy hz),hD _ hy,hD _ hz]at this
 ·have:=(LM.maps y z hy hz).2
  rwa [hD _ (jlt h'.lp hy hz),hD _ hy,hD _ hz]at this
 ·refine xg h (hf _) hx fun j hj => ?_
  rw[fat j hj,gat j hj]
def sle (x y:Nat):Bool:=Nat.beq (Nat.land x y) x
def subB (n c:Nat):Bool:=bitp c 0&&((List.range n).all fun s => !bitp c s||bitp c (n-1-s))&&(List.range n).all fun x => !bitp c x||(List.range n).all fun y => !bitp c y||(bitp c (Nat.land x y)&&bitp c (Nat.lor x y))
def stdOk (k:Nat):Bool :=
 ((List.range (2 ^ k)).all fun x=>sle x x&&Nat.beq (cpl (2 ^ k) sle x) (2 ^ k-1-x)&&Nat.ble 1 (comp (2 ^ k) sle x).length) &&
 ((List.range (2 ^ k)).all fun x=>(List.range (2 ^ k)).all fun y=>(Nat.beq x y || !sle x y || !sle y x)&&Nat.ble (Nat.land x y+1) (2 ^ k)&&Nat.ble (Nat.lor x y+1) (2 ^ k)&&decide (bnd (2 ^ k) sle [x,y]=Int.ofNat (Nat.land x y))&&decide (bnd (2 ^ k) (du sle) [x,y]=Int.ofNat (Nat.lor x y))) &&
 ((List.range (2 ^ k)).all fun x=>(List.range (2 ^ k)).all fun y=>(List.range (2 ^ k)).all fun z=>(!sle x y || !sle y z||sle x z)&&Nat.beq (Nat.land x (Nat.lor y z)) (Nat.lor (Nat.land x y) (Nat.land x z))) &&
 Nat.beq (gb (2 ^ k) (du sle) []) 0&&Nat.beq (atm (2 ^ k) sle).length k&&Nat.beq ((List.range (2 ^ (2 ^ k))).filter (subB (2 ^ k))).length ([1,1,2,5].getD k 0)
theorem xnn:(List.range 4).all stdOk=true:=by kernel_rfl
theorem xf0 {k:Nat}(hk:k≤3):BoolP (2 ^ k) sle∧(atm (2 ^ k) sle).length=k∧(suL (2 ^ k) sle (2 ^ (2 ^ k))).length=[1,1,2,5].getD k 0:=by
 have hh:=List.all_eq_true.1 xnn k (List.mem_range.2 (by omega))
 have h8:2 ^ k≤8:=Nat.pow_le_pow_right (n:=2) (by omega) hk
 have hp:0<2 ^ k:=Nat.pow_pos (by omega)
 unfold stdOk at hh
 simp only[Bool.and_eq_true,List.all_eq_true,List.mem_range,decide_eq_true_eq,Nat.beq_eq,Nat.ble_eq,Bool.or_eq_true,Bool.not_eq_true']at hh
 obtain⟨⟨⟨⟨⟨h1,h2⟩,h3⟩,h4⟩,h5⟩,h6⟩:=hh
 have m1:∀x y,x<2 ^ k→y<2 ^ k→mt (2 ^ k) sle x y=Nat.land x y:=fun x y hx hy=>by
  unfold mt;rw[(h2 x hx y hy).1.2];rfl
 have m2:∀x y,x<2 ^ k→y<2 ^ k→mt (2 ^ k) (du sle) x y=Nat.lor x y:=fun x y hx hy=>by
  unfold mt;rw[(h2 x hx y hy).2];rfl
 have l1:∀x y,x<2 ^ k→y<2 ^ k→Nat.land x y<2 ^ k:=fun x y hx hy=>(h2 x hx y hy).1.1.1.2
 have l2:∀x y,x<2 ^ k→y<2 ^ k→Nat.lor x y<2 ^ k:=fun x y hx hy=>(h2 x hx y hy).1.1.2
 have B:BoolP (2 ^ k) sle:=by
  refine⟨⟨by omega,⟨fun x hx=>(h1 x hx).1.1,fun x y hx hy hne hl => ?_,fun x y z hx hy hz a b => ?_⟩,⟨hp,fun x y hx hy => ?_,fun x y hx hy => ?_⟩⟩,fun x y z hx hy hz => ?_,fun x hx e => ?_⟩
  ·rcases (h2 x hx y hy).1.1.1.1 with(e|e)|e
   ·exact absurd e hne
   ·rw[e]at hl;cases hl
   ·exact e
  ·rcases (h3 x hx y hy z hz).1 with(e|e)|e
   ·rw[e]at a;cases a
   ·rw[e]at b;cases b
   ·exact e
  ·rw[(h2 x hx y hy).1.2];exact Int.natCast_nonneg _
  ·rw[(h2 x hx y hy).2];exact Int.natCast_nonneg _
  ·rw[m2 y z hy hz,m1 x _ hx (l2 y z hy hz),m1 x y hx hy,m1 x z hx hz,m2 _ _ (l1 x y hx hy) (l1 x z hx hz)]
   exact(h3 x hx y hy z hz).2
  ·have:=(h1 x hx).2
   rw[e]at this
   simp at this
 refine⟨B,h5, ?_⟩
 rw[←h6]
 unfold suL
 rw[List.length_map]
 congr 1
 refine List.filter_congr fun c _ => ?_
 have mem:∀{x},x<2 ^ k→(x∈fl (2 ^ k) (bitp c)↔bitp c x=true):=fun {x} hx=>⟨fun q=>(fl_mem.1 q).2,fun q=>fl_mem.2 ⟨hx,q⟩⟩
 rw[Bool.eq_iff_iff,tv_iff]
 unfold SubA subB
 rw[show bt (2 ^ k) sle=0 from h4,mem hp]
 simp only[Bool.and_eq_true,List.all_eq_true,List.mem_range,Bool.or_eq_true,Bool.not_eq_true']
 constructor
 ·rintro⟨a,b,d⟩
  refine⟨⟨a,fun s hs => ?_⟩,fun x hx => ?_⟩
  ·cases q:bitp c s with
   | false=>exact .inl rfl
   | true =>
    have:=b s ((mem hs).2 q)
    rw[(h1 s hs).1.2,mem (by omega)]at this
    exact .inr this
  ·cases q:bitp c x with
   | false=>exact .inl rfl
   | true =>
    refine .inr fun y hy => ?_
    cases r:bitp c y with
    | false=>exact .inl rfl
    | true =>
     have:=d x ((mem hx).2 q) y ((mem hy).2 r)
     rw[m1 x y hx hy,m2 x y hx hy,mem (l1 x y hx hy),mem (l2 x y hx hy)]at this
     exact .inr this
 ·rintro⟨⟨a,b⟩,d⟩
  refine⟨a,fun s hs => ?_,fun x hx y hy => ?_⟩
  ·obtain⟨s1,s2⟩:=fl_mem.1 hs
   rw[(h1 s s1).1.2,mem (by omega)]
   exact(b s s1).resolve_left (by rw[s2];simp)
  ·obtain⟨x1,x2⟩:=fl_mem.1 hx
   obtain⟨y1,y2⟩:=fl_mem.1 hy
   rw[m1 x y x1 y1,m2 x y x1 y1,mem (l1 x y x1 y1),mem (l2 x y x1 y1)]
   exact(((d x x1).resolve_left (by rw[x2];simp)) y y1).resolve_left (by rw[y2];simp)
theorem xf1 {n:Nat}{le:Nat→Nat→Bool}(h:BoolP n le):(suL n le (2 ^ n)).length=[1,1,2,5].getD (atm n le).length 0:=by
 obtain⟨B,hk,hc⟩:=xf0 (wrh h)
 have a:=w1x h B hk.symm
 have b:=w1x B h hk
 omega
def irrL (n:Nat) (le:Nat→Nat→Bool):List Nat:=fl n fun j=>irr n le j
def irrO (n:Nat) (le:Nat→Nat→Bool) (a b:Nat):Bool:=le ((irrL n le).getD a 0) ((irrL n le).getD b 0)
theorem xh (n:Nat) (le:Nat→Nat→Bool):(irrL n le).length≤n:=jh _ _
theorem wa0 {n:Nat}{le:Nat→Nat→Bool}{i:Nat}(h:i<(irrL n le).length):(irrL n le).getD i 0<n:=(fl_mem.1 (we h)).1
theorem wcl {n:Nat}{le:Nat→Nat→Bool}(hn:n≤10):V82 big (pos n le)=some (pos (irrL n le).length (irrO n le),()):=by
 have hl:=xh n le
 unfold V82 w4g
 rw[x9 (show n≤1048576 by omega),obS]
 show wpw big (pos n le) ([],()) (cs (irrL n le)) ([],()) ((0:Nat):Int)=_
 refine xmt (irrL n le).length (fun i o=>o=(mkR i fun y=>cs (fl (irrL n le).length fun x=>irrO n le x y),())) (by omega) ?_ ?_ 0 (by omega) _ rfl
 ·rintro rc i o hi rfl ih
  unfold wfv
  rw[cs_len,cdt (by omega)]
  refine xmu (irrL n le).length (fun j s=>s=cs (fl j fun x=>irrO n le x i)) (by omega) ?_ ?_ 0 (by omega) _ rfl
  ·rintro rc2 j s hj rfl ih2
   have hfl:=jh j fun x=>irrO n le x i
   unfold wj2
   simp only[cs_len,cdt (show(j:Int)<((irrL n le).length:Int) by omega),wd hj,wd hi,Int.toNat_natCast,wy hj,wy hi,obS,wo (le:=le) (show n≤4294967296 by omega) (wa0 hj) (wa0 hi),wr1 (show j≤4611686018427387904 by omega)]
   cases hc:le ((irrL n le).getD j 0) ((irrL n le).getD i 0) with
   | true =>
    rw[cond_true,app1 (by rw[cs_len];omega),obS]
    exact ih2 _ (fl_t (P:=fun x=>irrO n le x i) hc)
   | false =>
    rw[cond_false]
    exact ih2 _ (fl_f (P:=fun x=>irrO n le x i) hc)
  ·rintro rc2 s rfl
   unfold wj2
   rw[cs_len,cdf (by omega),wfu,app1 (by rw[mkR_len];omega),obS,wr1 (by omega)]
   exact ih _ (by rw[jv])
 ·rintro rc o rfl
  unfold wfv
  rw[cs_len,cdf (by omega),zh]
  rfl
theorem wcj {n:Nat}{le:Nat→Nat→Bool}(h:LatP n le) (hg:V28 big (pos n le)=some (true,())):V32 (pos n le)=some (tv (Dis n le),()):=by
 unfold V32 wth
 obtain⟨l,b,h1,h2⟩:=wyf h
 rw[hg,obS,h1]
 simp only[Bool.not_true,cond_false,obS,h2]
theorem wyx {n m:Nat}{le le':Nat→Nat→Bool}(hn:n≤10) (hm:m≤10) (g:List Int) (hg:g.length≤1000):∃b,V84 big (pos m le') (pos n le) g=some (b,())∧(b=true→∃G:List Nat,g=cs G∧G.length=(irrL m le').length∧∀x∈G,x<(irrL n le).length):=by
 have hl:=xh n le
 have hl':=xh m le'
 unfold V84 w4l
 simp only[wcl hn,wcl hm,obS,wb]
 by_cases e:g.length=(irrL m le').length
 case neg=>rw[cdt (by omega)];exact⟨_,rfl,fun h=>by cases h⟩
 rw[cdf (by omega),xl _ g (by omega) (by omega),obS]
 cases ha:g.all (inB (irrL n le).length) with
 | false=>exact⟨_,rfl,fun h=>by cases h⟩
 | true =>
  obtain⟨G,rfl,hG⟩:=xx ha
  rw[cs_len]at e hg
  dsimp only
  rw[Bool.not_true,cond_false]
  suffices hh:∃b,wp2 big (cs G) (pos (irrL m le').length (irrO m le')) (pos (irrL n le).length (irrO n le)) ((0:Nat):Int)=some (b,()) by
   obtain⟨b,eb⟩:=hh
   exact⟨b,eb,fun _=>⟨G,rfl,e,hG⟩⟩
  refine xmw (Q:=fun r=>∃b,r=some (b,())) G.length (fun _=>True) (by omega) ?_ ?_ 0 (by omega) trivial
  ·intro rc i hi _ ih
   unfold wf3
   rw[cs_len,cdt (by omega)]
   refine xmx (Q:=fun r=>∃b,r=some (b,())) G.length (fun _=>True) (by omega) ?_ ?_ 0 (by omega) trivial
   ·intro rc2 j hj _ ih2
    unfold wj7
    simp only[cs_len,cdt (show(j:Int)<(G.length:Int) by omega),wd hj,wd hi,obS,wo (le:=irrO m le') (show(irrL m le').length≤4294967296 by omega) (show i<(irrL m le').length by omega) (show j<(irrL m le').length by omega),wo (le:=irrO n le) (show(irrL n le).length≤4294967296 by omega) (hG _ (we hi)) (hG _ (we hj)),wr1 (show j≤4611686018427387904 by omega)]
    cases irrO m le' i j with
    | false=>exact ih2 trivial
    | true =>
     cases irrO n le (G.getD i 0) (G.getD j 0) with
     | false=>exact⟨_,rfl⟩
     | true=>exact ih2 trivial
   ·intro rc2 _
    unfold wj7
    rw[cs_len,cdf (by omega),wf2,wr1 (by omega)]
    exact ih trivial
  ·intro rc _
   unfold wf3
   rw[cs_len,cdf (by omega)]
   exact⟨_,rfl⟩
theorem w5r {n m:Nat}{le le':Nat→Nat→Bool}(h:LatP n le) (h':LatP m le') (hg1:V28 big (pos n le)=some (true,())) (hg2:V28 big (pos m le')=some (true,())) (g:List Int) (hg:g.length≤1000):∃l b,V85 big (pos n le) (pos m le') g=some ((l,b,()),())∧l.length≤10:=by
 have hn:=h.le10
 have hm:=h'.le10
 have hl:=xh n le
 have hl':=xh m le'
 obtain⟨b,eb,hb⟩:=wyx (le:=le) (le':=le') hn hm g hg
 unfold V85 w4n
 simp only[wcj h hg1,wcj h' hg2,obS]
 cases tv (Dis n le) with
 | false=>exact⟨_,_,rfl,by simp⟩
 | true =>
  cases tv (Dis m le') with
  | false=>exact⟨_,_,rfl,by simp⟩
  | true =>
   rw[Bool.not_true,cond_false,cond_false,eb,obS]
   cases b with
   | false=>exact⟨_,_,rfl,by simp⟩
   | true =>
    obtain⟨G,rfl,e,hG⟩:=hb rfl
    dsimp only
    rw[Bool.not_true,cond_false,x9 (show m≤1048576 by omega),obS,x9 (show n≤1048576 by omega),obS]
    show ∃l b,wp6 big (cs G) (pos n le) (pos m le') [] (cs (irrL m le')) (cs (irrL n le)) ((0:Nat):Int)=some ((l,b,()),())∧l.length≤10
    refine xmy (Q:=fun r=>∃l b,r=some ((l,b,()),())∧l.length≤10) n (fun i l=>l.length=i) (by omega) ?_ ?_ 0 (by omega) _ rfl
    ·intro rc i l hi hI ih
     have hI:l.length=i:=hI
     unfold wf8
     rw[wb,cdt (by omega),wq h',obS]
     refine xj2 (Q:=fun r=>∃l b,r=some ((l,b,()),())∧l.length≤10) G.length (fun _ v=>∃w:Nat,w<m∧v=(w:Int)) (by omega) ?_ ?_ 0 (by omega) _ ⟨_,wl h',rfl⟩
     ·rintro rc2 j v hj ⟨w,hw,rfl⟩ ih2
      have g1:=hG _ (we hj)
      unfold wf7
      simp only[cs_len,cdt (show(j:Int)<(G.length:Int) by omega),wd hj,obS,wd g1,Int.toNat_natCast,wy g1,wo (le:=le) (show n≤4294967296 by omega) (wa0 g1) hi,wd (show j<(irrL m le').length by omega),wy (show j<(irrL m le').length by omega),w5 h' hw (wa0 (show j<(irrL m le').length by omega)),wr1 (show j≤4611686018427387904 by omega)]
      cases le ((irrL n le).getD (G.getD j 0) 0) i with
      | true=>exact ih2 _ ⟨_,jlt h' hw (wa0 (show j<(irrL m le').length by omega)),rfl⟩
      | false=>exact ih2 _ ⟨w,hw,rfl⟩
     ·rintro rc2 v ⟨w,hw,rfl⟩
      unfold wf7
      rw[cs_len,cdf (by omega),wav,app1 (by omega),obS,wr1 (by omega)]
      exact ih _ (by rw[List.length_append,List.length_singleton];omega)
    ·intro rc l hI
     have hI:l.length=n:=hI
     unfold wf8
     rw[wb,cdf (by omega)]
     exact⟨_,_,rfl,by omega⟩
def Qm (k:Nat) (r:Option (List Int×(Cu×Unit))):Prop:=∃l c',r=some (l,(c',()))∧l.length≤30∧COk k c'
theorem tail25 {k:Nat}{c:Cu}(hc:COk (k+6) c){l:List Int}(hl:l.length≤20) (m:Int):Qm k ((V2 c (32:Int)).bind fun rq79 =>
 cond (decide (rq79.1=(0:Int)))
 ((appI l [(0:Int)]).bind fun xq80 =>
 some (xq80,(rq79.2.1,())))
 (cond (decide (rq79.1=(1:Int)))
 (cond (decide ((0:Int)<(l.length:Int)))
 ((V2 rq79.2.1 (l.length:Int)).bind fun rq81 =>
 (V4 rq81.2.1 [(-1:Int),m,(0:Int)]).bind fun rq82 =>
 (atI l rq81.1).bind fun _ =>
 (l[rq81.1.toNat]?).bind fun xq83 =>
 some (l.set rq81.1.toNat rq82.1,(rq82.2.1,())))
 (some (l,(rq79.2.1,()))))
 (some (l,(rq79.2.1,()))))):=by
 obtain⟨v,c1,e1,_,_,hc1⟩:=wk (k:=k+4) hc 32
 rw[e1,obS]
 dsimp only
 by_cases v0:v=0
 ·rw[cdt v0,app1 (by omega),obS]
  exact⟨_,_,rfl,by rw[List.length_append,List.length_singleton];omega,hc1.mono (by omega)⟩
 rw[cdf v0]
 by_cases v1:v=1
 case neg=>rw[cdf v1];exact⟨_,_,rfl,by omega,hc1.mono (by omega)⟩
 rw[cdt v1]
 by_cases h0:(0:Int)<l.length
 case neg=>rw[cdf h0];exact⟨_,_,rfl,by omega,hc1.mono (by omega)⟩
 obtain⟨x,c2,e2,x0,x1,hc2⟩:=wk (k:=k+2) hc1 (l.length:Int)
 obtain⟨y,c3,e3,_,hc3⟩:=zq (k:=k) hc2 (l:=[(-1:Int),m,(0:Int)]) (by simp)
 have x1:=x1 (by omega)
 have hx:x.toNat<l.length:=by omega
 have ea:=jf l x.toNat hx
 rw[show((x.toNat:Nat):Int)=x by omega]at ea
 rw[cdt h0,e2,obS]
 dsimp only
 rw[e3,obS,ea,obS,List.getElem?_eq_getElem hx,obS]
 exact⟨_,_,rfl,by rw[List.length_set];omega,hc3⟩
theorem wmz (a b:Int):∃v,V39 a b=some (v,())∧a≤v∧b≤v∧(v=a∨v=b):=by
 unfold V39 xgf
 by_cases h:b<a
 ·rw[cdt h];exact⟨_,rfl,by omega,by omega,.inl rfl⟩
 ·rw[cdf h];exact⟨_,rfl,by omega,by omega,.inr rfl⟩
theorem wyy {k n m:Nat}{le le':Nat→Nat→Bool}(h:LatP n le) (h':LatP m le') (hg1:V28 big (pos n le)=some (true,())) (hg2:V28 big (pos m le')=some (true,())){c:Cu}(hc:COk (k+40) c):Qm k (V83 big c (pos m le') (pos n le)):=by
 have hn:=h.le10
 have hm:=h'.le10
 have hl:=xh n le
 have hl':=xh m le'
 unfold V83 w4k
 simp only[hg1,hg2,obS,Bool.not_true,cond_false,x9 (show n≤1048576 by omega),wcl hm]
 show Qm k (wp0 big c (pos n le) [] ((cs (irrL n le)).length:Int) (pos (irrL m le').length (irrO m le')) ((0:Nat):Int))
 rw[cs_len]
 refine xmv (Q:=Qm k) (irrL m le').length (fun i c l=>l.length=i∧COk (k+20+2*((irrL m le').length-i)) c∧∀x∈l,0≤x∧(x<((irrL n le).length:Int)∨(irrL n le).length=0)) (by omega) ?_ ?_ 0 (by omega) _ _ ⟨rfl,hc.mono (by omega),by simp⟩
 ·rintro rc i c l hi ⟨i1,i2,i3⟩ ih
  obtain⟨v,ev,v1,v2,v3⟩:=wmz 1 ((irrL n le).length:Int)
  obtain⟨x,c1,e1,x0,x1,hc1⟩:=wk (k:=k+20+2*((irrL m le').length-(i+1))) (i2.mono (by omega)) v
  have x1:=x1 (by omega)
  unfold wj4
  rw[wb,cdt (by omega),ev,obS]
  dsimp only
  rw[e1,obS]
  dsimp only
  rw[app1 (by omega),obS,wr1 (by omega)]
  refine ih _ _ ⟨by rw[List.length_append,List.length_singleton];omega,hc1,fun y hy => ?_⟩
  rcases List.mem_append.1 hy with hy|hy
  ·exact i3 y hy
  ·rw[List.mem_singleton]at hy
   subst hy
   omega
 ·rintro rc c l ⟨i1,i2,i3⟩
  have i2:COk (k+20) c:=i2.mono (by omega)
  unfold wj4 wfz
  rw[wb,cdf (by omega)]
  by_cases h0:(0:Int)<((irrL n le).length:Int)
  case neg =>
   rw[cdf h0]
   exact tail25 (i2.mono (by omega)) (by omega) _
  obtain⟨b,c1,e1,hc1⟩:=xf (k:=k+18) i2 4
  rw[cdt h0,e1,obS]
  dsimp only
  cases b with
  | true=>exact tail25 (hc1.mono (by omega)) (by omega) _
  | false =>
   rw[Bool.not_false,cond_true,wcl hn,obS]
   dsimp only
   refine xjw (Q:=Qm k) 10 (fun _ l=>l.length=(irrL m le').length∧∀x∈l,0≤x∧x<((irrL n le).length:Int)) (by omega) ?_ ?_ 0 (by omega) _ ⟨i1,fun x hx=>by have:=i3 x hx;omega⟩
   ·rintro rc2 i l hi hI ih
    unfold wat
    rw[cdt (by omega)]
    refine xjx (Q:=Qm k) (irrL m le').length (fun _ l=>l.length=(irrL m le').length∧∀x∈l,0≤x∧x<((irrL n le).length:Int)) (by omega) ?_ ?_ 0 (by omega) _ hI
    ·rintro rc3 j l hj hI ih2
     unfold wau
     rw[cdt (by have:=hI.1;omega)]
     refine xjy (Q:=Qm k) (irrL m le').length (fun _ l=>l.length=(irrL m le').length∧∀x∈l,0≤x∧x<((irrL n le).length:Int)) (by omega) ?_ ?_ 0 (by omega) _ hI
     ·rintro rc4 t l ht ⟨q1,q2⟩ ih3
      have hjl:j<l.length:=by omega
      have htl:t<l.length:=by omega
      obtain⟨x,hx⟩:=Int.eq_ofNat_of_zero_le (q2 _ (List.getElem_mem hjl)).1
      obtain⟨y,hy⟩:=Int.eq_ofNat_of_zero_le (q2 _ (List.getElem_mem htl)).1
      have hx2:=(q2 _ (List.getElem_mem hjl)).2
      have hy2:=(q2 _ (List.getElem_mem htl)).2
      rw[hx]at hx2
      rw[hy]at hy2
      unfold wf0
      simp only[q1,cdt (show(t:Int)<((irrL m le').length:Int) by omega),wo (le:=irrO m le') (show(irrL m le').length≤4294967296 by omega) (show j<(irrL m le').length by omega) (show t<(irrL m le').length by omega),obS,jf l j hjl,jf l t htl,Int.toNat_natCast,List.getElem?_eq_getElem hjl,List.getElem?_eq_getElem htl,hx,hy,wo (le:=irrO n le) (show(irrL n le).length≤4294967296 by omega) (show x<(irrL n le).length by omega) (show y<(irrL n le).length by omega),wr1 (show t≤4611686018427387904 by omega)]
      cases irrO m le' j t with
      | false=>exact ih3 _ ⟨q1,q2⟩
      | true =>
       cases irrO n le x y with
       | true=>exact ih3 _ ⟨q1,q2⟩
       | false =>
        refine ih3 _ ⟨by rw[List.length_set];exact q1,fun z hz => ?_⟩
        rcases List.mem_or_eq_of_mem_set hz with hz|rfl
        ·exact q2 z hz
        ·omega
     ·rintro rc4 l ⟨q1,q2⟩
      unfold wf0
      rw[cdf (by omega),was,wr1 (by omega)]
      exact ih2 _ ⟨q1,q2⟩
    ·rintro rc3 l ⟨q1,q2⟩
     unfold wau
     rw[cdf (by omega),xu,wr1 (by omega)]
     exact ih _ ⟨q1,q2⟩
   ·rintro rc2 l ⟨q1,q2⟩
    unfold wat xt
    rw[cdf (by omega)]
    exact tail25 (hc1.mono (by omega)) (by omega) _
theorem ws7 {k:Nat}{c:Cu}(hc:COk (k+200) c){p q:PT}(hp:DrP 12 p) (hq:DrP 12 q):Qm k (V86 big c p q):=by
 have hpl:=hp.1
 unfold V86 xg1
 refine xmz (Q:=Qm k) p.1.length (fun i c l=>l.length=i∧COk (k+100+2*(p.1.length-i)) c) (by omega) ?_ ?_ 0 (by omega) _ _ ⟨rfl,hc.mono (by omega)⟩
 ·rintro rc i c l hi ⟨i1,i2⟩ ih
  obtain⟨v,ev,_⟩:=wmz 1 (q.1.length:Int)
  obtain⟨x,c1,e1,_,_,hc1⟩:=wk (k:=k+100+2*(p.1.length-(i+1))) (i2.mono (by omega)) v
  unfold wj9
  rw[cdt (by omega),ev,obS]
  dsimp only
  rw[e1,obS]
  dsimp only
  rw[app1 (by omega),obS,wr1 (by omega)]
  exact ih _ _ ⟨by rw[List.length_append,List.length_singleton];omega,hc1⟩
 ·rintro rc c l ⟨i1,i2⟩
  have j2:COk (k+100) c:=i2.mono (by omega)
  clear i2
  unfold wj9 wj8
  rw[cdf (by omega)]
  rcases wk8 hp.rows12 with⟨n,le,e,h,hg1,_⟩|⟨g1,_⟩
  case inr =>
   rw[g1,obS]
   exact tail25 (j2.mono (by omega)) (by omega) _
  subst e
  rcases wk8 hq.rows12 with⟨m,le',e',h',hg2,_⟩|⟨g2,_⟩
  case inr =>
   rw[hg1,obS]
   dsimp only
   rw[cond_true,g2,obS]
   exact tail25 (j2.mono (by omega)) (by omega) _
  subst e'
  have hn:=h.le10
  have hm:=h'.le10
  have hl:=xh n le
  rw[wb]at i1
  have pm:∀{c1:Cu},COk (k+60) c1→Qm k ((V32 (pos n le)).bind fun rq13 =>
    cond rq13.1
    ((V32 (pos m le')).bind fun rq14 =>
    cond rq14.1
    ((V83 big c1 (pos m le') (pos n le)).bind fun rq15 =>
    (V85 big (pos n le) (pos m le') rq15.1).bind fun rq16 =>
    cond ((((),rq16.1.2).2).1)
    ((V2 rq15.2.1 (32:Int)).bind fun rq17 =>
    cond (decide (rq17.1=(0:Int)))
    ((appI rq16.1.1 [(0:Int)]).bind fun xq18 =>
    some (xq18,(rq17.2.1,())))
    (cond (decide (rq17.1=(1:Int)))
    (cond (decide ((0:Int)<(rq16.1.1.length:Int)))
    ((V2 rq17.2.1 (rq16.1.1.length:Int)).bind fun rq19 =>
    (V4 rq19.2.1 [(-1:Int),((pos m le').1.length:Int),(0:Int)]).bind fun rq20 =>
    (atI rq16.1.1 rq19.1).bind fun _ =>
    (rq16.1.1[rq19.1.toNat]?).bind fun xq21 =>
    some (rq16.1.1.set rq19.1.toNat rq20.1,(rq20.2.1,())))
    (some (rq16.1.1,(rq17.2.1,()))))
    (some (rq16.1.1,(rq17.2.1,())))))
    ((V2 rq15.2.1 (32:Int)).bind fun rq22 =>
    cond (decide (rq22.1=(0:Int)))
    ((appI l [(0:Int)]).bind fun xq23 =>
    some (xq23,(rq22.2.1,())))
    (cond (decide (rq22.1=(1:Int)))
    (cond (decide ((0:Int)<(l.length:Int)))
    ((V2 rq22.2.1 (l.length:Int)).bind fun rq24 =>
    (V4 rq24.2.1 [(-1:Int),((pos m le').1.length:Int),(0:Int)]).bind fun rq25 =>
    (atI l rq24.1).bind fun _ =>
    (l[rq24.1.toNat]?).bind fun xq26 =>
    some (l.set rq24.1.toNat rq25.1,(rq25.2.1,())))
    (some (l,(rq22.2.1,()))))
    (some (l,(rq22.2.1,()))))))
    ((V2 c1 (32:Int)).bind fun rq27 =>
    cond (decide (rq27.1=(0:Int)))
    ((appI l [(0:Int)]).bind fun xq28 =>
    some (xq28,(rq27.2.1,())))
    (cond (decide (rq27.1=(1:Int)))
    (cond (decide ((0:Int)<(l.length:Int)))
    ((V2 rq27.2.1 (l.length:Int)).bind fun rq29 =>
    (V4 rq29.2.1 [(-1:Int),((pos m le').1.length:Int),(0:Int)]).bind fun rq30 =>
    (atI l rq29.1).bind fun _ =>
    (l[rq29.1.toNat]?).bind fun xq31 =>
    some (l.set rq29.1.toNat rq30.1,(rq30.2.1,())))
    (some (l,(rq27.2.1,()))))
    (some (l,(rq27.2.1,()))))))
    ((V2 c1 (32:Int)).bind fun rq32 =>
    cond (decide (rq32.1=(0:Int)))
    ((appI l [(0:Int)]).bind fun xq33 =>
    some (xq33,(rq32.2.1,())))
    (cond (decide (rq32.1=(1:Int)))
    (cond (decide ((0:Int)<(l.length:Int)))
    ((V2 rq32.2.1 (l.length:Int)).bind fun rq34 =>
    (V4 rq34.2.1 [(-1:Int),((pos m le').1.length:Int),(0:Int)]).bind fun rq35 =>
    (atI l rq34.1).bind fun _ =>
    (l[rq34.1.toNat]?).bind fun xq36 =>
    some (l.set rq34.1.toNat rq35.1,(rq35.2.1,())))
    (some (l,(rq32.2.1,()))))
    (some (l,(rq32.2.1,())))))):=by
   intro c1 hc1
   rw[wcj h hg1,obS]
   dsimp only
   cases tv (Dis n le) with
   | false=>exact tail25 (hc1.mono (by omega)) (by omega) _
   | true =>
    rw[cond_true,wcj h' hg2,obS]
    dsimp only
    cases tv (Dis m le') with
    | false=>exact tail25 (hc1.mono (by omega)) (by omega) _
    | true =>
     obtain⟨g,c2,e2,hgl,hc2⟩:=wyy (k:=k+20) h h' hg1 hg2 (hc1.mono (by omega))
     obtain⟨f,b,e3,hf⟩:=w5r h h' hg1 hg2 g (by omega)
     rw[cond_true,e2,obS]
     dsimp only
     rw[e3,obS]
     dsimp only
     cases b with
     | false=>exact tail25 (hc2.mono (by omega)) (by omega) _
     | true=>exact tail25 (hc2.mono (by omega)) (by omega) _
  obtain⟨b,c1,e1,hc1⟩:=xf (k:=k+98) j2 4
  rw[hg1,obS]
  dsimp only
  rw[cond_true,hg2,obS]
  dsimp only
  rw[cond_true,e1,obS]
  dsimp only
  cases b with
  | true=>exact tail25 (hc1.mono (by omega)) (by omega) _
  | false =>
   rw[Bool.not_false,cond_true,wq h',obS,xj h',obS,x9 (show n≤1048576 by omega),obS]
   dsimp only
   by_cases h0:(0:Int)<((cs (irrL n le)).length:Int)
   case neg =>
    rw[show decide ((0:Int)<((cs (fl n fun j=>irr n le j)).length:Int))=false from decide_eq_false h0,cond_false]
    exact pm (hc1.mono (by omega))
   rw[show decide ((0:Int)<((cs (fl n fun j=>irr n le j)).length:Int))=true from decide_eq_true h0,cond_true]
   obtain⟨b,c2,e2,hc2⟩:=xf (k:=k+96) hc1 2
   rw[e2,obS]
   dsimp only
   cases b with
   | false=>exact pm (hc2.mono (by omega))
   | true =>
    obtain⟨x,c3,e3,x0,x1,hc3⟩:=wk (k:=k+94) hc2 ((cs (irrL n le)).length:Int)
    have x1:=x1 (by omega)
    obtain⟨j,rfl⟩:=Int.eq_ofNat_of_zero_le x0
    rw[cs_len]at x1
    have hj:j<(irrL n le).length:=by omega
    have ea:=wd hj
    have eg:=wy hj
    have hjn:=wa0 hj
    rw[cond_true]
    show Qm k ((V2 c2 ((cs (irrL n le)).length:Int)).bind _)
    rw[e3,obS]
    dsimp only
    show Qm k ((atI (cs (irrL n le)) (j:Int)).bind fun _=>((cs (irrL n le))[(j:Int).toNat]?).bind fun xq12=>waw big c3 (pos n le) (pos m le') l ((gb m (du le') []:Nat):Int) ((gb m le' []:Nat):Int) xq12 ((0:Nat):Int))
    rw[ea,obS,Int.toNat_natCast,eg,obS]
    refine xj3 (Q:=Qm k) n (fun _ l=>l.length=n) (by omega) ?_ ?_ 0 (by omega) _ i1
    ·intro rc2 i l hi hI ih
     have hI:l.length=n:=hI
     have hil:i<l.length:=by omega
     have hs:∀v:Int,i<(l.set i v).length:=fun v=>by rw[List.length_set];exact hil
     unfold wga
     simp only[cdt (show(i:Int)<(l.length:Int) by omega),jf l i hil,obS,Int.toNat_natCast,List.getElem?_eq_getElem hil,wo (le:=le) (show n≤4294967296 by omega) hjn hi,wr1 (show i≤4611686018427387904 by omega),jf _ i (hs _),List.getElem?_eq_getElem (hs _)]
     cases le ((irrL n le).getD j 0) i with
     | true=>exact ih _ (by rw[List.length_set,List.length_set];exact hI)
     | false=>exact ih _ (by rw[List.length_set];exact hI)
    ·intro rc2 l hI
     have hI:l.length=n:=hI
     unfold wga wf9
     rw[cdf (by omega)]
     exact tail25 (hc3.mono (by omega)) (by omega) _
theorem ws5 {code:List Int}(hc:Codes code):∃p q g,V40 big code=some ((p,q,g,()),())∧DrP 12 p∧DrP 12 q∧g.length≤20:=by
 obtain⟨p,c1,e1,hp,hc1⟩:=wym hc
 obtain⟨q,c2,e2,hq,hc2⟩:=whi (k:=9000) (hc1.mono (by omega))
 unfold V40 w3b
 rw[e1,obS]
 dsimp only
 rw[e2,obS]
 dsimp only
 rcases wi hp.rows12 with⟨n,le,e,h,h1,_⟩|⟨h1,l,_⟩
 case inr=>rw[h1,obS];exact⟨_,_,_,rfl,hp,hq,by simp⟩
 rcases wi hq.rows12 with⟨m,le',e',h',h1',_⟩|⟨h1',l',_⟩
 case inr=>rw[h1,obS];dsimp only;rw[cond_true,h1',obS];exact⟨_,_,_,rfl,hp,hq,by simp⟩
 rw[h1,obS]
 dsimp only
 rw[cond_true,h1',obS]
 dsimp only
 subst e
 subst e'
 have h10':=h'.lp.le10
 have hal:=w8 m le'
 rw[cond_true,ww h.lp,obS]
 refine xlw (Q:=fun r=>∃p q g,r=some ((p,q,g,()),())∧DrP 12 p∧DrP 12 q∧g.length≤20) (atm m le').length (fun i c l=>l.length=i∧COk (100+4*((atm m le').length-i)) c) (by omega) ?_ ?_ 0 (by omega) _ _ ⟨rfl,hc2.mono (by omega)⟩
 ·rintro rc i c l hi ⟨i1,i2⟩ ih
  obtain⟨v,ev,v1,v2,v3⟩:=wmz 1 ((cs (atm n le)).length:Int)
  obtain⟨x,c3,e3,x0,x1,hc3⟩:=wk (k:=100+4*((atm m le').length-(i+1))+2) (i2.mono (by omega)) 24
  have x1:=x1 (by omega)
  have hq:quoI IntKind.i64 x (23:Int)=some (x / 23):=by
   unfold quoI
   rw[if_neg (by omega),Int.tdiv_eq_ediv_of_nonneg x0,wr (by omega) (by omega)]
  unfold wir
  rw[ww h'.lp,obS]
  dsimp only
  rw[cs_len,cdt (by omega),ev,obS]
  dsimp only
  rw[e3,obS]
  dsimp only
  rw[hq,obS]
  obtain⟨y,c4,e4,_,_,hc4⟩:=wk (k:=100+4*((atm m le').length-(i+1))) hc3 (IntKind.i64.wrap (v+x / 23))
  rw[e4,obS]
  dsimp only
  rw[app1 (by omega),obS,wr1 (by omega)]
  exact ih _ _ ⟨by rw[List.length_append,List.length_singleton];omega,hc4⟩
 ·rintro rc c l ⟨i1,i2⟩
  unfold wir
  rw[ww h'.lp,obS]
  dsimp only
  rw[cs_len,cdf (by omega)]
  exact⟨_,_,_,rfl,hp,hq,by omega⟩
theorem xea {code:List Int}(hc:Codes code):∃p q f,V87 code=some ((p,q,f,()),())∧DrP 12 p∧DrP 12 q∧f.length≤30:=by
 obtain⟨p,q,g,e1,hp,hq,hg⟩:=ws5 hc
 obtain⟨v,s,_,hv⟩:=wrg p q g hp.rows12 hq.rows12 (by omega)
 obtain⟨f,b,u⟩:=v
 unfold V87 xg2
 rw[e1,obS]
 dsimp only
 rw[s,obS]
 dsimp only
 have st:COk 9600 (code,((0:Int),((0:Int),()))):=hc.start.mono (by omega)
 cases b with
 | false =>
  obtain⟨l,c2,e2,hl,_⟩:=ws7 (k:=9000) (st.mono (by omega)) hp hq
  rw[Bool.not_false,cond_true,e2,obS]
  exact⟨_,_,_,rfl,hp,hq,hl⟩
 | true =>
  obtain⟨b,c2,e2,hc2⟩:=xf (k:=9598) st 4
  rw[Bool.not_true,cond_false,e2,obS]
  dsimp only
  cases b with
  | false=>exact⟨_,_,_,rfl,hp,hq,by show f.length≤30;have:f.length≤10:=hv;omega⟩
  | true =>
   obtain⟨l,c3,e3,hl,_⟩:=ws7 (k:=9000) (hc2.mono (by omega)) hp hq
   rw[cond_true,e3,obS]
   exact⟨_,_,_,rfl,hp,hq,hl⟩
theorem xek (n:Nat) (f:Nat→Nat):(mkR n fun x=>((f x:Nat):Int))=cs (mkR n f):=by
 unfold cs mkR;rw[List.map_map];rfl
theorem wyk {m:Nat}{F:List Nat}(hF:∀x∈F,x<m):(cs F).all (inB m)=true:=List.all_eq_true.2 fun x hx=>by
 obtain⟨i,hi,rfl⟩:=List.mem_map.1 hx
 have:=hF i hi
 unfold inB
 exact decide_eq_true (by omega)
theorem bimpl {n m:Nat}{le le':Nat→Nat→Bool}(h:BoolP n le) (h':BoolP m le') (h2:V64 (pos n le)=some ((some (lat n le),true,()),())) (h2':V64 (pos m le')=some ((some (lat m le'),true,()),())){G:List Nat}(hG:∀g∈G,g<(atm n le).length) (hgl:G.length=(atm m le').length) :
  V73 big (pos n le) (pos m le') (cs G)=some ((mkR n fun x=>((bmv m le le' (atm n le) G (atm m le') x:Nat):Int),true,()),()):=by
 have h10:=h.lp.le10
 have h10':=h'.lp.le10
 have hAl:=w8 n le
 have hBl:=w8 m le'
 unfold V73 wpe
 rw[wh h2 h2']
 simp only[obS,Bool.and_self,Bool.not_true,cond_false,wv h.lp,wv h'.lp,cs_len]
 rw[cdf (by omega),zr (atm n le).length (cs G) (by rw[cs_len];omega),obS,wyk hG]
 simp only[Bool.not_true,cond_false,lat1,mkR_len,wb8 h h' (show(atm n le).length≤10 by omega) w9 (show(atm m le').length≤10 by omega) w9 hG hgl]
theorem aimpl {n m:Nat}{le le':Nat→Nat→Bool}(h:BoolP n le) (h':BoolP m le') (h2:V64 (pos n le)=some ((some (lat n le),true,()),())) (h2':V64 (pos m le')=some ((some (lat m le'),true,()),())){F:List Nat}(hl:F.length=n) (hF:∀x∈F,x<m) (hm:LMp n m le le' F) :
  V80 big (pos n le) (pos m le') (cs F)=some (((atm m le').map fun a=>((amv n m le le' F a:Nat):Int),true,()),()):=by
 obtain⟨r1,r2⟩:=wb7 h h' hl hF hm
 unfold V80 wps
 rw[wh h2 h2']
 simp only[obS,Bool.and_self,Bool.not_true,cond_false]
 rw[wck h.lp h'.lp hl hF (wyk hF),tv_t hm]
 simp only[obS,Bool.not_true,cond_false,wv h'.lp,cs_len,r1]
theorem bmapV (p q:PT) (g:List Int) (hp:∀r∈p.1,r.length≤4294967296) (hq:∀r∈q.1,r.length≤4294967296) (hg:g.length≤1048576) :
  ∃(v:List Int) (f:Bool),V74 big p q g=some ((v,f,()),())∧V73 big p q g=some ((v,f,()),())∧v.length≤10∧(f=true→V79 p q v=some ((true,true,()),())∧V80 big p q v=some ((g,true,()),())):=by
 obtain⟨v,hs,hi,hv⟩:=wrg p q g hp hq hg
 obtain⟨v,f,u⟩:=v
 refine⟨v,f,hs,hi,hv, ?_⟩
 rintro rfl
 unfold V73 wpe at hi
 rcases wi hp with⟨n,le,e,h,h1,h2⟩|⟨h1,l,h2⟩
 ·rcases wi hq with⟨m,le',e',h',h1',h2'⟩|⟨h1',l',h2'⟩
  ·subst e;subst e'
   rw[wh h2 h2']at hi
   have h10:=h.lp.le10
   have h10':=h'.lp.le10
   have hAl:=w8 n le
   have hBl:=w8 m le'
   simp only[obS,Bool.and_self,Bool.not_true,cond_false,wv h.lp,wv h'.lp,cs_len]at hi
   by_cases hgl:g.length=(atm m le').length
   ·rw[cdf (show ¬(g.length:Int)≠((atm m le').length:Int) by omega),zr (atm n le).length g (show g.length≤1099511627775 by omega),obS]at hi
    cases hga:g.all (inB (atm n le).length) with
    | false =>
     rw[hga]at hi
     simp at hi
    | true =>
     obtain⟨G,e1,hG⟩:=xx hga
     subst e1
     rw[cs_len]at hgl
     have e2:=bimpl h h' h2 h2' hG hgl
     rw[hga]at hi
     simp only[Bool.not_true,cond_false,lat1,mkR_len,obS,wb8 h h' (show(atm n le).length≤10 by omega) w9 (show(atm m le').length≤10 by omega) w9 hG hgl]at hi
     have hve:v=cs (mkR n fun x=>bmv m le le' (atm n le) G (atm m le') x):=by
      rw[←xek]
      injection hi with hi
      injection hi with hi
      injection hi with hi
      exact hi.symm
     have hFl:(mkR n fun x=>bmv m le le' (atm n le) G (atm m le') x).length=n:=mkR_len _ _
     have hF:∀y∈mkR n fun x=>bmv m le le' (atm n le) G (atm m le') x,y<m:=fun y hy=>by
      obtain⟨x,hx,rfl⟩:=List.mem_map.1 hy
      exact wk6 (n:=n) h'
     have LM:=xd5 h h' hG hgl
     rw[hve]
     constructor
     ·unfold V79 xgx V76 xgv
      rw[xm h.lp,xm h'.lp]
      simp only[obS,cond_true,Bool.not_true,cond_false]
      rw[wck h.lp h'.lp hFl hF (wyk hF),tv_t LM]
      rfl
     ·rw[aimpl h h' h2 h2' hFl hF LM,xfm h h' hG hgl]
   ·rw[cdt (show(g.length:Int)≠((atm m le').length:Int) by omega)]at hi
    simp at hi
  ·rw[wh h2 h2']at hi
   simp at hi
 ·rcases wi hq with⟨m,le',e',h',h1',h2'⟩|⟨h1',l',h2'⟩
  ·rw[wh h2 h2']at hi
   simp at hi
  ·rw[wh h2 h2']at hi
   simp at hi
theorem amapV (p q:PT) (g:List Int) (hp:∀r∈p.1,r.length≤4294967296) (hq:∀r∈q.1,r.length≤4294967296) (hg:g.length≤1048576) :
  ∃(v:List Int) (f:Bool),V89 big p q g=some ((v,f,()),())∧V80 big p q g=some ((v,f,()),())∧v.length≤10∧(f=true→V73 big p q v=some ((g,true,()),())):=by
 obtain⟨v,hs,hi,hv⟩:=w5f p q g hp hq hg
 obtain⟨v,f,u⟩:=v
 refine⟨v,f,hs,hi,hv, ?_⟩
 rintro rfl
 unfold V80 wps at hi
 rcases wi hp with⟨n,le,e,h,h1,h2⟩|⟨h1,l,h2⟩
 ·rcases wi hq with⟨m,le',e',h',h1',h2'⟩|⟨h1',l',h2'⟩
  ·subst e;subst e'
   rw[wh h2 h2']at hi
   have h10:=h.lp.le10
   have h10':=h'.lp.le10
   have hBl:=w8 m le'
   simp only[obS,Bool.and_self,Bool.not_true,cond_false]at hi
   by_cases hgl:g.length=n
   ·cases hga:g.all (inB m) with
    | false =>
     have e2:V78 big (some (lat n le)) (some (lat m le')) g=some (false,()):=by
      unfold V78 wg7
      rw[obS,lat1,mkR_len,cdf (by omega),obS,lat1,wrl g (by omega),hga];rfl
     rw[e2]at hi
     simp at hi
    | true =>
     obtain⟨F,e1,hF⟩:=xx hga
     subst e1
     rw[cs_len]at hgl
     rw[wck h.lp h'.lp hgl hF hga]at hi
     by_cases hm:LMp n m le le' F
     ·obtain⟨r1,r2⟩:=wb7 h h' hgl hF hm
      simp only[tv_t hm,obS,Bool.not_true,cond_false,wv h'.lp,cs_len,r1]at hi
      have hve:v=cs ((atm m le').map (amv n m le le' F)):=by
       unfold cs
       rw[List.map_map]
       injection hi with hi
       injection hi with hi
       injection hi with hi
       exact hi.symm
      obtain⟨a1,a2⟩:=xkp h h' hgl hF hm
      rw[hve,bimpl h h' h2 h2' a1 (by rw[List.length_map])]
      congr 3
      rw[xek]
      congr 1
      refine List.ext_getElem (by rw[mkR_len,hgl]) fun x hx hx2 => ?_
      rw[←wg hx,←wg hx2,whd (by omega)]
      exact a2 x (by omega)
     ·rw[tv_f hm]at hi
      simp at hi
   ·have e2:V78 big (some (lat n le)) (some (lat m le')) g=some (false,()):=by
     unfold V78 wg7
     rw[obS,lat1,mkR_len,cdt (by omega)]
    rw[e2]at hi
    simp at hi
  ·rw[wh h2 h2']at hi
   simp at hi
 ·rcases wi hq with⟨m,le',e',h',h1',h2'⟩|⟨h1',l',h2'⟩
  ·rw[wh h2 h2']at hi
   simp at hi
  ·rw[wh h2 h2']at hi
   simp at hi
theorem subsV (p:PT) (hp:∀r∈p.1,r.length≤4294967296):∃(v:List (List Int)) (f:Bool),V107 big p=some ((v,f,()),())∧V101 big p=some ((v,f,()),())∧v.length≤1024∧(∀x∈v,x.length≤10)∧(f=true→∃A:List Int,V110 p=some ((A,true,()),())∧((A.length=0∧v.length=1)∨(A.length=1∧v.length=1)∨(A.length=2∧v.length=2)∨(A.length=3∧v.length=5))):=by
 rcases wi hp with⟨n,le,e,h,h1,h2⟩|⟨h1,l,h2⟩
 ·subst e
  obtain⟨v,a,b,c,d,e⟩:=xf3 h h1 h2
  refine⟨v,true,a,b,c,d,fun _=>⟨_,wzb h.lp (xm h.lp), ?_⟩⟩
  rw[xf1 h]at e
  have h3:=wrh h
  rw[cs_len]
  have:(atm n le).length=0∨(atm n le).length=1∨(atm n le).length=2∨(atm n le).length=3:=by omega
  rcases this with q|q|q|q<;>rw[q]at e<;>simp[q,e]
 ·unfold V107 wm3 V101 wm1
  rw[h1,h2]
  exact⟨_,_,rfl,rfl,by simp,by simp,fun e=>by cases e⟩
def okFree:Bool:=[(0:Int),(1:Int),(2:Int),(3:Int),(4:Int),(5:Int),(6:Int),(-1:Int)].all fun v=>match V112 v,V113 v with
 | some ((a,b,()),()),some ((c,d,()),())=>decide (a=c)&&(b==d)
 | _,_=>false
theorem xfy:okFree=true:=by kernel_rfl
theorem tailD {code:List Int}(hc:Codes code):((V111 code).bind fun rq21 =>
 (V112 rq21.1).bind fun rq22 =>
 (V113 rq21.1).bind fun rq23 =>
 cond (decide (rq22.1.1=rq23.1.1))
 (some (rq22.1.2.1==rq23.1.2.1,(())))
 (some (false,(()))))=some (true,()):=by
 obtain⟨v,c1,e1,hv,_⟩:=zq (k:=9000) (c:=(code,((0:Int),((0:Int),())))) (hc.start.mono (by omega)) (l:=[(0:Int),(1:Int),(2:Int),(3:Int),(4:Int),(5:Int),(6:Int),(-1:Int)]) (by simp)
 have hh:=List.all_eq_true.1 xfy v hv
 have e2:V111 code=some (v,()):=by
  unfold V111 w53
  rw[e1,obS]
 rw[e2,obS]
 split at hh
 case h_2=>cases hh
 rename_i a b c d f1 f2
 simp only[Bool.and_eq_true,decide_eq_true_eq]at hh
 rw[f1,f2,obS,obS]
 dsimp only
 rw[cdt hh.1,hh.2]
theorem tailC {code:List Int}(hc:Codes code):((V91 code).bind fun rq15 =>
 (V101 big rq15.1).bind fun rq16 =>
 (V107 big rq15.1).bind fun rq17 =>
 cond (((((),rq16.1.2).2).1) != rq17.1.2.1)
 (some (false,(())))
 ((V108 big rq16.1.1 rq17.1.1).bind fun rq18 =>
 cond (!rq18.1)
 (some (false,(())))
 (cond ((((),rq16.1.2).2).1)
 ((V110 rq15.1).bind fun rq19 =>
 cond (!((((),rq19.1.2).2).1))
 (some (false,(())))
 (cond (decide (([(1:Int),(1:Int),(2:Int),(5:Int),(15:Int)].length:Int)≤(rq19.1.1.length:Int)))
 (some (false,(())))
 ((atI [(1:Int),(1:Int),(2:Int),(5:Int),(15:Int)] (rq19.1.1.length:Int)).bind fun _ =>
 ([(1:Int),(1:Int),(2:Int),(5:Int),(15:Int)][(rq19.1.1.length:Int).toNat]?).bind fun xq20 =>
 cond (decide ((rq16.1.1.length:Int)≠xq20))
 (some (false,(())))
 ((V111 code).bind fun rq21 =>
 (V112 rq21.1).bind fun rq22 =>
 (V113 rq21.1).bind fun rq23 =>
 cond (decide (rq22.1.1=rq23.1.1))
 (some (rq22.1.2.1==rq23.1.2.1,(())))
 (some (false,(())))))))
 ((V111 code).bind fun rq21 =>
 (V112 rq21.1).bind fun rq22 =>
 (V113 rq21.1).bind fun rq23 =>
 cond (decide (rq22.1.1=rq23.1.1))
 (some (rq22.1.2.1==rq23.1.2.1,(())))
 (some (false,(())))))))=some (true,()):=by
 have hD:=tailD hc
 obtain⟨p,c1,e1,hp,_⟩:=wym hc
 have e2:V91 code=some (p,()):=by
  unfold V91 xg7 V90 xg6
  rw[e1,obS,obS]
 obtain⟨v,f,s,i,hv,hr,hf⟩:=subsV p hp.rows12
 rw[hD,e2,obS]
 dsimp only
 rw[i,obS,s,obS]
 dsimp only
 rw[bne_self_eq_false,cond_false,wzl v (by omega) hr,obS]
 dsimp only
 rw[Bool.not_true,cond_false]
 cases f with
 | false=>rfl
 | true =>
  obtain⟨A,eA,hA⟩:=hf rfl
  rw[cond_true,eA,obS]
  dsimp only
  rw[Bool.not_true,cond_false]
  rcases hA with⟨a,b⟩|⟨a,b⟩|⟨a,b⟩|⟨a,b⟩<;>rw[a,b]<;>rfl
theorem tailB {code:List Int}(hc:Codes code):((V87 code).bind fun rq9 =>
 (V80 big rq9.1.1 rq9.1.2.1 rq9.1.2.2.1).bind fun rq10 =>
 (V89 big rq9.1.1 rq9.1.2.1 rq9.1.2.2.1).bind fun rq11 =>
 cond (((((),rq10.1.2).2).1) != ((((),rq11.1.2).2).1))
 (some (false,(())))
 ((V75 big rq10.1.1 rq11.1.1).bind fun rq12 =>
 cond (!rq12.1)
 (some (false,(())))
 (cond ((((),rq10.1.2).2).1)
 ((V73 big rq9.1.1 rq9.1.2.1 rq10.1.1).bind fun rq13 =>
 cond (!((((),rq13.1.2).2).1))
 (some (false,(())))
 ((V75 big rq13.1.1 rq9.1.2.2.1).bind fun rq14 =>
 cond (!rq14.1)
 (some (false,(())))
 ((V91 code).bind fun rq15 =>
 (V101 big rq15.1).bind fun rq16 =>
 (V107 big rq15.1).bind fun rq17 =>
 cond (((((),rq16.1.2).2).1) != rq17.1.2.1)
 (some (false,(())))
 ((V108 big rq16.1.1 rq17.1.1).bind fun rq18 =>
 cond (!rq18.1)
 (some (false,(())))
 (cond ((((),rq16.1.2).2).1)
 ((V110 rq15.1).bind fun rq19 =>
 cond (!((((),rq19.1.2).2).1))
 (some (false,(())))
 (cond (decide (([(1:Int),(1:Int),(2:Int),(5:Int),(15:Int)].length:Int)≤(rq19.1.1.length:Int)))
 (some (false,(())))
 ((atI [(1:Int),(1:Int),(2:Int),(5:Int),(15:Int)] (rq19.1.1.length:Int)).bind fun _ =>
 ([(1:Int),(1:Int),(2:Int),(5:Int),(15:Int)][(rq19.1.1.length:Int).toNat]?).bind fun xq20 =>
 cond (decide ((rq16.1.1.length:Int)≠xq20))
 (some (false,(())))
 ((V111 code).bind fun rq21 =>
 (V112 rq21.1).bind fun rq22 =>
 (V113 rq21.1).bind fun rq23 =>
 cond (decide (rq22.1.1=rq23.1.1))
 (some (rq22.1.2.1==rq23.1.2.1,(())))
 (some (false,(())))))))
 ((V111 code).bind fun rq21 =>
 (V112 rq21.1).bind fun rq22 =>
 (V113 rq21.1).bind fun rq23 =>
 cond (decide (rq22.1.1=rq23.1.1))
 (some (rq22.1.2.1==rq23.1.2.1,(())))
 (some (false,(())))))))))
 ((V91 code).bind fun rq15 =>
 (V101 big rq15.1).bind fun rq16 =>
 (V107 big rq15.1).bind fun rq17 =>
 cond (((((),rq16.1.2).2).1) != rq17.1.2.1)
 (some (false,(())))
 ((V108 big rq16.1.1 rq17.1.1).bind fun rq18 =>
 cond (!rq18.1)
 (some (false,(())))
 (cond ((((),rq16.1.2).2).1)
 ((V110 rq15.1).bind fun rq19 =>
 cond (!((((),rq19.1.2).2).1))
 (some (false,(())))
 (cond (decide (([(1:Int),(1:Int),(2:Int),(5:Int),(15:Int)].length:Int)≤(rq19.1.1.length:Int)))
 (some (false,(())))
 ((atI [(1:Int),(1:Int),(2:Int),(5:Int),(15:Int)] (rq19.1.1.length:Int)).bind fun _ =>
 ([(1:Int),(1:Int),(2:Int),(5:Int),(15:Int)][(rq19.1.1.length:Int).toNat]?).bind fun xq20 =>
 cond (decide ((rq16.1.1.length:Int)≠xq20))
 (some (false,(())))
 ((V111 code).bind fun rq21 =>
 (V112 rq21.1).bind fun rq22 =>
 (V113 rq21.1).bind fun rq23 =>
 cond (decide (rq22.1.1=rq23.1.1))
 (some (rq22.1.2.1==rq23.1.2.1,(())))
 (some (false,(())))))))
 ((V111 code).bind fun rq21 =>
 (V112 rq21.1).bind fun rq22 =>
 (V113 rq21.1).bind fun rq23 =>
 cond (decide (rq22.1.1=rq23.1.1))
 (some (rq22.1.2.1==rq23.1.2.1,(())))
 (some (false,(()))))))))))=some (true,()):=by
 have hC:=tailC hc
 obtain⟨p,q,f,e1,hp,hq,hf⟩:=xea hc
 obtain⟨v,b,s,i,hv,hb⟩:=amapV p q f hp.rows12 hq.rows12 (by omega)
 rw[hC,e1,obS]
 dsimp only
 rw[i,obS,s,obS]
 dsimp only
 rw[bne_self_eq_false,cond_false,ya v (by omega),obS]
 dsimp only
 rw[Bool.not_true,cond_false]
 cases b with
 | false=>rfl
 | true =>
  rw[cond_true,hb rfl,obS]
  dsimp only
  rw[Bool.not_true,cond_false,ya f (by omega),obS]
  rfl
theorem true_FnBooleanMaps (code:List Int) (hw:Wf (.pair (.sl (.int .u8)) .unit) (code,())):laws_FnBooleanMaps code=some (true,()):=by
 unfold laws_FnBooleanMaps xhf V0 V0_s
 rw[obS]
 dsimp only
 by_cases hl:code.length≤65536
 case neg=>rw[cdt (by omega)]
 have hc:=xfr hw hl
 have hB:=tailB hc
 obtain⟨p,q,g,e1,hp,hq,hg⟩:=ws5 hc
 obtain⟨v,b,s,i,hv,hb⟩:=bmapV p q g hp.rows12 hq.rows12 (by omega)
 rw[cdf (by omega),hB,e1,obS]
 dsimp only
 rw[i,obS,s,obS]
 dsimp only
 rw[bne_self_eq_false,cond_false,ya v (by omega),obS]
 dsimp only
 rw[Bool.not_true,cond_false]
 cases b with
 | false=>rfl
 | true =>
  obtain⟨b1,b2⟩:=hb rfl
  rw[cond_true,b1,obS,b2,obS]
  dsimp only
  rw[Bool.not_true,cond_false,cond_false,ya g (by omega),obS]
  rfl
end Go.Proofs.YtmebolidmeljeaaGreat
