import Derived.Test.YteanfidobhpchaaPTab
import Derived.Test.YteanfidobhpchaaHPN
import Derived.KernelRfl
set_option linter.unusedVariables false
set_option linter.unusedSimpArgs false
namespace Go.Proofs.Yteanfidobhpchaa
open Go Go.Gx Go.Proofs
theorem vazo (x a b:Int):V6 x a b=some (decide (a≤x∧x≤b),()):=by
 unfold V6 V6_s
 by_cases h:a≤x <;> simp[h]
theorem vbjz (w:List Int) (h:w.length≤4294967296):V68 w=some (w,()):=by
 unfold V68 vbmi
 rw[vao (by simp;omega),Option.bind_some]
 simp
def subst (l:Int) (s:List Int):List Int→List Int
 | []=>[]
 | x::xs=>if x=l then s++subst l s xs else x::subst l s xs
theorem vasz (w:List Int) (h:w.length≤4294967296):V73 w=some (w,()):=by
 unfold V73 vbms
 rw[vao (by simp;omega),Option.bind_some]
 rfl
def risingB:List Int→Bool
 | x::y::r=>decide (x<y) && risingB (y::r)
 | _=>true
def inB (n:Nat) (x:Int):Bool:=decide (0≤x∧x<n)
def isSetB (n:Nat) (s:List Int):Bool:=s.all (inB n) && risingB s
theorem vxx (l:List Int) (i:Nat) (h:i<l.length) (h1:1≤i):risingB (l.drop (i - 1))=(decide (l[i - 1]<l[i]) && risingB (l.drop i)):=by
 rw[List.drop_eq_getElem_cons (show i - 1<l.length by omega),show i - 1+1=i by omega,List.drop_eq_getElem_cons h]
 rfl
theorem vafj (l:List Int) (i:Nat) (h:l.length≤i) (h1:1≤i):risingB (l.drop (i - 1))=true:=by
 by_cases h2:l.length=i
 ·rw[List.drop_eq_getElem_cons (show i - 1<l.length by omega),List.drop_eq_nil_of_le (by omega)]
  rfl
 ·rw[List.drop_eq_nil_of_le (by omega)]
  rfl
theorem vud (N:Nat) {m:Nat}:∀ (n:Nat) (l:List Int) (i:Nat),l.length - i<n→i≤l.length→l.length≤1099511627776 →
  vqq N vtc n l 0 ((m:Int) - 1) i=some ((l.drop i).all (inB m) && risingB (l.drop (i - 1)),())
 | 0,_,_,h,_,_=>by omega
 | n+1,l,i,h,hi,hb=>by
  simp only[vqq,vatr]
  by_cases hlt:i<l.length
  ·have e:decide (0≤l[i]∧l[i]≤(m:Int) - 1)=inB m l[i]:=by
    unfold inB;congr 1;exact propext ⟨fun h=>⟨h.1,by omega⟩,fun h=>⟨h.1,by omega⟩⟩
   rw[cdt (by omega),vag l i hlt,Option.bind_some,vazo,Option.bind_some,e,wr (n:=(i:Int)+1) (by omega) (by omega),wr (n:=(i:Int) - 1) (by omega) (by omega)]
   rw[show ((i:Int)+1)=((i+1:Nat):Int) by omega,vud N n l (i+1) (by omega) (by omega) hb]
   rw[show i+1 - 1=i by omega]
   cases hin:inB m l[i] with
   | false =>
    rw[List.drop_eq_getElem_cons hlt,List.all_cons,hin]
    rfl
   | true =>
    simp only[Bool.not_true,cond_false]
    by_cases h0:0<i
    ·rw[cdt (by omega),show ((i:Int) - 1)=((i - 1:Nat):Int) by omega,vag l (i - 1) (by omega),Option.bind_some,Option.bind_some,vxx l i hlt h0]
     by_cases hle:l[i]≤l[i - 1]
     ·rw[cdt hle,decide_eq_false (by omega)]
      simp
     ·rw[cdf hle,decide_eq_true (show l[i - 1]<l[i] by omega),List.drop_eq_getElem_cons hlt,List.all_cons,hin]
      simp
    ·rw[cdf (by omega)]
     have:i=0:=by omega
     subst this
     rw[show (0:Nat) - 1=0 from rfl,List.drop_eq_getElem_cons hlt,List.all_cons,hin]
     simp
  ·rw[cdf (by omega),List.drop_eq_nil_of_le (by omega)]
   by_cases h1:1≤i
   ·rw[vafj l i (by omega) h1];rfl
   ·have:l=[]:=List.eq_nil_of_length_eq_zero (by omega)
    subst this
    simp[risingB,vtc]
theorem vato (N:Nat) {m:Nat}:∀ (n:Nat) (l:List Int) (i:Nat),l.length - i<n→i≤l.length→l.length≤1099511627776 →
  vuh N vasb n (m:Int) l (l.length:Int) i=some ((l.drop i).all (inB m),())
 | 0,_,_,h,_,_=>by omega
 | n+1,l,i,h,hi,hb=>by
  simp only[vuh,vauy]
  by_cases hlt:i<l.length
  ·rw[cdt (by omega),vag l i hlt,Option.bind_some,wr (n:=(i:Int)+1) (by omega) (by omega)]
   rw[show ((i:Int)+1)=((i+1:Nat):Int) by omega,vato N n l (i+1) (by omega) (by omega) hb]
   rw[List.drop_eq_getElem_cons hlt,List.all_cons]
   unfold inB
   by_cases h0:l[i]<0
   ·rw[cdt h0,decide_eq_false (by omega)];rfl
   ·rw[cdf h0]
    by_cases h1:(m:Int)≤l[i]
    ·rw[cdt h1,decide_eq_false (by omega)];rfl
    ·rw[cdf h1,decide_eq_true (by omega)];rfl
  ·rw[cdf (by omega),List.drop_eq_nil_of_le (by omega)]
   rfl
theorem vazq (N:Nat):∀ (n:Nat) (l:List Int) (i:Nat),l.length - i<n→1≤i→l.length≤1099511627776→i≤1099511627777 →
  vsn N vaqf n l i=some (risingB (l.drop (i - 1)),())
 | 0,_,_,h,_,_,_=>by omega
 | n+1,l,i,h,hi,hb,hi2=>by
  simp only[vsn,vavs]
  by_cases hlt:i<l.length
  ·rw[cdt (by omega),wr (n:=(i:Int) - 1) (by omega) (by omega),show ((i:Int) - 1)=((i - 1:Nat):Int) by omega,vag l (i - 1) (by omega),Option.bind_some,vag l i hlt,Option.bind_some,wr (n:=(i:Int)+1) (by omega) (by omega)]
   rw[show ((i:Int)+1)=((i+1:Nat):Int) by omega,vazq N n l (i+1) (by omega) (by omega) hb (by omega),vxx l i hlt hi,show i+1 - 1=i by omega]
   by_cases hle:l[i]≤l[i - 1]
   ·rw[cdt hle,decide_eq_false (by omega)];rfl
   ·rw[cdf hle,decide_eq_true (by omega)];rfl
  ·rw[cdf (by omega),vafj l i (by omega) hi]
   rfl
theorem wr1 {i:Nat} (h:i≤4611686018427387904):IntKind.i64.wrap ((i:Int)+1)=((i+1:Nat):Int):=by rw[wr (by omega) (by omega)];omega
abbrev PT:=List (List Int)×Unit
def pos (n:Nat) (le:Nat→Nat→Bool):PT:=(mkR n fun y=>cs (fl n fun x=>le x y),())
def leP (p:PT) (x y:Nat):Bool:=decide ((x:Int)∈p.1.getD y [])
structure Ord (n:Nat) (le:Nat→Nat→Bool):Prop where
 refl:∀ x,x<n→le x x=true
 anti:∀ x y,x<n→y<n→x≠y→le x y=true→le y x=false
 trans:∀ x y z,x<n→y<n→z<n→le x y=true→le y z=true→le x z=true
structure Good (p:PT):Prop where
 len:p.1.length≤10
 rows:∀ r∈p.1,isSetB p.1.length r=true
 ord:Ord p.1.length (leP p)
theorem vrd (l:List Int) (x:Int) (h:l.length≤4294967296):V14 big l x=some (decide (x∈l),()):=by
 unfold V14 vbcg
 refine vbrr l.length (fun i=>x ∉ l.take i) (by omega) ?_ ?_ 0 (by omega) (by simp)
 ·intro rc i hi hv ih
  unfold vnw
  rw[cdt (by omega),vag l i hi,Option.bind_some]
  by_cases hx:l[i]=x
  ·rw[cdt hx,decide_eq_true (hx ▸ List.getElem_mem hi)]
  ·rw[cdf hx,wr1 (by omega)]
   refine ih fun h => ?_
   rw[List.take_succ_eq_append_getElem hi,List.mem_append,List.mem_singleton] at h
   exact h.elim hv fun e=>hx e.symm
 ·intro rc hv
  unfold vnw
  rw[cdf (by omega),vqt,decide_eq_false (by simpa using hv)]
theorem vxy (S:List Nat) (x:Nat) (h:S.length≤4294967296):V14 big (cs S) (x:Int)=some (decide (x∈S),()):=by
 rw[vrd _ _ (by simpa using h)]
 simp only[cs_mem]
theorem vawq (a b:List Int) (ha:a.length≤4294967296) (hb:b.length≤4294967296):V41 big a b=some (tv (∀ x∈a,x∈b),()):=by
 unfold V41 vbad
 refine vbrp a.length (fun i=>∀ x∈a.take i,x∈b) (by omega) ?_ ?_ 0 (by omega) (by simp)
 ·intro rc i hi hv ih
  unfold vpa
  rw[cdt (by omega),vag a i hi,Option.bind_some,vrd _ _ hb,Option.bind_some]
  by_cases hx:a[i]∈b
  ·rw[decide_eq_true hx,wr1 (by omega)]
   exact ih ((vby hi).2 ⟨hv,hx⟩)
  ·rw[decide_eq_false hx,tv_f fun h=>hx (h _ (List.getElem_mem hi))]
   rfl
 ·intro rc hv
  unfold vpa
  rw[cdf (by omega),vra,tv_t (by simpa using hv)]
theorem vaol (n:Nat) (s:List Int) (hn:n≤1099511627776) (hs:s.length≤1099511627775):V40 big s 0 ((n:Int) - 1)=some (isSetB n s,()):=by
 have hb:=vac
 unfold V40 vbdf vasu
 have:=vud big (m:=n) big s 0 (by omega) (by omega) (by omega)
 rw[show vqq big vtc big s 0 ((n:Int) - 1) 0=_ from this]
 rfl
theorem vbef (n:Nat) (s:List Int) (hs:s.length≤1099511627775):V24 big s (n:Int)=some (s.all (inB n),()):=by
 have hb:=vac
 unfold V24 vbdh vavy
 have h1:=vato big (m:=n) big s 0 (by omega) (by omega) (by omega)
 rw[show (0:Int)=((0:Nat):Int) from rfl,h1]
 rfl
theorem vbkp (s:List Int) (hs:s.length≤1099511627775):V23 big s=some (risingB s,()):=by
 have hb:=vac
 unfold V23 vbag varc
 have h2:=vazq big big s 1 (by omega) (by omega) (by omega) (by omega)
 rw[show (1:Int)=((1:Nat):Int) from rfl,h2]
 rfl
theorem vxg:∀ {l:List Int},risingB l=true→l.Pairwise (·<·)
 | [],_=>List.Pairwise.nil
 | [x],_=>by simp
 | x::y::r,h=>by
  simp only[risingB,Bool.and_eq_true,decide_eq_true_eq] at h
  have h2:=vxg h.2
  refine List.pairwise_cons.2 ⟨fun z hz => ?_,h2⟩
  rcases List.mem_cons.1 hz with rfl | hz
  ·exact h.1
  ·have:=(List.pairwise_cons.1 h2).1 z hz
   omega
theorem vxk:∀ {l:List Int},l.Pairwise (·<·)→risingB l=true
 | [],_=>rfl
 | [x],_=>rfl
 | x::y::r,h=>by
  have h1:=List.pairwise_cons.1 h
  simp only[risingB,Bool.and_eq_true,decide_eq_true_eq]
  exact⟨h1.1 y (by simp),vxk h1.2⟩
theorem vark:∀ {l m:List Int},l.Pairwise (·<·)→m.Pairwise (·<·)→(∀ x,x∈l↔x∈m)→l=m
 | [],[],_,_,_=>rfl
 | [],y::m,_,_,h=>by have:=(h y).2 (by simp);simp at this
 | x::l,[],_,_,h=>by have:=(h x).1 (by simp);simp at this
 | x::l,y::m,h1,h2,h=>by
  have p1:=List.pairwise_cons.1 h1
  have p2:=List.pairwise_cons.1 h2
  have e:x=y:=by
   rcases List.mem_cons.1 ((h x).1 (by simp)) with e | hx
   ·exact e
   ·rcases List.mem_cons.1 ((h y).2 (by simp)) with e | hy
    ·exact e.symm
    ·have:=p1.1 y hy
     have:=p2.1 x hx
     omega
  subst e
  congr 1
  refine vark p1.2 p2.2 fun z => ?_
  constructor
  ·intro hz
   rcases List.mem_cons.1 ((h z).1 (List.mem_cons_of_mem _ hz)) with e | hz2
   ·have:=p1.1 z hz;omega
   ·exact hz2
  ·intro hz
   rcases List.mem_cons.1 ((h z).2 (List.mem_cons_of_mem _ hz)) with e | hz2
   ·have:=p2.1 z hz;omega
   ·exact hz2
theorem vayd (n:Nat) (P:Nat→Bool):(cs (fl n P)).Pairwise (·<·):=by
 unfold cs fl
 rw[List.pairwise_map]
 refine List.Pairwise.filter _ ?_
 have:=List.pairwise_lt_range (n:=n)
 exact this.imp fun h=>by omega
theorem vali {n:Nat} {l:List Int} (h:isSetB n l=true):l=cs (fl n fun x=>decide ((x:Int)∈l)):=by
 unfold isSetB at h
 rw[Bool.and_eq_true] at h
 refine vark (vxg h.2) (vayd _ _) fun x => ?_
 constructor
 ·intro hx
  have h1:=List.all_eq_true.1 h.1 x hx
  unfold inB at h1
  rw[decide_eq_true_eq] at h1
  have e:x=((x.toNat:Nat):Int):=by omega
  rw[e,cs_mem,fl_mem]
  refine⟨by omega,decide_eq_true ?_⟩
  rw[← e];exact hx
 ·intro hx
  unfold cs at hx
  obtain⟨y,hy,e⟩:=List.mem_map.1 hx
  have:=(fl_mem.1 hy).2
  rw[decide_eq_true_eq] at this
  exact e ▸ this
theorem vbpt (n:Nat) (P:Nat→Bool):isSetB n (cs (fl n P))=true:=by
 unfold isSetB
 rw[Bool.and_eq_true]
 refine⟨List.all_eq_true.2 fun x hx => ?_,vxk (vayd n P)⟩
 unfold cs at hx
 obtain⟨y,hy,e⟩:=List.mem_map.1 hx
 have:=(fl_mem.1 hy).1
 unfold inB
 exact decide_eq_true (by omega)
theorem varn {p:PT} (h:∀ r∈p.1,isSetB p.1.length r=true):p=pos p.1.length (leP p):=by
 unfold pos
 refine Prod.ext ?_ rfl
 refine vbrw rfl fun i hi => ?_
 refine (vali (h _ (List.getElem_mem hi))).trans ?_
 refine congrArg cs (vatz fun x hx => ?_)
 unfold leP
 simp[hi]
theorem vah (n:Nat) (le:Nat→Nat→Bool):(pos n le).1.length=n:=mkR_len n _
theorem vaup (n:Nat) (le:Nat→Nat→Bool):∀ r∈(pos n le).1,isSetB (pos n le).1.length r=true:=by
 intro r hr
 rw[vah]
 obtain⟨i,_,e⟩:=mkR_mem.1 hr
 exact e ▸ vbpt _ _
theorem vazj {n:Nat} {le:Nat→Nat→Bool} {x y:Nat} (hx:x<n) (hy:y<n):leP (pos n le) x y=le x y:=by
 unfold leP pos
 simp only[List.getD_eq_getElem?_getD,vdd hy,Option.getD_some,cs_mem,fl_mem,hx,true_and,Bool.decide_eq_true]
theorem Ord.congr {n:Nat} {le le':Nat→Nat→Bool} (e:∀ x y,x<n→y<n→le x y=le' x y) (h:Ord n le):Ord n le' where
 refl x hx:=by rw[← e x x hx hx];exact h.refl x hx
 anti x y hx hy hxy h1:=by rw[← e y x hy hx];rw[← e x y hx hy] at h1;exact h.anti x y hx hy hxy h1
 trans x y z hx hy hz h1 h2:=by
  rw[← e x z hx hz];rw[← e x y hx hy] at h1;rw[← e y z hy hz] at h2
  exact h.trans x y z hx hy hz h1 h2
theorem vbll {n:Nat} {le:Nat→Nat→Bool}:Good (pos n le)↔n≤10∧Ord n le:=by
 have e:∀ x y,x<n→y<n→leP (pos n le) x y=le x y:=fun x y hx hy=>vazj hx hy
 constructor
 ·intro h
  have h1:=h.len;have h2:=h.ord
  rw[vah] at h1 h2
  exact⟨h1,h2.congr e⟩
 ·intro h
  refine⟨by rw[vah];exact h.1,vaup n le, ?_⟩
  rw[vah]
  exact h.2.congr fun x y hx hy=>(e x y hx hy).symm
theorem Good.form {p:PT} (h:Good p):p=pos p.1.length (leP p):=varn h.rows
theorem vxn {n:Nat} (h:n≤4294967296):V22 big (n:Int)=some (mkT n fun _ _=>false,()):=by
 unfold V22 vbbs
 rw[vayg h,Option.bind_some,Option.bind_some,cdt (by omega),mkR_len]
 refine vbsb n (fun i o=>o=mkR n fun x=>if x<i then mkR n fun _=>false else []) (by omega) ?_ ?_ 0 (by omega) _ (by simp)
 ·intro rc i o hi hv ih
  unfold vqo
  rw[cdt (by omega),vayg h,Option.bind_some,Option.bind_some,cdt (by omega),hv,vae hi,Option.bind_some,Int.toNat_natCast,vdd hi,Option.bind_some,wr1 (by omega)]
  refine ih _ ?_
  rw[vaiz]
  refine vck fun x hx => ?_
  by_cases h1:x=i
  ·rw[if_pos h1,if_pos (by omega)]
  ·rw[if_neg h1]
   by_cases h2:x<i
   ·rw[if_pos h2,if_pos (by omega)]
   ·rw[if_neg h2,if_neg (by omega)]
 ·intro rc o hv
  unfold vqo
  rw[cdf (by omega),hv,vop]
  congr 2
  exact vck fun x hx=>by rw[if_pos hx]
theorem vbby {n:Nat} {le:Nat→Nat→Bool} (hn:n≤4294967296):V25 big (mkT n le)=some (tv (Ord n le),()):=by
 unfold V25 vbck
 rw[mkR_len]
 refine vbtx n (fun i=>∀ x,x<i→le x x=true∧(∀ y,y<n→(x≠y→le x y=true→le y x=false)∧∀ z,z<n→le x y=true→le y z=true→le x z=true)) (by omega) ?_ ?_ 0 (by omega) (by intro x hx;omega)
 ·intro rc i hi hv ih
  unfold vqi
  rw[cdt (by omega),vae hi,Option.bind_some,vae hi,Option.bind_some,mkR_len]
  cases h0:le i i with
  | false =>
   rw[tv_f fun h=>by rw[h.refl i hi] at h0;cases h0]
   rfl
  | true =>
   rw[Bool.not_true,cond_false]
   refine vbue n (fun j=>∀ y,y<j→(i≠y→le i y=true→le y i=false)∧∀ z,z<n→le i y=true→le y z=true→le i z=true) (by omega) ?_ ?_ 0 (by omega) (by intro x hx;omega)
   ·intro rc2 j hj hv2 ih2
    have inn:(i≠j→le i j=true→le j i=false)→vir big rc2 (veh rc) (mkT n le) (i:Int) (j:Int) (n:Int) (i:Int) (n:Int) (j:Int) (n:Int) ((0:Nat):Int)=some (tv (Ord n le),()):=by
     intro hij
     refine vbok n (fun k=>∀ z,z<k→le i j=true→le j z=true→le i z=true) (by omega) ?_ ?_ 0 (by omega) (by intro x hx;omega)
     ·intro rc3 k hk hv3 ih3
      unfold viv
      simp only[cdt (show (k:Int)<(n:Int) by omega),vae hi,vae hj,vae hk,Option.bind_some,wr1 (show k≤4611686018427387904 by omega)]
      cases h1:le i j with
      | false=>exact ih3 (all_lt_succ.2 ⟨hv3,by intro h;rw[h1] at h;cases h⟩)
      | true =>
       cases h2:le j k with
       | false=>exact ih3 (all_lt_succ.2 ⟨hv3,by intro _ h;rw[h2] at h;cases h⟩)
       | true =>
        cases h3:le i k with
        | false =>
         rw[tv_f fun h=>by rw[h.trans i j k hi hj hk h1 h2] at h3;cases h3]
         rfl
        | true=>exact ih3 (all_lt_succ.2 ⟨hv3,fun _ _=>h3⟩)
     ·intro rc3 hv3
      unfold viv
      rw[cdf (by omega),viw,wr1 (by omega)]
      exact ih2 (all_lt_succ.2 ⟨hv2,hij,hv3⟩)
    unfold vpo
    rw[cdt (by omega),vae hi,Option.bind_some,vae hj,Option.bind_some,vae hj,Option.bind_some,vae hi,Option.bind_some,mkR_len]
    by_cases hij:i=j
    ·rw[cdf (by omega)]
     exact inn fun h=>absurd hij h
    ·rw[cdt (by omega)]
     cases h1:le i j with
     | false=>exact inn fun _ h=>by rw[h1] at h;cases h
     | true =>
      cases h2:le j i with
      | false=>exact inn fun _ _=>h2
      | true =>
       rw[tv_f fun h=>by rw[h.anti i j hi hj hij h1] at h2;cases h2]
       rfl
   ·intro rc2 hv2
    unfold vpo
    rw[cdf (by omega),veh,wr1 (by omega)]
    exact ih (all_lt_succ.2 ⟨hv,h0,hv2⟩)
 ·intro rc hv
  unfold vqi
  rw[cdf (by omega),vfu,tv_t]
  exact⟨fun x hx=>(hv x hx).1,fun x y hx hy=>((hv x hx).2 y hy).1,fun x y z hx hy hz=>((hv x hx).2 y hy).2 z hz⟩
theorem vayf {α:Type} {n:Nat} {f:Nat→Nat→α} {x y:Nat} {v:α}:(mkT n f).set x ((mkR n (f x)).set y v)=mkT n fun a b=>if a=x∧b=y then v else f a b:=by
 rw[vaiz]
 refine vck fun a ha => ?_
 by_cases h:a=x
 ·subst h
  rw[if_pos rfl,vaiz]
  exact vck fun b hb=>by simp
 ·rw[if_neg h]
  exact vck fun b hb=>by simp[h]
theorem vaea (p:PT) (hl:p.1.length≤10) (hx:∀ r∈p.1,r.length≤4294967296) :
  V26 big p=some (@ite _ (∀ r∈p.1,isSetB p.1.length r=true) (Classical.propDecidable _) (mkT p.1.length (leP p),tv (Ord p.1.length (leP p)),()) ([],false,()),()):=by
 unfold V26 vapi
 generalize hn:p.1.length=n
 rw[cdf (by omega),vxn (by omega),Option.bind_some]
 refine vbsu n (fun i o=>(∀ j,j<i→∀ (h:j<p.1.length),isSetB n p.1[j]=true)∧o=mkT n fun a b=>decide (b<i) && leP p a b) (by omega) ?_ ?_ 0 (by omega) _ ⟨by intro j hj;omega,vap fun a b _ _=>by simp⟩
 ·intro rc i o hi hv ih
  obtain⟨hv1,hv2⟩:=hv
  unfold vqy
  have hip:i<p.1.length:=by omega
  have hrow:=hx _ (List.getElem_mem hip)
  rw[cdt (by omega),vag _ i hip,Option.bind_some,vbkp _ (by omega),Option.bind_some]
  cases h1:risingB p.1[i] with
  | false =>
   rw[if_neg fun h=>by have:=h _ (List.getElem_mem hip);unfold isSetB at this;rw[h1,Bool.and_false] at this;cases this]
   rfl
  | true =>
   rw[Bool.not_true,cond_false,vbef n _ (by omega),Option.bind_some]
   cases h2:p.1[i].all (inB n) with
   | false =>
    rw[if_neg fun h=>by have:=h _ (List.getElem_mem hip);unfold isSetB at this;rw[h2,Bool.false_and] at this;cases this]
    rfl
   | true =>
    rw[Bool.not_true,cond_false]
    have hset:isSetB n p.1[i]=true:=by unfold isSetB;rw[h1,h2];rfl
    have hle:∀ a,leP p a i=decide ((a:Int)∈p.1[i]):=by intro a;unfold leP;simp[hip]
    have hform:=vali hset
    have hS:∀ a,a∈fl n (fun x=>decide ((x:Int)∈p.1[i]))↔a<n∧leP p a i=true:=by
     intro a;rw[fl_mem,hle]
    generalize fl n (fun x=>decide ((x:Int)∈p.1[i]))=S at hform hS
    rw[hform,cs_len]
    refine vbqa S.length (fun k o=>o=mkT n fun a b=>if b<i then leP p a b else decide (b=i∧a∈S.take k)) ?_ ?_ ?_ 0 (by omega) _ ?_
    ·have:=congrArg List.length hform
     rw[cs_len] at this
     have:=hx _ (List.getElem_mem hip)
     omega
    ·intro rc2 k o2 hk hv3 ih2
     have hkn:S[k]<n:=((hS _).1 (List.getElem_mem hk)).1
     have hkS:S.length≤4294967296:=by have:=congrArg List.length hform;rw[cs_len] at this;omega
     unfold vjc
     simp only[cdt (show (k:Int)<(S.length:Int) by omega),vbh hk,Option.bind_some,hv3,vae hkn,Int.toNat_natCast,vdd hkn,vae hi,vdd hi,wr1 (show k≤4611686018427387904 by omega)]
     refine ih2 _ ?_
     rw[vayf]
     refine vap fun a b _ _ => ?_
     by_cases hb:b<i
     ·rw[if_pos hb,if_pos hb,if_neg (by omega)]
     ·rw[if_neg hb,if_neg hb]
      simp only[vaoh hk]
      by_cases hbi:b=i
      ·by_cases ha:a=S[k]
       ·simp[hbi,ha]
       ·simp[hbi,ha]
      ·simp[hbi]
    ·intro rc2 o2 hv3
     unfold vjc
     rw[cdf (by omega),vja,wr1 (by omega)]
     refine ih _ ⟨fun j hj hjp => ?_, ?_⟩
     ·rcases Nat.lt_or_ge j i with h | h
      ·exact hv1 j h hjp
      ·have:j=i:=by omega
       subst this;exact hset
     ·rw[hv3]
      refine vap fun a b ha _ => ?_
      by_cases hb:b<i
      ·rw[if_pos hb];simp[show b<i+1 by omega]
      ·rw[if_neg hb,List.take_length]
       by_cases hbi:b=i
       ·subst hbi
        rw[decide_eq_true (show b<b+1 by omega),Bool.true_and]
        cases h:leP p a b with
        | true=>exact decide_eq_true ⟨rfl,(hS a).2 ⟨ha,h⟩⟩
        | false=>exact decide_eq_false fun h3=>by rw[((hS a).1 h3.2).2] at h;cases h
       ·simp[hbi,show ¬ b<i+1 by omega]
    ·rw[hv2]
     refine vap fun a b _ _ => ?_
     by_cases hb:b<i
     ·simp[hb]
     ·simp[hb]
 ·intro rc o hv
  obtain⟨hv1,hv2⟩:=hv
  unfold vqy
  have ho:o=mkT n (leP p):=by rw[hv2];exact vap fun a b _ hb=>by simp[hb]
  rw[cdf (by omega),vfo,ho,vbby (by omega),Option.bind_some,if_pos]
  intro r hr
  obtain⟨j,hj,e⟩:=List.getElem_of_mem hr
  exact e ▸ hv1 j (by omega) hj
theorem vaxa (p:PT) (hl:¬ p.1.length≤10):V26 big p=some (([],false,()),()):=by
 unfold V26 vapi
 rw[cdt (by omega)]
theorem vbav (p:PT) (hx:∀ r∈p.1,r.length≤4294967296) (h:¬ Good p):∃ T,V26 big p=some ((T,false,()),()):=by
 by_cases hl:p.1.length≤10
 ·rw[vaea p hl hx]
  by_cases hr:∀ r∈p.1,isSetB p.1.length r=true
  ·rw[if_pos hr,tv_f fun ho=>h ⟨hl,hr,ho⟩]
   exact⟨_,rfl⟩
  ·rw[if_neg hr]
   exact⟨_,rfl⟩
 ·exact⟨_,vaxa p hl⟩
theorem vxm {n:Nat} {le:Nat→Nat→Bool} (hn:n≤10) (ho:Ord n le):V26 big (pos n le)=some ((mkT n le,true,()),()):=by
 have e:∀ x y,x<n→y<n→leP (pos n le) x y=le x y:=fun x y hx hy=>vazj hx hy
 rw[vaea _ (by rw[vah];exact hn) ?_,if_pos (vaup n le),vah,tv_t (ho.congr fun x y hx hy=>(e x y hx hy).symm)]
 ·congr 3
  exact vap fun x y hx hy=>e x y hx hy
 ·intro r hr
  obtain⟨i,_,h⟩:=mkR_mem.1 hr
  rw[← h,cs_len]
  have:=vbk n fun x=>le x i
  omega
theorem vnz {n x:Nat} {le:Nat→Nat→Bool} (hx:x<n):atI (pos n le).1 (x:Int)=some (cs (fl n fun a=>le a x)):=vae hx
theorem vdy {n x y:Nat} {le:Nat→Nat→Bool} (hn:n≤4294967296) (hx:x<n) (hy:y<n):V15 (pos n le) (x:Int) (y:Int)=some (le x y,()):=by
 unfold V15 vbmo
 have:=vbk n fun a=>le a y
 rw[vnz hy,Option.bind_some,vxy _ _ (by omega),Option.bind_some]
 congr 2
 rw[Bool.eq_iff_iff,decide_eq_true_eq,fl_mem]
 simp[hx]
theorem vamh {n:Nat} {P Q:Nat→Bool} (hn:n≤4294967296):V41 big (cs (fl n P)) (cs (fl n Q))=some (tv (∀ x,x<n→P x=true→Q x=true),()):=by
 have h1:=vbk n P
 have h2:=vbk n Q
 rw[vawq _ _ (by rw[cs_len];omega) (by rw[cs_len];omega)]
 congr 2
 refine vcv ⟨fun h x hx hp => ?_,fun h x hx => ?_⟩
 ·exact (fl_mem.1 (cs_mem.1 (h _ (cs_mem.2 (fl_mem.2 ⟨hx,hp⟩))))).2
 ·unfold cs at hx
  obtain⟨y,hy,e⟩:=List.mem_map.1 hx
  have:=fl_mem.1 hy
  rw[← e]
  exact cs_mem.2 (fl_mem.2 ⟨this.1,h y this.1 this.2⟩)
theorem vaue (p:PT) (hx:∀ r∈p.1,r.length≤4294967296):V42 big p=some (tv (Good p),()):=by
 unfold V42 vbbe
 by_cases hl:p.1.length≤10
 ·generalize hn:p.1.length=n
  rw[cdf (by omega)]
  refine vbub n (fun i=>∀ j,j<i→∀ (h:j<p.1.length),isSetB n p.1[j]=true∧leP p j j=true) (by omega) ?_ ?_ 0 (by omega) (by intro j hj;omega)
  ·intro rc i hi hv ih
   have hip:i<p.1.length:=by omega
   have hrow:=hx _ (List.getElem_mem hip)
   have hle:∀ a,leP p a i=decide ((a:Int)∈p.1[i]):=by intro a;unfold leP;simp[hip]
   unfold vqx
   rw[cdt (by omega),vag _ i hip,Option.bind_some,wr (by omega) (by omega),vaol n _ (by omega) (by omega),Option.bind_some]
   cases h1:isSetB n p.1[i] with
   | false =>
    rw[tv_f fun h=>by have:=h.rows _ (List.getElem_mem hip);rw[hn,h1] at this;cases this]
    rfl
   | true =>
    rw[Bool.not_true,cond_false,Option.bind_some,vrd _ _ hrow,Option.bind_some,← hle]
    cases h2:leP p i i with
    | false =>
     rw[tv_f fun h=>by have:=h.ord.refl i hip;rw[h2] at this;cases this]
     rfl
    | true =>
     rw[Bool.not_true,cond_false,wr1 (by omega)]
     refine ih fun j hj hjp => ?_
     rcases Nat.lt_or_ge j i with h | h
     ·exact hv j h hjp
     ·have:j=i:=by omega
      subst this;exact⟨h1,h2⟩
  ·intro rc hv
   unfold vqx
   rw[cdf (by omega),vqf]
   have hrows:∀ r∈p.1,isSetB p.1.length r=true:=by
    intro r hr
    obtain⟨j,hj,e⟩:=List.getElem_of_mem hr
    rw[hn]
    exact e ▸ (hv j (by omega) hj).1
   have hform:=varn hrows
   have hrefl:∀ x,x<n→leP p x x=true:=fun x hxn=>(hv x hxn (by omega)).2
   generalize leP p=le at hform hrefl
   rw[hn] at hform
   subst hform
   rw[vcv vbll]
   refine vbnd n (fun i=>∀ x,x<i→∀ y,y<n→le y x=true→(y≠x→le x y=false)∧∀ z,z<n→le z y=true→le z x=true) (by omega) ?_ ?_ 0 (by omega) (by intro j hj;omega)
   ·intro rc2 i hi hv2 ih2
    unfold viq
    rw[cdt (by omega)]
    have hS:∀ a,a∈fl n (fun a=>le a i)↔a<n∧le a i=true:=fun a=>fl_mem
    have hSl:=vbk n fun a=>le a i
    refine vbqu (fl n fun a=>le a i).length (fun k=>∀ y∈(fl n fun a=>le a i).take k,(y≠i→le i y=false)∧∀ z,z<n→le z y=true→le z i=true) (by omega) ?_ ?_ 0 (by omega) (by simp)
    ·intro rc3 k hk hv3 ih3
     have hk2:=(hS _).1 (List.getElem_mem hk)
     have hk3:=vbh hk
     have hk4:∀ {P:Nat→Prop},(∀ y∈(fl n fun a=>le a i).take (k+1),P y)↔_:=vby hk
     unfold viu
     generalize (fl n fun a=>le a i)[k]=y at hk2 hk3 hk4
     have hkl:=vbk n fun a=>le a y
     simp only[vnz hi,Option.bind_some,cs_len,cdt (show (k:Int)<((fl n fun a=>le a i).length:Int) by omega),hk3,vnz hk2.1,vxy (fl n fun a=>le a y) i (by omega),vamh (P:=fun a=>le a y) (Q:=fun a=>le a i) (show n≤4294967296 by omega),wr1 (show k≤4611686018427387904 by omega)]
     have e1:decide (i∈fl n fun a=>le a y)=le i y:=by
      rw[Bool.eq_iff_iff,decide_eq_true_eq,fl_mem];simp[hi]
     rw[e1]
     have key:(y≠i→le i y=false)→cond (!tv (∀ x,x<n→le x y=true→le x i=true)) (some (false,())) (rc3 (pos n le) (n:Int) (i:Int) ((k+1:Nat):Int))=some (tv (n≤10∧Ord n le),()):=by
      intro h1
      by_cases h2:∀ x,x<n→le x y=true→le x i=true
      ·rw[tv_t h2]
       exact ih3 (hk4.2 ⟨hv3,h1,h2⟩)
      ·rw[tv_f h2,tv_f fun h=>h2 fun x hxn h3=>h.2.trans _ _ _ hxn hk2.1 hi h3 hk2.2]
       rfl
     by_cases h1:y=i
     ·rw[cdf (by omega)]
      exact key fun h=>absurd h1 h
     ·rw[cdt (by omega)]
      cases h2:le i y with
      | true =>
       rw[tv_f (P:=n≤10∧Ord n le) fun h=>by rw[h.2.anti _ _ hk2.1 hi h1 hk2.2] at h2;cases h2]
       rfl
      | false =>
       rw[cond_false]
       exact key fun _=>h2
    ·intro rc3 hv3
     rw[List.take_length] at hv3
     unfold viu
     rw[vnz hi,Option.bind_some,cs_len,cdf (by omega),viz,wr1 (by omega)]
     exact ih2 (all_lt_succ.2 ⟨hv2,fun y hy hyi=>hv3 y ((hS y).2 ⟨hy,hyi⟩)⟩)
   ·intro rc2 hv2
    unfold viq
    rw[cdf (by omega),vcx,tv_t]
    refine⟨by rw[vah] at hl;exact hl,fun x hx=>hrefl x hx,fun x y hx hy hxy h=>((hv2 y hy x hx h).1 hxy),fun x y z hx hy hz h1 h2=>(hv2 z hz y hy h2).2 x hx h1⟩
 ·rw[cdt (by omega),tv_f fun h=>hl h.len]
abbrev du (le:Nat→Nat→Bool):Nat→Nat→Bool:=fun x y=>le y x
def low (n:Nat) (le:Nat→Nat→Bool) (S:List Nat):List Nat:=fl n fun z=>S.all fun s=>le z s
def grt (le:Nat→Nat→Bool) (L:List Nat):Int:=match L.find? fun x=>L.all fun y=>le y x with
 | some x=>(x:Int)
 | none => -1
def bnd (n:Nat) (le:Nat→Nat→Bool) (S:List Nat):Int:=grt le (low n le S)
structure IsGlb (n:Nat) (le:Nat→Nat→Bool) (S:List Nat) (m:Nat):Prop where
 lt:m<n
 lo:∀ s∈S,le m s=true
 gr:∀ z,z<n→(∀ s∈S,le z s=true)→le z m=true
theorem low_mem {n:Nat} {le:Nat→Nat→Bool} {S:List Nat} {z:Nat}:z∈low n le S↔z<n∧∀ s∈S,le z s=true:=by
 unfold low
 rw[fl_mem,List.all_eq_true]
theorem vaai {n:Nat} {le:Nat→Nat→Bool} {S:List Nat} (h:0≤bnd n le S):IsGlb n le S (bnd n le S).toNat:=by
 unfold bnd grt at *
 cases hf:(low n le S).find? fun x=>(low n le S).all fun y=>le y x with
 | none=>rw[hf] at h;exact absurd h (by decide)
 | some x =>
  have h1:=List.find?_some hf
  have h2:=low_mem.1 (List.mem_of_find?_eq_some hf)
  simp only[Int.toNat_natCast]
  exact⟨h2.1,h2.2,fun z hz hs=>List.all_eq_true.1 h1 z (low_mem.2 ⟨hz,hs⟩)⟩
theorem vbaz {n:Nat} {le:Nat→Nat→Bool} (ho:Ord n le) {S:List Nat} {m k:Nat} (h:IsGlb n le S m) (h2:IsGlb n le S k):m=k:=by
 by_cases e:m=k
 ·exact e
 ·have h3:=h.gr k h2.lt h2.lo
  have h4:=h2.gr m h.lt h.lo
  have:=ho.anti m k h.lt h2.lt e h4
  rw[this] at h3;cases h3
theorem vsa {n:Nat} {le:Nat→Nat→Bool} (ho:Ord n le) {S:List Nat} {m:Nat} (h:IsGlb n le S m):bnd n le S=(m:Int):=by
 have h0:0≤bnd n le S:=by
  unfold bnd grt
  cases hf:(low n le S).find? fun x=>(low n le S).all fun y=>le y x with
  | none =>
   have:=List.find?_eq_none.1 hf m (low_mem.2 ⟨h.lt,h.lo⟩)
   exact absurd (List.all_eq_true.2 fun y hy=>h.gr y (low_mem.1 hy).1 (low_mem.1 hy).2) this
  | some x=>simp
 have:=vbaz ho (vaai h0) h
 omega
theorem vaxc {n:Nat} {le:Nat→Nat→Bool} {L:List Nat} (hL:∀ x∈L,x<n) (hl:L.length≤4294967296):V27 big (mkT n le) (cs L)=some (grt le L,()):=by
 unfold V27 vbao
 rw[cs_len]
 refine vbse L.length (fun i=>∀ x∈L.take i,¬ (L.all fun y=>le y x)=true) (by omega) ?_ ?_ 0 (by omega) (by simp)
 ·intro rc i hi hv ih
  have hx:=hL _ (List.getElem_mem hi)
  have hh := @vaqi _ L (fun x=>L.all fun y=>le y x) i hi hv
  have hn:=fun h=>ih ((vby hi).2 ⟨hv,h⟩)
  unfold vpj
  rw[cdt (by omega),vbh hi,Option.bind_some,cs_len]
  generalize L[i]=x at hx hh hn
  refine vbsg L.length (fun k b=>b=(L.take k).all fun y=>le y x) (by omega) ?_ ?_ 0 (by omega) _ rfl
  ·intro rc2 k b hk hb ih2
   have hy:=hL _ (List.getElem_mem hk)
   have ht := @vavx _ L k hk fun y=>le y x
   have ha:=vbh hk
   unfold vpw
   rw[cdt (by omega),ha,Option.bind_some,wr1 (by omega)]
   generalize L[k]=y at hy ht
   cases b with
   | false=>exact ih2 _ (by rw[ht,← hb];rfl)
   | true =>
    rw[cond_true,vae hy,Option.bind_some,vae hx,Option.bind_some]
    exact ih2 _ (by rw[ht,← hb];rfl)
  ·intro rc2 b hb
   rw[List.take_length] at hb
   unfold vpw
   rw[cdf (by omega),vns,hb]
   cases h:L.all fun y=>le y x with
   | true =>
    rw[cond_true]
    unfold grt
    rw[hh h]
   | false =>
    rw[cond_false,wr1 (by omega)]
    exact hn (by rw[h];simp)
 ·intro rc hv
  rw[List.take_length] at hv
  unfold vpj
  rw[cdf (by omega),vfv]
  unfold grt
  rw[List.find?_eq_none.2 hv]
theorem low2 {n:Nat} {le:Nat→Nat→Bool} {x y:Nat}:low n le [x,y]=fl n fun z=>le z x && le z y:=by
 unfold low
 congr 1;funext z;simp
theorem vbch {n:Nat} {le:Nat→Nat→Bool} (hn:n≤1048576) {x y:Nat} (hx:x<n) (hy:y<n):V29 big (mkT n le) (mkT n le,(x:Int),(y:Int),())=some (cs (low n le [x,y]),()):=by
 unfold V29 vbae
 rw[mkR_len,low2]
 refine vbsj n (fun i l=>l=cs (fl i fun z=>le z x && le z y)) (by omega) ?_ ?_ 0 (by omega) _ rfl
 ·intro rc i l hi hv ih
  have hl:=vbk i fun z=>le z x && le z y
  unfold vpt V28 vbmc
  simp only[cdt (show (i:Int)<(n:Int) by omega),vae hi,vae hx,vae hy,Option.bind_some,wr1 (show i≤4611686018427387904 by omega)]
  cases h1:le i x with
  | false=>exact ih _ (by rw[hv];exact fl_f (P:=fun z=>le z x && le z y) (by simp[h1]))
  | true =>
   simp only[cond_true,Option.bind_some]
   cases h2:le i y with
   | false=>exact ih _ (by rw[hv];exact fl_f (P:=fun z=>le z x && le z y) (by simp[h1,h2]))
   | true =>
    rw[cond_true,app1 (by rw[hv,cs_len];omega),Option.bind_some]
    exact ih _ (by rw[hv];exact fl_t (P:=fun z=>le z x && le z y) (by simp[h1,h2]))
 ·intro rc l hv
  unfold vpt
  rw[cdf (by omega),vpk,hv]
theorem vbix {n:Nat} {le:Nat→Nat→Bool} {S:List Nat}:∀ x∈low n le S,x<n:=fun x hx=>(low_mem.1 hx).1
theorem vaxr {n:Nat} {le:Nat→Nat→Bool} {S:List Nat}:(low n le S).length≤n:=vbk _ _
theorem vdz {n:Nat} {le:Nat→Nat→Bool} (hn:n≤1048576):V30 big (mkT n le)=some (@ite _ (∀ x y,x<n→y<n→0≤bnd n le [x,y]) (Classical.propDecidable _) (mkT n fun x y=>bnd n le [x,y],true,()) ([],false,()),()):=by
 unfold V30 vbcy
 rw[mkR_len]
 refine vbtq n (fun i t=>t=(mkR i fun x=>mkR n fun y=>bnd n le [x,y])∧∀ x,x<i→∀ y,y<n→0≤bnd n le [x,y]) (by omega) ?_ ?_ 0 (by omega) _ ⟨rfl,by intro x hx;omega⟩
 ·intro rc i t hi hv ih
  unfold vqk
  rw[cdt (by omega),mkR_len]
  refine vbsf n (fun j r=>r=(mkR j fun y=>bnd n le [i,y])∧∀ y,y<j→0≤bnd n le [i,y]) (by omega) ?_ ?_ 0 (by omega) _ ⟨rfl,by intro x hx;omega⟩
  ·intro rc2 j r hj hr ih2
   unfold vnv
   rw[cdt (by omega),vbch hn hi hj,Option.bind_some,vaxc vbix (by have := @vaxr n le [i,j];omega),Option.bind_some]
   show cond (decide (bnd n le [i,j]<0)) _ ((appI r [bnd n le [i,j]]).bind _)=_
   by_cases h:0≤bnd n le [i,j]
   ·rw[cdf (by omega),app1 (by rw[hr.1,mkR_len];omega),Option.bind_some,wr1 (by omega)]
    exact ih2 _ ⟨by rw[hr.1];exact (vye j _).symm,all_lt_succ.2 ⟨hr.2,h⟩⟩
   ·rw[cdt (by omega),if_neg fun h2=>h (h2 i j hi hj)]
  ·intro rc2 r hr
   unfold vnv
   rw[cdf (by omega),vpp,app1 (by rw[hv.1,mkR_len];omega),Option.bind_some,wr1 (by omega)]
   refine ih _ ⟨?_,all_lt_succ.2 ⟨hv.2,hr.2⟩⟩
   rw[hv.1,hr.1]
   exact (vye i fun x=>mkR n fun y=>bnd n le [x,y]).symm
 ·intro rc t hv
  unfold vqk
  rw[cdf (by omega),vhn,if_pos fun x y hx hy=>hv.2 x hx y hy,hv.1]
theorem vayn {n:Nat} {le:Nat→Nat→Bool} (hn:n≤1048576):V31 big (mkT n le)=some (mkT n (du le),()):=by
 unfold V31 vbbz
 rw[mkR_len,vxn (by omega),Option.bind_some]
 refine vbrt n (fun i d=>d=mkT n fun a b=>decide (a<i) && le b a) (by omega) ?_ ?_ 0 (by omega) _ (vap fun a b _ _=>by simp)
 ·intro rc i d hi hv ih
  unfold voe
  rw[cdt (by omega),mkR_len]
  refine vbuf n (fun j d=>d=mkT n fun a b=>(decide (a<i) || decide (a=i) && decide (b<j)) && le b a) (by omega) ?_ ?_ 0 (by omega) _ (by rw[hv];exact vap fun a b _ _=>by simp)
  ·intro rc2 j d2 hj hv2 ih2
   unfold vnx
   generalize hf:(fun a b=>(decide (a<i) || decide (a=i) && decide (b<j)) && le b a)=f at hv2
   simp only[cdt (show (j:Int)<(n:Int) by omega),hv2,vae hi,vdd hi,Option.bind_some,vae hj,vdd hj,Int.toNat_natCast,wr1 (show j≤4611686018427387904 by omega)]
   refine ih2 _ ?_
   rw[vayf,← hf]
   refine vap fun a b _ _ => ?_
   by_cases h1:a=i
   ·subst h1
    by_cases h2:b=j
    ·subst h2;simp
    ·rw[if_neg fun h=>h2 h.2,show decide (b<j+1)=decide (b<j) from decide_eq_decide.2 (by omega)]
   ·rw[if_neg fun h=>h1 h.1];simp[h1]
  ·intro rc2 d2 hv2
   unfold vnx
   rw[cdf (by omega),vpu,wr1 (by omega)]
   refine ih _ ?_
   rw[hv2]
   refine vap fun a b _ hb => ?_
   congr 1
   rw[decide_eq_true hb,Bool.and_true,← Bool.decide_or]
   exact decide_eq_decide.2 (by omega)
 ·intro rc d hv
  unfold voe
  rw[cdf (by omega),vhr,hv]
  congr 2
  exact vap fun a b ha _=>by simp[ha]
structure Lat (n:Nat) (le:Nat→Nat→Bool):Prop where
 ne:0<n
 meet:∀ x y,x<n→y<n→0≤bnd n le [x,y]
 join:∀ x y,x<n→y<n→0≤bnd n (du le) [x,y]
def mt (n:Nat) (le:Nat→Nat→Bool) (x y:Nat):Nat:=(bnd n le [x,y]).toNat
def gb (n:Nat) (le:Nat→Nat→Bool) (S:List Nat):Nat:=(bnd n le S).toNat
def lat (n:Nat) (le:Nat→Nat→Bool):List (List Bool)×List (List Int)×List (List Int)×Unit :=
 (mkT n le,mkT n (fun x y=>((mt n le x y:Nat):Int)),mkT n (fun x y=>((mt n (du le) x y:Nat):Int)),())
structure LatP (n:Nat) (le:Nat→Nat→Bool):Prop where
 le10:n≤10
 ord:Ord n le
 lat:Lat n le
theorem vat {n:Nat} {le:Nat→Nat→Bool} (h:LatP n le):V32 (pos n le)=some ((some (lat n le),true,()),()):=by
 have h10:=h.le10
 have h0:=h.lat.ne
 unfold V32 vapg
 simp only[vxm h.le10 h.ord,Option.bind_some,Bool.not_true,cond_false,mkR_len,cdf (show ¬ ((n:Int)=0) by omega),vdz (le:=le) (show n≤1048576 by omega),vayn (le:=le) (show n≤1048576 by omega),vdz (le:=du le) (show n≤1048576 by omega)]
 rw[if_pos h.lat.meet,if_pos h.lat.join]
 simp only[cond_true]
 have e1:(mkT n fun x y=>bnd n le [x,y])=mkT n fun x y=>((mt n le x y:Nat):Int):=vap fun x y hx hy=>by
  have:=h.lat.meet x y hx hy
  unfold mt;omega
 have e2:(mkT n fun x y=>bnd n (du le) [x,y])=mkT n fun x y=>((mt n (du le) x y:Nat):Int):=vap fun x y hx hy=>by
  have:=h.lat.join x y hx hy
  unfold mt;omega
 rw[e1,e2]
 rfl
theorem varf {p:PT} (hx:∀ r∈p.1,r.length≤4294967296) (h:¬ (Good p∧Lat p.1.length (leP p))):∃ l,V32 p=some ((l,false,()),()):=by
 by_cases hg:Good p
 ·have hf:=hg.form
  have ho:=hg.ord
  have h10:=hg.len
  replace h:¬ Lat p.1.length (leP p):=fun hl=>h ⟨hg,hl⟩
  generalize p.1.length=n at *
  generalize leP p=le at *
  subst hf
  unfold V32 vapg
  simp only[vxm h10 ho,Option.bind_some,Bool.not_true,cond_false,mkR_len,vdz (le:=le) (show n≤1048576 by omega),vayn (le:=le) (show n≤1048576 by omega),vdz (le:=du le) (show n≤1048576 by omega)]
  by_cases h0:n=0
  ·rw[cdt (by omega)]
   exact⟨_,rfl⟩
  ·rw[cdf (by omega)]
   by_cases h1:∀ x y,x<n→y<n→0≤bnd n le [x,y]
   ·rw[if_pos h1]
    by_cases h2:∀ x y,x<n→y<n→0≤bnd n (du le) [x,y]
    ·exact absurd ⟨by omega,h1,h2⟩ h
    ·rw[if_neg h2]
     exact⟨_,rfl⟩
   ·rw[if_neg h1]
    exact⟨_,rfl⟩
 ·obtain⟨T,hT⟩:=vbav p hx hg
  unfold V32 vapg
  rw[hT,Option.bind_some]
  exact⟨_,rfl⟩
theorem vmd {n:Nat} {le:Nat→Nat→Bool} (hn:n≤1048576):V43 big (pos n le)=some (pos n (du le),()):=by
 unfold V43 vbdj
 refine vbtv n (fun i o=>o.1=mkR i fun y=>cs (fl n fun x=>le y x)) (by omega) ?_ ?_ 0 (by omega) _ rfl
 ·intro rc i o hi hv ih
  unfold von
  rw[vah,cdt (by omega)]
  refine vbrq n (fun j l=>l=cs (fl j fun x=>le i x)) (by omega) ?_ ?_ 0 (by omega) _ rfl
  ·intro rc2 j l hj hl ih2
   have hlen:=vbk j fun x=>le i x
   unfold vno
   rw[vah,cdt (by omega),vdy (by omega) hi hj,Option.bind_some,wr1 (by omega)]
   cases h:le i j with
   | true =>
    rw[cond_true,app1 (by rw[hl,cs_len];omega),Option.bind_some]
    exact ih2 _ (by rw[hl];exact fl_t (P:=fun x=>le i x) h)
   | false=>exact ih2 _ (by rw[hl];exact fl_f (P:=fun x=>le i x) h)
  ·intro rc2 l hl
   unfold vno
   rw[vah,cdf (by omega),vpg,app1 (by rw[hv,mkR_len];omega),Option.bind_some,wr1 (by omega)]
   exact ih _ (by rw[hl];show o.1++_=_;rw[hv];exact (vye i fun y=>cs (fl n fun x=>le y x)).symm)
 ·intro rc o hv
  unfold von
  rw[vah,cdf (by omega),vfz]
  unfold pos
  congr 2
  exact Prod.ext hv rfl
theorem vbz {n:Nat} {le:Nat→Nat→Bool} (hn:n≤1048576) {S:List Nat} (hS:∀ s∈S,s<n) (hSl:S.length≤4294967296):V44 big (pos n le) (cs S)=some (bnd n le S,()):=by
 unfold V44 vbax
 refine vbtk n (fun i l=>l=cs (fl i fun z=>S.all fun s=>le z s)) (by omega) ?_ ?_ 0 (by omega) _ rfl
 ·intro rc i l hi hv ih
  have hlen:=vbk i fun z=>S.all fun s=>le z s
  unfold vpq
  rw[vah,cdt (by omega)]
  refine vbtj S.length (fun k b=>b=(S.take k).all fun s=>le i s) (by omega) ?_ ?_ 0 (by omega) _ rfl
  ·intro rc2 k b hk hb ih2
   have hs:=hS _ (List.getElem_mem hk)
   have ht := @vavx _ S k hk fun s=>le i s
   have ha:=vbh hk
   unfold vor
   rw[cs_len,cdt (by omega),ha,Option.bind_some,wr1 (by omega)]
   generalize S[k]=s at hs ht
   rw[vdy (by omega) hi hs,Option.bind_some]
   cases b with
   | true=>exact ih2 _ (by rw[ht,← hb];rfl)
   | false=>exact ih2 _ (by rw[ht,← hb];rfl)
  ·intro rc2 b hb
   rw[List.take_length] at hb
   unfold vor
   rw[cs_len,cdf (by omega),vqe,wr1 (by omega)]
   cases b with
   | true =>
    rw[cond_true,app1 (by rw[hv,cs_len];omega),Option.bind_some]
    exact ih _ (by rw[hv];exact fl_t (P:=fun z=>S.all fun s=>le z s) hb.symm)
   | false=>exact ih _ (by rw[hv];exact fl_f (P:=fun z=>S.all fun s=>le z s) hb.symm)
 ·intro rc l hv
  unfold vpq
  rw[vah,cdf (by omega),vhs]
  replace hv:l=cs (low n le S):=hv
  rw[hv]
  have hll := @vaxr n le S
  unfold bnd
  have hlt := @vbix n le S
  have hfl:low n le S=fl n fun z=>S.all fun s=>le z s:=rfl
  have hw:∀ x,x<n→V41 big (cs (low n le S)) (cs (fl n fun a=>le a x))=some ((low n le S).all fun y=>le y x,()):=by
   intro x hx
   rw[hfl,vamh (by omega),← hfl]
   congr 2
   exact vbuw (by rw[List.all_eq_true];exact⟨fun h y hy hp=>h y (fl_mem.2 ⟨hy,hp⟩),fun h y hy=>h y (fl_mem.1 hy).1 (fl_mem.1 hy).2⟩)
  generalize low n le S=L at *
  refine vbnz L.length (fun i=>∀ x∈L.take i,¬ (L.all fun y=>le y x)=true) (by omega) ?_ ?_ 0 (by omega) (by simp)
  ·intro rc2 i hi hv2 ih2
   have hx:=hlt _ (List.getElem_mem hi)
   have hh := @vaqi _ L (fun x=>L.all fun y=>le y x) i hi hv2
   have hn2:=fun h=>ih2 ((vby hi).2 ⟨hv2,h⟩)
   have ha:=vbh hi
   have hg:=vauu hi
   unfold vio
   simp only[cs_len,cdt (show (i:Int)<(L.length:Int) by omega),ha,Option.bind_some,Int.toNat_natCast,hg,wr1 (show i≤4611686018427387904 by omega)]
   generalize L[i]=x at hx hh hn2
   rw[vnz hx,Option.bind_some,hw x hx,Option.bind_some]
   cases h:L.all fun y=>le y x with
   | true =>
    rw[cond_true]
    unfold grt
    rw[hh h]
   | false =>
    rw[cond_false]
    exact hn2 (by rw[h];simp)
  ·intro rc2 hv2
   rw[List.take_length] at hv2
   unfold vio
   rw[cs_len,cdf (by omega),vjd]
   unfold grt
   rw[List.find?_eq_none.2 hv2]
theorem vrs {n:Nat} {le:Nat→Nat→Bool} (x y:Nat):bnd n le [x,y]=bnd n le [y,x]:=by
 unfold bnd
 congr 1
 unfold low
 congr 1;funext z;simp[Bool.and_comm]
theorem Ord.du {n:Nat} {le:Nat→Nat→Bool} (h:Ord n le):Ord n (du le) where
 refl:=h.refl
 anti x y hx hy hxy h1:=by
  have h3:le y x=true:=h1
  show le x y=false
  by_cases h2:le x y=true
  ·rw[h.anti x y hx hy hxy h2] at h3;cases h3
  ·simpa using h2
 trans x y z hx hy hz h1 h2:=h.trans z y x hz hy hx h2 h1
theorem vyb {n:Nat} {le:Nat→Nat→Bool} (ho:Ord n le) {x:Nat} (hx:x<n):bnd n le [x,x]=(x:Int) :=
 vsa ho ⟨hx,by simp[ho.refl x hx],fun z _ h=>h x (by simp)⟩
theorem vamg (p:PT) (hx:∀ r∈p.1,r.length≤4294967296):V45 big p=some (tv (Good p∧Lat p.1.length (leP p)),()):=by
 unfold V45 vbda
 rw[vaue p hx,Option.bind_some]
 by_cases hg:Good p
 ·rw[tv_t hg]
  have e:(Good p∧Lat p.1.length (leP p))↔Lat p.1.length (leP p):=⟨fun h=>h.2,fun h=>⟨hg,h⟩⟩
  rw[vcv e,Bool.not_true,cond_false]
  have hf:=hg.form
  have ho:=hg.ord
  have h10:=hg.len
  clear e hg hx
  generalize p.1.length=n at *
  generalize leP p=le at *
  subst hf
  by_cases h0:n=0
  ·rw[cdt (by omega),tv_f fun h=>by have:=h.ne;omega]
  ·rw[cdf (by omega),vmd (by omega),Option.bind_some]
   have key:∀ x y,x<n→y<n→(0≤bnd n le [x,y]↔0≤bnd n le [y,x]):=fun x y _ _=>by rw[vrs]
   refine vbsx n (fun i=>∀ x,x<i→∀ y,y<x→0≤bnd n le [x,y]∧0≤bnd n (du le) [x,y]) (by omega) ?_ ?_ 0 (by omega) (by intro x hx;omega)
   ·intro rc i hi hv ih
    unfold vnr
    rw[vah,cdt (by omega)]
    refine vbuh i (fun j=>∀ y,y<j→0≤bnd n le [i,y]∧0≤bnd n (du le) [i,y]) (by omega) ?_ ?_ 0 (by omega) (by intro x hx;omega)
    ·intro rc2 j hj hv2 ih2
     unfold vnq
     have e:([(i:Int),(j:Int)]:List Int)=cs [i,j]:=rfl
     have hS:∀ s∈[i,j],s<n:=by intro s hs;simp at hs;omega
     rw[cdt (by omega),e,vbz (by omega) hS (by simp),Option.bind_some,vbz (le:=du le) (by omega) hS (by simp),Option.bind_some]
     by_cases h1:0≤bnd n le [i,j]
     ·rw[cdf (by omega)]
      by_cases h2:0≤bnd n (du le) [i,j]
      ·rw[cdf (by omega),wr1 (by omega)]
       exact ih2 (all_lt_succ.2 ⟨hv2,h1,h2⟩)
      ·rw[cdt (by omega),tv_f fun h=>h2 (h.join i j hi (by omega))]
     ·rw[cdt (by omega),tv_f fun h=>h1 (h.meet i j hi (by omega))]
    ·intro rc2 hv2
     unfold vnq
     rw[cdf (by omega),vnu,wr1 (by omega)]
     exact ih (all_lt_succ.2 ⟨hv,hv2⟩)
   ·intro rc hv
    unfold vnr
    rw[vah,cdf (by omega),vha,tv_t]
    refine⟨by omega,fun x y hx hy => ?_,fun x y hx hy => ?_⟩
    ·rcases Nat.lt_trichotomy x y with h | h | h
     ·rw[vrs];exact (hv y hy x h).1
     ·subst h;rw[vyb ho hx];omega
     ·exact (hv x hx y h).1
    ·rcases Nat.lt_trichotomy x y with h | h | h
     ·rw[vrs];exact (hv y hy x h).2
     ·subst h;rw[vyb ho.du hx];omega
     ·exact (hv x hx y h).2
 ·rw[tv_f hg,tv_f fun h=>hg h.1]
  rfl
theorem vcf {p:PT} (hx:∀ r∈p.1,r.length≤4294967296):(∃ n le,p=pos n le∧LatP n le∧V45 big p=some (true,())∧V32 p=some ((some (lat n le),true,()),())) ∨
  (V45 big p=some (false,())∧∃ l,V32 p=some ((l,false,()),())):=by
 by_cases h:Good p∧Lat p.1.length (leP p)
 ·have hl:LatP p.1.length (leP p):=⟨h.1.len,h.1.ord,h.2⟩
  refine .inl ⟨p.1.length,leP p,h.1.form,hl,by rw[vamg p hx,tv_t h], ?_⟩
  have:=vat hl
  rw[← h.1.form] at this
  exact this
 ·exact .inr ⟨by rw[vamg p hx,tv_f h],varf hx h⟩
def SmallP (p:PT):Prop:=p.1.length≤1048576∧∀ r∈p.1,r.length≤1048576
theorem SmallP.rows {p:PT} (h:SmallP p):∀ r∈p.1,r.length≤4294967296:=fun r hr=>by have:=h.2 r hr;omega
def ls (le:Nat→Nat→Bool) (x y:Nat):Bool:=decide (x≠y) && le x y
theorem vbqo {n:Nat} {le:Nat→Nat→Bool} {x y:Nat} (hx:x<n) (hy:y<n):V36 (mkT n le) (x:Int) (y:Int)=some (ls le x y,()):=by
 unfold V36 vbme ls
 simp only[vae hx,vae hy,Option.bind_some]
 by_cases h:x=y
 ·rw[cdf (by omega),decide_eq_false (by omega)];rfl
 ·rw[cdt (by omega),decide_eq_true h];rfl
theorem vawy {n:Nat} {le:Nat→Nat→Bool} (hn:n≤4294967296) {x y:Nat} (hx:x<n) (hy:y<n):V16 (pos n le) (x:Int) (y:Int)=some (ls le x y,()):=by
 unfold V16 vbmj ls
 rw[vdy hn hx hy,Option.bind_some]
 by_cases h:x=y
 ·rw[cdf (by omega),decide_eq_false (by omega)];rfl
 ·rw[cdt (by omega),decide_eq_true h];rfl
theorem LatP.du {n:Nat} {le:Nat→Nat→Bool} (h:LatP n le):LatP n (du le):=⟨h.le10,Ord.du h.ord,h.lat.ne,h.lat.join,h.lat.meet⟩
theorem LatP.glb {n:Nat} {le:Nat→Nat→Bool} (h:LatP n le) {x y:Nat} (hx:x<n) (hy:y<n):IsGlb n le [x,y] (mt n le x y):=vaai (h.lat.meet x y hx hy)
theorem LatP.bnd2 {n:Nat} {le:Nat→Nat→Bool} (h:LatP n le) {x y:Nat} (hx:x<n) (hy:y<n):bnd n le [x,y]=((mt n le x y:Nat):Int):=by
 have:=h.lat.meet x y hx hy
 unfold mt;omega
theorem LatP.mlt {n:Nat} {le:Nat→Nat→Bool} (h:LatP n le) {x y:Nat} (hx:x<n) (hy:y<n):mt n le x y<n:=(h.glb hx hy).lt
theorem LatP.m1 {n:Nat} {le:Nat→Nat→Bool} (h:LatP n le) {x y:Nat} (hx:x<n) (hy:y<n):le (mt n le x y) x=true:=(h.glb hx hy).lo x (by simp)
theorem LatP.m2 {n:Nat} {le:Nat→Nat→Bool} (h:LatP n le) {x y:Nat} (hx:x<n) (hy:y<n):le (mt n le x y) y=true:=(h.glb hx hy).lo y (by simp)
theorem LatP.mg {n:Nat} {le:Nat→Nat→Bool} (h:LatP n le) {x y z:Nat} (hx:x<n) (hy:y<n) (hz:z<n) (h1:le z x=true) (h2:le z y=true):le z (mt n le x y)=true :=
 (h.glb hx hy).gr z hz (by simp[h1,h2])
theorem LatP.tr {n:Nat} {le:Nat→Nat→Bool} (h:LatP n le) {x y z:Nat} (hx:x<n) (hy:y<n) (hz:z<n) (h1:le x y=true) (h2:le y z=true):le x z=true:=h.ord.trans x y z hx hy hz h1 h2
theorem LatP.as {n:Nat} {le:Nat→Nat→Bool} (h:LatP n le) {x y:Nat} (hx:x<n) (hy:y<n) (h1:le x y=true) (h2:le y x=true):x=y:=by
 by_cases e:x=y
 ·exact e
 ·rw[h.ord.anti x y hx hy e h1] at h2;cases h2
theorem vas {n:Nat} {le:Nat→Nat→Bool} (x y:Nat):mt n le x y=mt n le y x:=by unfold mt;rw[vrs]
theorem topEx {n:Nat} {le:Nat→Nat→Bool} (h:LatP n le):∃ t,IsGlb n le [] t:=by
 have key:∀ i,i≤n→∃ t,t<n∧∀ x,x<i→le x t=true:=by
  intro i
  induction i with
  | zero=>exact fun _=>⟨0,h.lat.ne,by intro x hx;omega⟩
  | succ i ih =>
   intro hi
   obtain⟨t,ht,h1⟩:=ih (by omega)
   have hin:i<n:=by omega
   refine⟨mt n (Yteanfidobhpchaa.du le) t i,h.du.mlt ht hin,all_lt_succ.2 ⟨fun x hx => ?_,h.du.m2 ht hin⟩⟩
   exact h.tr (by omega) ht (h.du.mlt ht hin) (h1 x hx) (h.du.m1 ht hin)
 obtain⟨t,ht,h1⟩:=key n (by omega)
 exact⟨t,ht,by simp,fun z hz _=>h1 z hz⟩
theorem glbEx {n:Nat} {le:Nat→Nat→Bool} (h:LatP n le):∀ S:List Nat,(∀ s∈S,s<n)→∃ m,IsGlb n le S m
 | [],_=>topEx h
 | s::S,hS=>by
  obtain⟨m,hm⟩:=glbEx h S fun x hx=>hS x (by simp[hx])
  have hs:=hS s (by simp)
  refine⟨mt n le s m,h.mlt hs hm.lt,fun x hx => ?_,fun z hz hx => ?_⟩
  ·rcases List.mem_cons.1 hx with rfl | hx'
   ·exact h.m1 hs hm.lt
   ·exact h.tr (h.mlt hs hm.lt) hm.lt (hS x hx) (h.m2 hs hm.lt) (hm.lo x hx')
  ·exact h.mg hs hm.lt hz (hx s (by simp)) (hm.gr z hz fun x hx'=>hx x (by simp[hx']))
theorem LatP.gbs {n:Nat} {le:Nat→Nat→Bool} (h:LatP n le) {S:List Nat} (hS:∀ s∈S,s<n):IsGlb n le S (gb n le S):=by
 obtain⟨m,hm⟩:=glbEx h S hS
 unfold gb
 rw[vsa h.ord hm]
 exact hm
theorem LatP.bnds {n:Nat} {le:Nat→Nat→Bool} (h:LatP n le) {S:List Nat} (hS:∀ s∈S,s<n):bnd n le S=((gb n le S:Nat):Int):=vsa h.ord (h.gbs hS)
theorem noneLt {n:Nat}:∀ s∈([]:List Nat),s<n:=fun s hs=>by cases hs
theorem lat1 (n:Nat) (le:Nat→Nat→Bool):(lat n le).1=mkT n le:=rfl
theorem lat2 (n:Nat) (le:Nat→Nat→Bool):(lat n le).2.1=mkT n fun x y=>((mt n le x y:Nat):Int):=rfl
theorem lat3 (n:Nat) (le:Nat→Nat→Bool):(lat n le).2.2.1=mkT n fun x y=>((mt n (du le) x y:Nat):Int):=rfl
theorem vbb {n:Nat} {le:Nat→Nat→Bool} (h:LatP n le) {x y:Nat} (hx:x<n) (hy:y<n):V46 (pos n le) (x:Int) (y:Int)=some (((mt n le x y:Nat):Int),()):=by
 have:=h.le10
 unfold V46 vbmb
 rw[show ([(x:Int),(y:Int)]:List Int)=cs [x,y] from rfl,vbz (by omega) (by simp[hx,hy]) (by simp),Option.bind_some,h.bnd2 hx hy]
theorem vbc {n:Nat} {le:Nat→Nat→Bool} (h:LatP n le) {x y:Nat} (hx:x<n) (hy:y<n):V47 (pos n le) (x:Int) (y:Int)=some (((mt n (du le) x y:Nat):Int),()):=by
 have:=h.le10
 unfold V47 vbmx
 rw[vmd (by omega),Option.bind_some,show ([(x:Int),(y:Int)]:List Int)=cs [x,y] from rfl,vbz (by omega) (by simp[hx,hy]) (by simp),Option.bind_some,h.du.bnd2 hx hy]
theorem specBoundL {n:Nat} {le:Nat→Nat→Bool} (h:LatP n le) {S:List Nat} (hS:∀ s∈S,s<n) (hl:S.length≤4294967296):V44 big (pos n le) (cs S)=some (((gb n le S:Nat):Int),()):=by
 have:=h.le10
 rw[vbz (by omega) hS hl,h.bnds hS]
abbrev bt (n:Nat) (le:Nat→Nat→Bool):Nat:=gb n (du le) []
abbrev tp (n:Nat) (le:Nat→Nat→Bool):Nat:=gb n le []
def Dis (n:Nat) (le:Nat→Nat→Bool):Prop:=∀ x y z,x<n→y<n→z<n→mt n le x (mt n (du le) y z)=mt n (du le) (mt n le x y) (mt n le x z)
theorem vbma {n:Nat} {le:Nat→Nat→Bool} (h:LatP n le):bt n le<n:=(h.du.gbs noneLt).lt
theorem vbus {n:Nat} {le:Nat→Nat→Bool} (h:LatP n le):tp n le<n:=(h.gbs noneLt).lt
theorem vbul {n:Nat} {le:Nat→Nat→Bool} (h:LatP n le) {x:Nat} (hx:x<n):le (bt n le) x=true:=(h.du.gbs noneLt).gr x hx (by simp)
theorem vbuq {n:Nat} {le:Nat→Nat→Bool} (h:LatP n le) {x:Nat} (hx:x<n):le x (tp n le)=true:=(h.gbs noneLt).gr x hx (by simp)
theorem jlt {n:Nat} {le:Nat→Nat→Bool} (h:LatP n le) {x y:Nat} (hx:x<n) (hy:y<n):mt n (du le) x y<n:=h.du.mlt hx hy
theorem j1 {n:Nat} {le:Nat→Nat→Bool} (h:LatP n le) {x y:Nat} (hx:x<n) (hy:y<n):le x (mt n (du le) x y)=true:=h.du.m1 hx hy
theorem j2 {n:Nat} {le:Nat→Nat→Bool} (h:LatP n le) {x y:Nat} (hx:x<n) (hy:y<n):le y (mt n (du le) x y)=true:=h.du.m2 hx hy
theorem jg {n:Nat} {le:Nat→Nat→Bool} (h:LatP n le) {x y z:Nat} (hx:x<n) (hy:y<n) (hz:z<n) (h1:le x z=true) (h2:le y z=true):le (mt n (du le) x y) z=true:=h.du.mg hx hy hz h1 h2
theorem vbge {n:Nat} {le:Nat→Nat→Bool} (h:LatP n le):∃ U,V60 big (some (lat n le))=some (U,())∧U.isNone=tv (Dis n le):=by
 have h10:=h.le10
 unfold V60 vbal
 rw[Option.bind_some,lat1,mkR_len]
 refine vbsi (Q:=fun o=>∃ U,o=some (U,())∧U.isNone=tv (Dis n le)) n (fun i=>∀ x,x<i→∀ y,y<n→∀ z,z<n→mt n le x (mt n (du le) y z)=mt n (du le) (mt n le x y) (mt n le x z)) (by omega) ?_ ?_ 0 (by omega) (by intro x hx;omega)
 ·intro rc i hi hv ih
  unfold vqg
  rw[cdt (by omega),Option.bind_some,lat1,mkR_len]
  refine vbtl (Q:=fun o=>∃ U,o=some (U,())∧U.isNone=tv (Dis n le)) n (fun j=>∀ y,y<j→∀ z,z<n→mt n le i (mt n (du le) y z)=mt n (du le) (mt n le i y) (mt n le i z)) (by omega) ?_ ?_ 0 (by omega) (by intro x hx;omega)
  ·intro rc2 j hj hv2 ih2
   unfold voj
   rw[cdt (by omega),Option.bind_some,lat1,mkR_len]
   refine vbso (Q:=fun o=>∃ U,o=some (U,())∧U.isNone=tv (Dis n le)) n (fun k=>∀ z,z<k→mt n le i (mt n (du le) j z)=mt n (du le) (mt n le i j) (mt n le i z)) (by omega) ?_ ?_ 0 (by omega) (by intro x hx;omega)
   ·intro rc3 k hk hv3 ih3
    unfold vpi
    simp only[cdt (show (k:Int)<(n:Int) by omega),Option.bind_some,lat2,lat3,vae hi,vae hj,vae hk,vae (jlt h hj hk),vae (h.mlt hi hj),vae (h.mlt hi hk),wr1 (show k≤4611686018427387904 by omega)]
    by_cases e:mt n le i (mt n (du le) j k)=mt n (du le) (mt n le i j) (mt n le i k)
    ·rw[cdf (by omega)]
     exact ih3 (all_lt_succ.2 ⟨hv3,e⟩)
    ·rw[cdt (by omega)]
     exact⟨_,rfl,by rw[tv_f fun hd=>e (hd i j k hi hj hk)];rfl⟩
   ·intro rc3 hv3
    unfold vpi
    rw[cdf (by omega),vox,wr1 (by omega)]
    exact ih2 (all_lt_succ.2 ⟨hv2,hv3⟩)
  ·intro rc2 hv2
   unfold voj
   rw[cdf (by omega),vhc,wr1 (by omega)]
   exact ih (all_lt_succ.2 ⟨hv,hv2⟩)
 ·intro rc hv
  unfold vqg
  rw[cdf (by omega),vgh]
  exact⟨none,rfl,by rw[tv_t (P:=Dis n le) fun x y z hx hy hz=>hv x hx y hy z hz];rfl⟩
def rel (n:Nat) (le:Nat→Nat→Bool) (x y z:Nat):List Nat:=fl n fun c=>decide (mt n le c y=x) && decide (mt n (du le) c y=z)
def comp (n:Nat) (le:Nat→Nat→Bool) (x:Nat):List Nat:=rel n le (bt n le) x (tp n le)
def pw (k:Nat):Nat:=2 ^ k
theorem vatb {S:List Nat} {k:Nat} (h:k<S.length):S.getD k 0=S[k]:=by rw[List.getD_eq_getElem?_getD,List.getElem?_eq_getElem h];rfl
def Cen (n:Nat) (le:Nat→Nat→Bool) (x y:Nat):Prop:=∀ z,z<n→mt n (du le) (mt n le z x) (mt n le z y)=z∧mt n le (mt n (du le) z x) (mt n (du le) z y)=z
abbrev P2:=Int×Int×Unit
def lx:List Int→List Int→Bool
 | a::s,b::t=>if a≠b then decide (a<b) else lx s t
 | _,_=>false
theorem vaza {a b:List Int} {i:Nat} (h1:i<a.length) (h2:i<b.length):lx (a.drop i) (b.drop i)=if a[i]≠b[i] then decide (a[i]<b[i]) else lx (a.drop (i+1)) (b.drop (i+1)):=by
 rw[List.drop_eq_getElem_cons h1,List.drop_eq_getElem_cons h2,lx]
theorem vand (a b:List Int) (h:a.length=b.length) (h2:a.length≤4294967296):V49 big a b=some (lx a b,()):=by
 unfold V49 vbdd
 refine vbsc a.length (fun i=>lx a b=lx (a.drop i) (b.drop i)) (by omega) ?_ ?_ 0 (by omega) rfl
 ·intro rc i hi hv ih
  have hib:i<b.length:=by omega
  unfold vpe
  simp only[cdt (show (i:Int)<(a.length:Int) by omega),vag a i hi,vag b i hib,Option.bind_some,wr1 (show i≤4611686018427387904 by omega)]
  rw[vaza hi hib] at hv
  by_cases e:a[i]=b[i]
  ·rw[cdf (by simp[e])]
   rw[if_neg (by simp[e])] at hv
   exact ih hv
  ·rw[cdt e,hv,if_pos e]
 ·intro rc hv
  rw[List.drop_length] at hv
  unfold vpe
  rw[cdf (by omega),voi,hv];rfl
theorem vmi (a b:List Int) (h:a.length=b.length) (h2:a.length≤4294967296):∃ v:Int,V35 big a b=some (v,())∧decide (v<0)=lx a b:=by
 have key:V35 big a b=some (if lx a b then -1 else if a=b then 0 else 1,()):=by
  unfold V35 vazz
  refine vbsl a.length (fun i=>lx a b=lx (a.drop i) (b.drop i)∧(a=b↔a.drop i=b.drop i)) (by omega) ?_ ?_ 0 (by omega) ⟨rfl,Iff.rfl⟩
  ·intro rc i hi hv ih
   have hib:i<b.length:=by omega
   obtain⟨hv,hv2⟩:=hv
   unfold voa
   simp only[cdt (show (i:Int)<(a.length:Int) by omega),cdt (show (i:Int)<(b.length:Int) by omega),vag a i hi,vag b i hib,Option.bind_some,wr1 (show i≤4611686018427387904 by omega)]
   rw[vaza hi hib] at hv
   rw[List.drop_eq_getElem_cons hi,List.drop_eq_getElem_cons hib,List.cons.injEq] at hv2
   by_cases e:a[i]=b[i]
   ·rw[cdf (by simp[e])]
    rw[if_neg (by simp[e])] at hv
    exact ih ⟨hv,hv2.trans ⟨fun x=>x.2,fun x=>⟨e,x⟩⟩⟩
   ·rw[cdt e]
    rw[if_pos e] at hv
    by_cases e2:a[i]<b[i]
    ·rw[cdt e2,hv,if_pos (by simpa using e2)]
    ·rw[cdf e2,hv,if_neg (by simpa using e2),if_neg (fun x=>e (hv2.1 x).1)]
  ·intro rc hv
   obtain⟨hv,hv2⟩:=hv
   rw[List.drop_length] at hv hv2
   have h3:b.drop a.length=[]:=by rw[h,List.drop_length]
   unfold voa
   rw[cdf (by omega),vok,cdf (by omega),cdf (by omega),hv,if_neg (by simp[lx]),if_pos (hv2.2 h3.symm)]
 refine⟨_,key, ?_⟩
 cases lx a b with
 | true=>simp
 | false=>simp;split <;> omega
theorem vami (l:List Int) (x:Int) (h:l.length≤4294967296):V33 big l x=some (decide (x ∉ l),()):=by
 unfold V33 vbcl
 refine vbua l.length (fun i=>∀ y∈l.take i,x≠y) (by omega) ?_ ?_ 0 (by omega) (by simp)
 ·intro rc i hi hv ih
  unfold vom
  rw[cdt (by omega),vag l i hi,Option.bind_some,wr1 (by omega)]
  by_cases e:x=l[i]
  ·rw[cdt e]
   have:x∈l:=by rw[e];exact List.getElem_mem hi
   simp[this]
  ·rw[cdf e]
   exact ih ((vby hi (P:=fun y=>x≠y)).2 ⟨hv,e⟩)
 ·intro rc hv
  rw[List.take_length] at hv
  unfold vom
  have:x ∉ l:=fun hx=>hv x hx rfl
  rw[cdf (by omega),vqa]
  simp[this]
def Dif (l:List Int):Prop:=∀ i (h:i<l.length),l[i] ∉ l.take i
theorem vyl (l:List Int) (i:Nat) (h:i≤l.length):slI l 0 (i:Int)=some (l.take i):=by
 have:=vazm l 0 i (by omega) h
 simpa using this
theorem vxl (l:List Int) (h:l.length≤4294967296):V48 big l=some (tv (Dif l),()):=by
 unfold V48 vbcc
 refine vbta l.length (fun i=>∀ j,j<i→∀ (hj:j<l.length),l[j] ∉ l.take j) (by omega) ?_ ?_ 0 (by omega) (by intro j hj;omega)
 ·intro rc i hi hv ih
  unfold vqh
  simp only[cdt (show (i:Int)<(l.length:Int) by omega),vyl l i (by omega),vag l i hi,Option.bind_some,vrd (l.take i) l[i] (by rw[List.length_take];omega),wr1 (show i≤4611686018427387904 by omega)]
  by_cases e:l[i]∈l.take i
  ·rw[cdt e,tv_f fun hc=>hc i hi e]
  ·rw[cdf e]
   exact ih (all_lt_succ.2 ⟨hv,fun _=>e⟩)
 ·intro rc hv
  unfold vqh
  rw[cdf (by omega),vov,tv_t (P:=Dif l) fun i hi=>hv i hi hi]
theorem vmt (l:List Int) (h:l.length≤4294967296):V34 big l=some (tv (Dif l),()):=by
 unfold V34 vbba
 refine vbtd l.length (fun i=>∀ j,j<i→∀ (hj:j<l.length),l[j] ∉ l.take j) (by omega) ?_ ?_ 0 (by omega) (by intro j hj;omega)
 ·intro rc i hi hv ih
  unfold vrb
  simp only[cdt (show (i:Int)<(l.length:Int) by omega),vyl l i (by omega),vag l i hi,Option.bind_some,vami (l.take i) l[i] (by rw[List.length_take];omega),wr1 (show i≤4611686018427387904 by omega)]
  by_cases e:l[i]∈l.take i
  ·simp only[e,not_true_eq_false,decide_false,Bool.not_false,cond_true]
   rw[tv_f fun hc=>hc i hi e]
  ·simp only[e,not_false_eq_true,decide_true,Bool.not_true,cond_false]
   exact ih (all_lt_succ.2 ⟨hv,fun _=>e⟩)
 ·intro rc hv
  unfold vrb
  rw[cdf (by omega),vot,tv_t (P:=Dif l) fun i hi=>hv i hi hi]
def upd (b f:List Int) (g:Bool):List Int:=if g && (decide (b.length=0) || lx f b) then f else b
def bst3 (f:Nat→List Int) (g:Nat→Bool) (b:List Int):Nat→List Int
 | 0=>b
 | k+1=>upd (bst3 f g b k) (f k) (g k)
def bst2 (f:Nat→Nat→List Int) (g:Nat→Nat→Bool) (n:Nat) (b:List Int):Nat→List Int
 | 0=>b
 | k+1=>bst3 (f k) (g k) (bst2 f g n b k) n
def bst1 (f:Nat→Nat→Nat→List Int) (g:Nat→Nat→Nat→Bool) (n:Nat):Nat→List Int
 | 0=>[]
 | k+1=>bst2 (f k) (g k) n (bst1 f g n k) n
abbrev L05 (b:List Int):Prop:=b.length=0∨b.length=5
theorem vbsy {b f:List Int} {g:Bool} (h:L05 b) (hf:f.length=5):L05 (upd b f g):=by
 unfold upd;split
 ·exact Or.inr hf
 ·exact h
theorem vce {f:Nat→List Int} {g:Nat→Bool} (hf:∀ k,(f k).length=5) {b:List Int} (h:L05 b):∀ k,L05 (bst3 f g b k)
 | 0=>h
 | k+1=>vbsy (vce hf h k) (hf k)
theorem vcd {f:Nat→Nat→List Int} {g:Nat→Nat→Bool} {n:Nat} (hf:∀ j k,(f j k).length=5) {b:List Int} (h:L05 b):∀ k,L05 (bst2 f g n b k)
 | 0=>h
 | k+1=>vce (hf k) (vcd hf h k) n
theorem voh {f:Nat→Nat→Nat→List Int} {g:Nat→Nat→Nat→Bool} {n:Nat} (hf:∀ i j k,(f i j k).length=5):∀ k,L05 (bst1 f g n k)
 | 0=>Or.inl rfl
 | k+1=>vcd (hf k) (voh hf k) n
def f5 (n:Nat) (le:Nat→Nat→Bool) (o:Nat) (x y z i:Nat):List Int:=[(o:Int),(x:Int),(y:Int),(z:Int),(i:Int)]
abbrev diaF (n:Nat) (le:Nat→Nat→Bool) (x y z:Nat):List Int:=[(mt n le x z:Int),(x:Int),(y:Int),(z:Int),(mt n (du le) x z:Int)]
def diaP (n:Nat) (le:Nat→Nat→Bool) (x y z:Nat):Prop:=mt n le x y=mt n le x z∧mt n le y z=mt n le x z∧mt n (du le) x y=mt n (du le) x z∧mt n (du le) y z=mt n (du le) x z
noncomputable def diaG (n:Nat) (le:Nat→Nat→Bool) (x y z:Nat):Bool:=tv (diaP n le x y z∧Dif (diaF n le x y z))
theorem vbdz {n:Nat} {le:Nat→Nat→Bool} {x y z:Nat} {b:List Int} (h:diaP n le x y z) (h2:Dif (diaF n le x y z)):upd b (diaF n le x y z) (diaG n le x y z)=if b.length=0 then diaF n le x y z else if lx (diaF n le x y z) b then diaF n le x y z else b:=by
 unfold upd diaG
 rw[tv_t ⟨h,h2⟩]
 by_cases e:b.length=0
 ·simp[e]
 ·simp[e]
theorem vcs {n:Nat} {le:Nat→Nat→Bool} {x y z:Nat} {b:List Int} (h:¬ diaP n le x y z∨¬ Dif (diaF n le x y z)):upd b (diaF n le x y z) (diaG n le x y z)=b:=by
 unfold upd diaG
 rw[tv_f (by rintro⟨h1,h2⟩;rcases h with h | h <;> contradiction)]
 rfl
theorem vara {n:Nat} {le:Nat→Nat→Bool} (h:LatP n le) {x y z:Nat} (hx:x<n) (hy:y<n) (hz:z<n) {b:List Int} (hb:L05 b) (rc) (k) :
  vdm rc k (pos n le) (n:Int) b (x:Int) (y:Int) (z:Int)=rc (pos n le) (n:Int) (upd b (diaF n le x y z) (diaG n le x y z)) (x:Int) (y:Int) ((z+1:Nat):Int):=by
 have h10:=h.le10
 unfold vdm
 simp only[cdt (show (z:Int)<(n:Int) by omega),vbb h hx hy,vbc h hx hy,vbb h hx hz,vbc h hx hz,vbb h hy hz,vbc h hy hz,Option.bind_some,wr1 (show z≤4611686018427387904 by omega)]
 by_cases e1:mt n le x y=mt n le x z
 ·rw[cdf (by omega)]
  by_cases e2:mt n le y z=mt n le x z
  ·rw[cdf (by omega)]
   by_cases e3:mt n (du le) x y=mt n (du le) x z
   ·rw[cdf (by omega)]
    by_cases e4:mt n (du le) y z=mt n (du le) x z
    ·rw[cdf (by omega),e1,e3]
     rw[show V48 big _=_ from vxl (diaF n le x y z) (by simp),Option.bind_some]
     by_cases hd:Dif (diaF n le x y z)
     ·rw[tv_t hd,cond_true]
      rw[vbdz ⟨e1,e2,e3,e4⟩ hd]
      by_cases e0:b.length=0
      ·rw[cdt (by omega),if_pos e0]
      ·rw[cdf (by omega),if_neg e0]
       rw[vand (diaF n le x y z) b (by rcases hb with hb | hb;exact absurd hb e0;rw[hb];rfl) (by simp),Option.bind_some]
       cases lx (diaF n le x y z) b <;> rfl
     ·rw[tv_f hd,cond_false,vcs (Or.inr hd)]
    ·rw[cdt (by omega),vcs (Or.inl fun hp=>e4 hp.2.2.2)]
   ·rw[cdt (by omega),vcs (Or.inl fun hp=>e3 hp.2.2.1)]
  ·rw[cdt (by omega),vcs (Or.inl fun hp=>e2 hp.2.1)]
 ·rw[cdt (by omega),vcs (Or.inl fun hp=>e1 hp.1)]
theorem varq {n:Nat} {le:Nat→Nat→Bool} (h:LatP n le) {x y z:Nat} (hx:x<n) (hy:y<n) (hz:z<n) {b:List Int} (hb:L05 b) (rc) (k) (g1:Unit) (t26 t27 t34 t35:Int) :
  vcy rc k g1 (some (lat n le)) b (x:Int) (y:Int) t26 t27 t34 t35 (n:Int) (z:Int)=rc g1 (some (lat n le)) (upd b (diaF n le x y z) (diaG n le x y z)) (x:Int) (y:Int) t26 t27 t34 t35 (n:Int) ((z+1:Nat):Int):=by
 have h10:=h.le10
 unfold vcy
 simp only[cdt (show (z:Int)<(n:Int) by omega),Option.bind_some,lat2,lat3,vae hx,vae hz,vmt (diaF n le x y z) (show (diaF n le x y z).length≤4294967296 from by simp),wr1 (show z≤4611686018427387904 by omega)]
 by_cases hd:Dif (diaF n le x y z)
 ·simp only[tv_t hd,Bool.not_true,cond_false]
  have a0:atI (diaF n le x y z) (0:Int)=some (mt n le x z:Int):=rfl
  have a4:atI (diaF n le x y z) (4:Int)=some (mt n (du le) x z:Int):=rfl
  simp only[a0,a4,Option.bind_some,Int.toNat_zero,show ((4:Int).toNat)=4 from rfl,List.getElem?_cons_zero,List.getElem?_cons_succ]
  unfold V52 vblz
  simp only[Option.bind_some,lat1,lat2,lat3,vae hx,vae hy,vae hz]
  by_cases e1:mt n le x y=mt n le x z
  ·rw[cdt (by omega)]
   by_cases e2:mt n le y z=mt n le x z
   ·rw[cdt (by omega)]
    by_cases e3:mt n (du le) x y=mt n (du le) x z
    ·rw[cdt (by omega)]
     by_cases e4:mt n (du le) y z=mt n (du le) x z
     ·simp only[e4,decide_true,Option.bind_some,Bool.not_true,cond_false]
      rw[vbdz ⟨e1,e2,e3,e4⟩ hd]
      by_cases e0:b.length=0
      ·rw[cdt (by omega),if_pos e0]
      ·rw[cdf (by omega),if_neg e0]
       obtain⟨v,hv1,hv2⟩:=vmi (diaF n le x y z) b (by rcases hb with hb | hb;exact absurd hb e0;rw[hb];rfl) (by simp)
       simp only[hv1,Option.bind_some,hv2]
       cases lx (diaF n le x y z) b <;> rfl
     ·simp only[decide_eq_false (show ¬ ((mt n (du le) y z:Int)=(mt n (du le) x z:Int)) by omega),Option.bind_some,Bool.not_false,cond_true]
      rw[vcs (Or.inl fun hp=>e4 hp.2.2.2)]
    ·rw[cdf (by omega)];rw[vcs (Or.inl fun hp=>e3 hp.2.2.1)];rfl
   ·rw[cdf (by omega)];rw[vcs (Or.inl fun hp=>e2 hp.2.1)];rfl
  ·rw[cdf (by omega)];rw[vcs (Or.inl fun hp=>e1 hp.1)];rfl
 ·simp only[tv_f hd,Bool.not_false,cond_true]
  rw[vcs (Or.inr hd)]
theorem vajg (p:PT) (hx:∀ r∈p.1,r.length≤4294967296):∃ v:List Int×Bool×Unit,V55 big p=some (v,())∧V54 p=some (v,())∧v.1.length≤5:=by
 unfold V55 vapj V54 vaor V53 vahf
 rcases vcf hx with⟨n,le,e,h,h1,h2⟩ | ⟨h1,l,h2⟩
 ·subst e
  have h10:=h.le10
  have h05:=voh (f:=diaF n le) (g:=diaG n le) (n:=n) (fun _ _ _=>rfl)
  rw[h1,h2]
  refine⟨(bst1 (diaF n le) (diaG n le) n n,decide (0<((bst1 (diaF n le) (diaG n le) n n).length:Int)),()), ?_, ?_,by rcases h05 n with h | h <;> simp only[h] <;> omega⟩
  ·simp only[Option.bind_some,Bool.not_true,cond_false,vah]
   refine vbdt n (fun i b=>b=bst1 (diaF n le) (diaG n le) n i) (by omega) ?_ ?_ 0 (by omega) _ rfl
   ·intro rc i b hi hv ih
    have hb:=h05 i
    rw[← hv] at hb
    unfold vht
    rw[cdt (by omega)]
    refine vbgy n (fun j c=>c=bst2 (diaF n le i) (diaG n le i) n b j) (by omega) ?_ ?_ 0 (by omega) _ rfl
    ·intro rc2 j c hj hc ih2
     have hb2:=vcd (f:=diaF n le i) (g:=diaG n le i) (n:=n) (fun _ _=>rfl) hb j
     rw[← hc] at hb2
     unfold vfs
     rw[cdt (by omega)]
     refine vazl n (fun k d=>d=bst3 (diaF n le i j) (diaG n le i j) c k) (by omega) ?_ ?_ 0 (by omega) _ rfl
     ·intro rc3 k d hk hd ih3
      have hb3:=vce (f:=diaF n le i j) (g:=diaG n le i j) (fun _=>rfl) hb2 k
      rw[← hd] at hb3
      rw[vara h hi hj hk hb3]
      exact ih3 _ (by rw[hd];rfl)
     ·intro rc3 d hd
      unfold vdm
      rw[cdf (by omega),vfd,wr1 (by omega)]
      exact ih2 _ (by rw[hd,hc];rfl)
    ·intro rc2 c hc
     unfold vfs
     rw[cdf (by omega),veb,wr1 (by omega)]
     exact ih _ (by rw[hc,hv];rfl)
   ·intro rc b hv
    unfold vht
    rw[cdf (by omega),vdu,hv]
  ·simp only[Option.bind_some,Bool.not_true,cond_false,lat1,mkR_len]
   suffices hh:vug big () (some (lat n le)) [] (n:Int) 0=some ((bst1 (diaF n le) (diaG n le) n n,decide (0<((bst1 (diaF n le) (diaG n le) n n).length:Int)),()),()) by
    rw[hh,Option.bind_some]
   refine vbft n (fun i b=>b=bst1 (diaF n le) (diaG n le) n i) (by omega) ?_ ?_ 0 (by omega) _ rfl
   ·intro rc i b hi hv ih
    have hb:=h05 i
    rw[← hv] at hb
    unfold vib
    simp only[cdt (show (i:Int)<(n:Int) by omega),Option.bind_some,lat1,mkR_len]
    refine vbjk n (fun j c=>c=bst2 (diaF n le i) (diaG n le i) n b j) (by omega) ?_ ?_ 0 (by omega) _ rfl
    ·intro rc2 j c hj hc ih2
     have hb2:=vcd (f:=diaF n le i) (g:=diaG n le i) (n:=n) (fun _ _=>rfl) hb j
     rw[← hc] at hb2
     unfold vgp
     simp only[cdt (show (j:Int)<(n:Int) by omega),Option.bind_some,lat1,mkR_len]
     refine vaye n (fun k d=>d=bst3 (diaF n le i j) (diaG n le i j) c k) (by omega) ?_ ?_ 0 (by omega) _ rfl
     ·intro rc3 k d hk hd ih3
      have hb3:=vce (f:=diaF n le i j) (g:=diaG n le i j) (fun _=>rfl) hb2 k
      rw[← hd] at hb3
      rw[varq h hi hj hk hb3]
      exact ih3 _ (by rw[hd];rfl)
     ·intro rc3 d hd
      unfold vcy
      rw[cdf (by omega),vff,wr1 (by omega)]
      exact ih2 _ (by rw[hd,hc];rfl)
    ·intro rc2 c hc
     unfold vgp
     rw[cdf (by omega),vds,wr1 (by omega)]
     exact ih _ (by rw[hc,hv];rfl)
   ·intro rc b hv
    unfold vib
    rw[cdf (by omega),vea,hv]
 ·rw[h1,h2]
  exact⟨_,rfl,rfl,by simp⟩
abbrev penF (n:Nat) (le:Nat→Nat→Bool) (x y z:Nat):List Int:=[(mt n le x z:Int),(x:Int),(y:Int),(z:Int),(mt n (du le) x z:Int)]
def penP (n:Nat) (le:Nat→Nat→Bool) (x y z:Nat):Prop:=ls le x y=true∧mt n le y z=mt n le x z∧mt n (du le) y z=mt n (du le) x z
noncomputable def penG (n:Nat) (le:Nat→Nat→Bool) (x y z:Nat):Bool:=tv (penP n le x y z∧Dif (penF n le x y z))
theorem vbid {n:Nat} {le:Nat→Nat→Bool} {x y z:Nat} {b:List Int} (h:penP n le x y z) (h2:Dif (penF n le x y z)):upd b (penF n le x y z) (penG n le x y z)=if b.length=0 then penF n le x y z else if lx (penF n le x y z) b then penF n le x y z else b:=by
 unfold upd penG
 rw[tv_t ⟨h,h2⟩]
 by_cases e:b.length=0
 ·simp[e]
 ·simp[e]
theorem vhi {n:Nat} {le:Nat→Nat→Bool} {x y z:Nat} {b:List Int} (h:¬ penP n le x y z∨¬ Dif (penF n le x y z)):upd b (penF n le x y z) (penG n le x y z)=b:=by
 unfold upd penG
 rw[tv_f (by rintro⟨h1,h2⟩;rcases h with h | h <;> contradiction)]
 rfl
theorem vasd {n:Nat} {le:Nat→Nat→Bool} (h:LatP n le) {x y z:Nat} (hx:x<n) (hy:y<n) (hz:z<n) {b:List Int} (hb:L05 b) (rc) (k) :
  vdi rc k (pos n le) (n:Int) b (x:Int) (y:Int) (z:Int)=rc (pos n le) (n:Int) (upd b (penF n le x y z) (penG n le x y z)) (x:Int) (y:Int) ((z+1:Nat):Int):=by
 have h10:=h.le10
 unfold vdi
 simp only[cdt (show (z:Int)<(n:Int) by omega),vawy (le:=le) (show n≤4294967296 by omega) hx hy,vbb h hx hz,vbc h hx hz,vbb h hy hz,vbc h hy hz,Option.bind_some,wr1 (show z≤4611686018427387904 by omega)]
 by_cases e1:ls le x y=true
 ·simp only[e1,Bool.not_true,cond_false]
  by_cases e2:mt n le y z=mt n le x z
  ·rw[cdf (by omega)]
   by_cases e3:mt n (du le) y z=mt n (du le) x z
   ·rw[cdf (by omega)]
    rw[show V48 big _=_ from vxl (penF n le x y z) (by simp),Option.bind_some]
    by_cases hd:Dif (penF n le x y z)
    ·rw[tv_t hd,cond_true]
     rw[vbid ⟨e1,e2,e3⟩ hd]
     by_cases e0:b.length=0
     ·rw[cdt (by omega),if_pos e0]
     ·rw[cdf (by omega),if_neg e0]
      rw[vand (penF n le x y z) b (by rcases hb with hb | hb;exact absurd hb e0;rw[hb];rfl) (by simp),Option.bind_some]
      cases lx (penF n le x y z) b <;> rfl
    ·rw[tv_f hd,cond_false,vhi (Or.inr hd)]
   ·rw[cdt (by omega),vhi (Or.inl fun hp=>e3 hp.2.2)]
  ·rw[cdt (by omega),vhi (Or.inl fun hp=>e2 hp.2.1)]
 ·simp only[Bool.eq_false_iff.2 e1,Bool.not_false,cond_true]
  rw[vhi (Or.inl fun hp=>e1 hp.1)]
theorem vavj {n:Nat} {le:Nat→Nat→Bool} (h:LatP n le) {x y z:Nat} (hx:x<n) (hy:y<n) (hz:z<n) {b:List Int} (hb:L05 b) (rc) (k) (g1:Unit) (t26 t27 t34 t35:Int) :
  vdk rc k g1 (some (lat n le)) b (x:Int) (y:Int) t26 t27 t34 t35 (n:Int) (z:Int)=rc g1 (some (lat n le)) (upd b (penF n le x y z) (penG n le x y z)) (x:Int) (y:Int) t26 t27 t34 t35 (n:Int) ((z+1:Nat):Int):=by
 have h10:=h.le10
 unfold vdk
 simp only[cdt (show (z:Int)<(n:Int) by omega),Option.bind_some,lat2,lat3,vae hx,vae hz,vmt (penF n le x y z) (show (penF n le x y z).length≤4294967296 from by simp),wr1 (show z≤4611686018427387904 by omega)]
 by_cases hd:Dif (penF n le x y z)
 ·simp only[tv_t hd,Bool.not_true,cond_false]
  have a0:atI (penF n le x y z) (0:Int)=some (mt n le x z:Int):=rfl
  have a4:atI (penF n le x y z) (4:Int)=some (mt n (du le) x z:Int):=rfl
  simp only[a0,a4,Option.bind_some,Int.toNat_zero,show ((4:Int).toNat)=4 from rfl,List.getElem?_cons_zero,List.getElem?_cons_succ]
  unfold V37 vbmz
  simp only[Option.bind_some,lat1,lat2,lat3,vae hx,vae hy,vae hz,vbqo (le:=le) hx hy]
  by_cases e1:ls le x y=true
  ·simp only[e1,cond_true]
   by_cases e2:mt n le y z=mt n le x z
   ·rw[cdt (by omega)]
    by_cases e3:mt n (du le) y z=mt n (du le) x z
    ·simp only[e3,decide_true,Option.bind_some,Bool.not_true,cond_false]
     rw[vbid ⟨e1,e2,e3⟩ hd]
     by_cases e0:b.length=0
     ·rw[cdt (by omega),if_pos e0]
     ·rw[cdf (by omega),if_neg e0]
      obtain⟨v,hv1,hv2⟩:=vmi (penF n le x y z) b (by rcases hb with hb | hb;exact absurd hb e0;rw[hb];rfl) (by simp)
      simp only[hv1,Option.bind_some,hv2]
      cases lx (penF n le x y z) b <;> rfl
    ·simp only[decide_eq_false (show ¬ ((mt n (du le) y z:Int)=(mt n (du le) x z:Int)) by omega),Option.bind_some,Bool.not_false,cond_true]
     rw[vhi (Or.inl fun hp=>e3 hp.2.2)]
   ·rw[cdf (by omega)];rw[vhi (Or.inl fun hp=>e2 hp.2.1)];rfl
  ·simp only[Bool.eq_false_iff.2 e1,cond_false];rw[vhi (Or.inl fun hp=>e1 hp.1)];rfl
 ·simp only[tv_f hd,Bool.not_false,cond_true]
  rw[vhi (Or.inr hd)]
theorem vagp (p:PT) (hx:∀ r∈p.1,r.length≤4294967296):∃ v:List Int×Bool×Unit,V50 big p=some (v,())∧V39 p=some (v,())∧v.1.length≤5:=by
 unfold V50 vapa V39 vaox V38 vadx
 rcases vcf hx with⟨n,le,e,h,h1,h2⟩ | ⟨h1,l,h2⟩
 ·subst e
  have h10:=h.le10
  have h05:=voh (f:=penF n le) (g:=penG n le) (n:=n) (fun _ _ _=>rfl)
  rw[h1,h2]
  refine⟨(bst1 (penF n le) (penG n le) n n,decide (0<((bst1 (penF n le) (penG n le) n n).length:Int)),()), ?_, ?_,by rcases h05 n with h | h <;> simp only[h] <;> omega⟩
  ·simp only[Option.bind_some,Bool.not_true,cond_false,vah]
   refine vbgp n (fun i b=>b=bst1 (penF n le) (penG n le) n i) (by omega) ?_ ?_ 0 (by omega) _ rfl
   ·intro rc i b hi hv ih
    have hb:=h05 i
    rw[← hv] at hb
    unfold vhz
    rw[cdt (by omega)]
    refine vbhk n (fun j c=>c=bst2 (penF n le i) (penG n le i) n b j) (by omega) ?_ ?_ 0 (by omega) _ rfl
    ·intro rc2 j c hj hc ih2
     have hb2:=vcd (f:=penF n le i) (g:=penG n le i) (n:=n) (fun _ _=>rfl) hb j
     rw[← hc] at hb2
     unfold vgq
     rw[cdt (by omega)]
     refine vaxl n (fun k d=>d=bst3 (penF n le i j) (penG n le i j) c k) (by omega) ?_ ?_ 0 (by omega) _ rfl
     ·intro rc3 k d hk hd ih3
      have hb3:=vce (f:=penF n le i j) (g:=penG n le i j) (fun _=>rfl) hb2 k
      rw[← hd] at hb3
      rw[vasd h hi hj hk hb3]
      exact ih3 _ (by rw[hd];rfl)
     ·intro rc3 d hd
      unfold vdi
      rw[cdf (by omega),vfh,wr1 (by omega)]
      exact ih2 _ (by rw[hd,hc];rfl)
    ·intro rc2 c hc
     unfold vgq
     rw[cdf (by omega),vdx,wr1 (by omega)]
     exact ih _ (by rw[hc,hv];rfl)
   ·intro rc b hv
    unfold vhz
    rw[cdf (by omega),ved,hv]
  ·simp only[Option.bind_some,Bool.not_true,cond_false,lat1,mkR_len]
   suffices hh:vsz big () (some (lat n le)) [] (n:Int) 0=some ((bst1 (penF n le) (penG n le) n n,decide (0<((bst1 (penF n le) (penG n le) n n).length:Int)),()),()) by
    rw[hh,Option.bind_some]
   refine vbei n (fun i b=>b=bst1 (penF n le) (penG n le) n i) (by omega) ?_ ?_ 0 (by omega) _ rfl
   ·intro rc i b hi hv ih
    have hb:=h05 i
    rw[← hv] at hb
    unfold vgl
    simp only[cdt (show (i:Int)<(n:Int) by omega),Option.bind_some,lat1,mkR_len]
    refine vbik n (fun j c=>c=bst2 (penF n le i) (penG n le i) n b j) (by omega) ?_ ?_ 0 (by omega) _ rfl
    ·intro rc2 j c hj hc ih2
     have hb2:=vcd (f:=penF n le i) (g:=penG n le i) (n:=n) (fun _ _=>rfl) hb j
     rw[← hc] at hb2
     unfold vgi
     simp only[cdt (show (j:Int)<(n:Int) by omega),Option.bind_some,lat1,mkR_len]
     refine vazc n (fun k d=>d=bst3 (penF n le i j) (penG n le i j) c k) (by omega) ?_ ?_ 0 (by omega) _ rfl
     ·intro rc3 k d hk hd ih3
      have hb3:=vce (f:=penF n le i j) (g:=penG n le i j) (fun _=>rfl) hb2 k
      rw[← hd] at hb3
      rw[vavj h hi hj hk hb3]
      exact ih3 _ (by rw[hd];rfl)
     ·intro rc3 d hd
      unfold vdk
      rw[cdf (by omega),ven,wr1 (by omega)]
      exact ih2 _ (by rw[hd,hc];rfl)
    ·intro rc2 c hc
     unfold vgi
     rw[cdf (by omega),vdr,wr1 (by omega)]
     exact ih _ (by rw[hc,hv];rfl)
   ·intro rc b hv
    unfold vgl
    rw[cdf (by omega),vec,hv]
 ·rw[h1,h2]
  exact⟨_,rfl,rfl,by simp⟩
theorem vdn {S:List Nat} {i:Nat} (h:i<S.length):atI (cs S) (i:Int)=some ((S.getD i 0:Nat):Int):=by rw[vbh h,vatb h]
theorem vaiw {n:Nat} {le:Nat→Nat→Bool} (h:LatP n le) {x:Nat} (hx:x<n):mt n le x x=x:=by unfold mt;rw[vyb h.ord hx];rfl
structure Pt (n:Nat) (P:Nat→Nat):Prop where
 lo:∀ x,x<n→P x≤x
 id:∀ x,x<n→P (P x)=P x
theorem Pt.lt {n:Nat} {P:Nat→Nat} (h:Pt n P) {x:Nat} (hx:x<n):P x<n:=Nat.lt_of_le_of_lt (h.lo x hx) hx
def Lep (n:Nat) (P C:Nat→Nat):Prop:=∀ x,x<n→C (P x)=C x
theorem Lep.refl {n:Nat} {P:Nat→Nat} (h:Pt n P):Lep n P P:=h.id
theorem Lep.trans {n:Nat} {P Q C:Nat→Nat} (h:Pt n P) (h1:Lep n P Q) (h2:Lep n Q C):Lep n P C:=fun x hx=>by
 have e1:=h1 x hx
 have e2:=h2 (P x) (h.lt hx)
 have e3:=h2 x hx
 rw[← e2,e1,e3]
theorem vbqk {n:Nat} {le:Nat→Nat→Bool} (h:LatP n le):0<n:=Nat.lt_of_le_of_lt (Nat.zero_le _) (vbma h)
inductive Wd where
 | v (n:Int)
 | op (g:Int) (a b:Wd)
def Wd.fl:Wd→List Int
 | .v n=>[n]
 | .op g a b=>g::(a.fl++b.fl)
def Wd.ok:Wd→Prop
 | .v n=>0≤n∧n<5
 | .op g a b=>(g = -1∨g = -2)∧a.ok∧b.ok
theorem Wd.pos:∀ A:Wd,0<A.fl.length
 | .v n=>by simp[Wd.fl]
 | .op g a b=>by simp[Wd.fl]
def At (s:List Int) (i:Nat) (A:Wd):Prop:=A.ok∧∃ r,s.drop i=A.fl++r
theorem At.lt {s:List Int} {i:Nat} {A:Wd} (h:At s i A):i+A.fl.length≤s.length:=by
 obtain⟨_,r,e⟩:=h
 have:=congrArg List.length e
 have:=A.pos
 simp only[List.length_drop,List.length_append] at *
 omega
def ea (E:List P2) (i:Nat):Nat:=(E.getD i (0,0,())).1.toNat
def eb (E:List P2) (i:Nat):Nat:=(E.getD i (0,0,())).2.1.toNat
def sAg (n m:Nat) (lp lq:Nat→Nat→Bool) (S:List Nat) (y z:Nat):Prop :=
 (mt m lq y z<S.length→mt n lp (S.getD y 0) (S.getD z 0)=S.getD (mt m lq y z) 0)∧(mt m (du lq) y z<S.length→mt n (du lp) (S.getD y 0) (S.getD z 0)=S.getD (mt m (du lq) y z) 0)
def sAgr (n m:Nat) (lp lq:Nat→Nat→Bool) (S:List Nat):Prop:=∀ y z,y<S.length→z<S.length→sAg n m lp lq S y z
theorem vci {n m:Nat} {lp lq:Nat→Nat→Bool} {S:List Nat} {y z:Nat} (h:sAg n m lp lq S y z):sAg n m lp lq S z y:=by
 unfold sAg at *
 rw[vas (n:=m) (le:=lq) z y,vas (n:=m) (le:=du lq) z y,vas (n:=n) (le:=lp) (S.getD z 0),vas (n:=n) (le:=du lp) (S.getD z 0)]
 exact h
theorem vul {n:Nat} {S:List Nat} (hS:∀ x∈S,x<n) {y:Nat} (hy:y<S.length):S.getD y 0<n:=by
 rw[vatb hy]
 exact hS _ (List.getElem_mem hy)
theorem vbcz {n m:Nat} {lp lq:Nat→Nat→Bool} (h:LatP n lp) (h':LatP m lq) {S:List Nat} (hS:∀ x∈S,x<n) (h0:0<S.length) (hl:S.length≤m):V76 big (pos n lp) (pos m lq) (cs S)=some (tv (sAgr n m lp lq S),()):=by
 have h10:=h'.le10
 unfold V76 vbbk
 have el:IntKind.i64.wrap (((cs S).length:Int) - 1)=((S.length - 1:Nat):Int):=by rw[cs_len,wr (by omega) (by omega)];omega
 rw[el]
 refine vbsd S.length (fun i=>∀ y z,y<i→z≤y→sAg n m lp lq S y z) (by omega) ?_ ?_ 0 (by omega) (fun y z hy=>by omega)
 ·intro rc i hi hv ih
  unfold vnn
  rw[cs_len,cdt (by omega)]
  refine vbst (i+1) (fun j=>∀ z,z<j→sAg n m lp lq S i z) (by omega) ?_ ?_ 0 (by omega) (fun z hz=>by omega)
  ·intro rc2 j hj hv2 ih2
   have hjS:j<S.length:=by omega
   have hmm:=h'.mlt (show i<m by omega) (show j<m by omega)
   have hjj:=h'.du.mlt (show i<m by omega) (show j<m by omega)
   have bad:¬ sAg n m lp lq S i j→tv (sAgr n m lp lq S)=false:=fun hb=>tv_f fun H=>hb (H i j hi hjS)
   unfold vnj
   simp only[cdt (show (j:Int)≤(i:Int) by omega),vbb h' (show i<m by omega) (show j<m by omega),vbc h' (show i<m by omega) (show j<m by omega),Option.bind_some,vdn hi,vdn hjS,vbb h (vul hS hi) (vul hS hjS),vbc h (vul hS hi) (vul hS hjS),wr1 (show j≤4611686018427387904 by omega)]
   have next:sAg n m lp lq S i j→rc2 (cs S) (pos n lp) (pos m lq) ((S.length - 1:Nat):Int) (i:Int) ((j+1:Nat):Int)=some (tv (sAgr n m lp lq S),()):=fun hg=>ih2 fun z hz=>by
    by_cases e:z=j
    ·subst e;exact hg
    ·exact hv2 z (by omega)
   have join:(mt m lq i j<S.length→mt n lp (S.getD i 0) (S.getD j 0)=S.getD (mt m lq i j) 0)→(cond (decide (((mt m (du lq) i j:Nat):Int)≤((S.length - 1:Nat):Int)))
     ((atI (cs S) ((mt m (du lq) i j:Nat):Int)).bind fun xq14=>cond (decide (((mt n (du lp) (S.getD i 0) (S.getD j 0):Nat):Int)≠xq14)) (some (false,(())))
      (rc2 (cs S) (pos n lp) (pos m lq) ((S.length - 1:Nat):Int) (i:Int) ((j+1:Nat):Int)))
     (rc2 (cs S) (pos n lp) (pos m lq) ((S.length - 1:Nat):Int) (i:Int) ((j+1:Nat):Int)))=some (tv (sAgr n m lp lq S),()):=by
    intro hm
    by_cases c2:mt m (du lq) i j<S.length
    ·rw[cdt (by omega),vdn c2,Option.bind_some]
     by_cases e2:mt n (du lp) (S.getD i 0) (S.getD j 0)=S.getD (mt m (du lq) i j) 0
     ·rw[cdf (by omega)]
      exact next ⟨hm,fun _=>e2⟩
     ·rw[cdt (by omega),bad fun H=>e2 (H.2 c2)]
    ·rw[cdf (by omega)]
     exact next ⟨hm,fun c=>absurd c c2⟩
   by_cases c1:mt m lq i j<S.length
   ·rw[cdt (by omega),vdn c1,Option.bind_some]
    by_cases e1:mt n lp (S.getD i 0) (S.getD j 0)=S.getD (mt m lq i j) 0
    ·rw[cdf (by omega)]
     exact join fun _=>e1
    ·rw[cdt (by omega),bad fun H=>e1 (H.1 c1)]
   ·rw[cdf (by omega)]
    exact join fun c=>absurd c c1
  ·intro rc2 hv2
   unfold vnj
   rw[cdf (by omega),vqj,wr1 (by omega)]
   refine ih fun y z hy hz => ?_
   by_cases e:y=i
   ·subst e;exact hv2 z (by omega)
   ·exact hv y z (by omega) hz
 ·intro rc hv
  unfold vnn
  rw[cs_len,cdf (by omega),vfp,tv_t]
  intro y z hy hz
  rcases Nat.le_total z y with c | c
  ·exact hv y z hy c
  ·exact vci (hv z y hz c)
theorem vbah {n m:Nat} {lp lq:Nat→Nat→Bool} (h:LatP n lp) (h':LatP m lq) {S:List Nat} (hS:∀ x∈S,x<n) (hl:S.length≤m):V69 big (some (lat n lp)) (some (lat m lq)) (cs S)=some (tv (sAgr n m lp lq S),()):=by
 have h10:=h'.le10
 unfold V69 vbat
 rw[cs_len]
 refine vbsz S.length (fun i=>∀ y z,y<i→z<S.length→sAg n m lp lq S y z) (by omega) ?_ ?_ 0 (by omega) (fun y z hy=>by omega)
 ·intro rc i hi hv ih
  unfold vou
  rw[cs_len,cdt (by omega)]
  refine vbtg S.length (fun j=>∀ z,z<j→sAg n m lp lq S i z) (by omega) ?_ ?_ 0 (by omega) (fun z hz=>by omega)
  ·intro rc2 j hj hv2 ih2
   have him:i<m:=by omega
   have hjm:j<m:=by omega
   have hiS:=vul hS hi
   have hjS:=vul hS hj
   have bad:¬ sAg n m lp lq S i j→tv (sAgr n m lp lq S)=false:=fun hb=>tv_f fun H=>hb (H i j hi hj)
   unfold vpx
   simp only[cdt (show (j:Int)<(S.length:Int) by omega),Option.bind_some,lat2,lat3,vae him,vae hjm,cs_len,vdn hi,vdn hj,vae hiS,vae hjS,wr1 (show j≤4611686018427387904 by omega)]
   have next:sAg n m lp lq S i j→rc2 (some (lat n lp)) (some (lat m lq)) (cs S) (i:Int) (S.length:Int) (i:Int) (S.length:Int) ((j+1:Nat):Int)=some (tv (sAgr n m lp lq S),()):=fun hg=>ih2 fun z hz=>by
    by_cases e:z=j
    ·subst e;exact hg
    ·exact hv2 z (by omega)
   have join:(mt m lq i j<S.length→mt n lp (S.getD i 0) (S.getD j 0)=S.getD (mt m lq i j) 0)→(cond (decide (((mt m (du lq) i j:Nat):Int)<(S.length:Int)))
     ((atI (cs S) ((mt m (du lq) i j:Nat):Int)).bind fun xq14=>cond (decide (((mt n (du lp) (S.getD i 0) (S.getD j 0):Nat):Int)≠xq14)) (some (false,(())))
      (rc2 (some (lat n lp)) (some (lat m lq)) (cs S) (i:Int) (S.length:Int) (i:Int) (S.length:Int) ((j+1:Nat):Int)))
     (rc2 (some (lat n lp)) (some (lat m lq)) (cs S) (i:Int) (S.length:Int) (i:Int) (S.length:Int) ((j+1:Nat):Int)))=some (tv (sAgr n m lp lq S),()):=by
    intro hm
    by_cases c2:mt m (du lq) i j<S.length
    ·rw[cdt (by omega),vdn c2,Option.bind_some]
     by_cases e2:mt n (du lp) (S.getD i 0) (S.getD j 0)=S.getD (mt m (du lq) i j) 0
     ·rw[cdf (by omega)]
      exact next ⟨hm,fun _=>e2⟩
     ·rw[cdt (by omega),bad fun H=>e2 (H.2 c2)]
    ·rw[cdf (by omega)]
     exact next ⟨hm,fun c=>absurd c c2⟩
   by_cases c1:mt m lq i j<S.length
   ·rw[cdt (by omega),vdn c1,Option.bind_some]
    by_cases e1:mt n lp (S.getD i 0) (S.getD j 0)=S.getD (mt m lq i j) 0
    ·rw[cdf (by omega)]
     exact join fun _=>e1
    ·rw[cdt (by omega),bad fun H=>e1 (H.1 c1)]
   ·rw[cdf (by omega)]
    exact join fun c=>absurd c c1
  ·intro rc2 hv2
   unfold vpx
   rw[cdf (by omega),voq,wr1 (by omega)]
   refine ih fun y z hy hz => ?_
   by_cases e:y=i
   ·subst e;exact hv2 z hz
   ·exact hv y z (by omega) hz
 ·intro rc hv
  unfold vou
  rw[cdf (by omega),vhl,tv_t]
  exact fun y z hy hz=>hv y z hy hz
theorem vyc {α:Type} {n i:Nat} {g:Nat→Option α} {T:α} (hi:i<n) (h:∀ x,x<i→g x=none) (hg:g i=some T):(List.range n).findSome? g=some T:=by
 rw[List.findSome?_eq_some_iff]
 refine⟨List.range i,i,(List.range n).drop (i+1), ?_,hg,fun x hx=>h x (List.mem_range.1 hx)⟩
 have e:(List.range n).take i=List.range i:=by
  apply List.ext_getElem
  ·simp;omega
  ·intro k h1 h2;simp
 have e2:=List.take_append_drop i (List.range n)
 rw[e,List.drop_eq_getElem_cons (by simpa using hi)] at e2
 simpa using e2.symm
theorem vrk {α:Type} {n:Nat} {g:Nat→Option α} (h:∀ x,x<n→g x=none):(List.range n).findSome? g=none:=by
 rw[List.findSome?_eq_none_iff]
 exact fun x hx=>h x (List.mem_range.1 hx)
noncomputable def sub (n m:Nat) (lp lq:Nat→Nat→Bool):Nat→List Nat→Option (List Nat)
 | 0,S=>some S
 | k+1,S=>(List.range n).findSome? fun x=>if x∈S then none else bif tv (sAgr n m lp lq (S++[x])) then sub n m lp lq k (S++[x]) else none
theorem vaxh {n m:Nat} {lp lq:Nat→Nat→Bool}:∀ {k:Nat} {S T:List Nat},sub n m lp lq k S=some T→T.length=S.length+k
 | 0,S,T,h=>by
  simp only[sub,Option.some.injEq] at h
  rw[← h];rfl
 | k+1,S,T,h=>by
  simp only[sub] at h
  obtain⟨x,_,h⟩:=List.exists_of_findSome?_eq_some h
  split at h
  ·cases h
  ·cases hb:tv (sAgr n m lp lq (S++[x])) with
   | false=>rw[hb] at h;cases h
   | true =>
    rw[hb] at h
    have:=vaxh h
    simp only[List.length_append,List.length_cons,List.length_nil] at this
    omega
def sOut (r:Option (List Nat)):List Int×Bool×Unit:=match r with
 | none=>([],false,())
 | some T=>(cs T,true,())
theorem vaja {n m:Nat} {lp lq:Nat→Nat→Bool} (h:LatP n lp) (h':LatP m lq):∀ (k:Nat) (S:List Nat),(∀ x∈S,x<n)→S.length+k=m→∀ d,k<d →
  R_V77 d (pos n lp,pos m lq,cs S,())=some (sOut (sub n m lp lq k S),())∧R_V70 d (some (lat n lp),some (lat m lq),cs S,())=some ((sub n m lp lq k S).map cs,((),()))
 | k,S,hS,hk,0,hd=>by omega
 | 0,S,hS,hk,d+1,hd=>by
  have h0:=vbqk h'
  have hk:S.length=m:=by omega
  constructor
  ·show V77 _ big (pos n lp) (pos m lq) (cs S)=_
   unfold V77 vapu
   rw[vah,cs_len,cdt (by omega)]
   rfl
  ·show V70 _ big (some (lat n lp)) (some (lat m lq)) (cs S)=_
   unfold V70 vapd
   rw[Option.bind_some,lat1,mkR_len,cs_len,cdt (by omega)]
   cases S with
   | nil=>simp at hk;omega
   | cons x S=>rfl
 | k+1,S,hS,hk,d+1,hd=>by
  have h10:=h.le10
  have h10':=h'.le10
  have key:∀ x,x<n→V33 big (cs S) (x:Int)=some (decide (x ∉ S),()):=fun x _=>by
   rw[vami _ _ (by rw[cs_len];omega)]
   congr 2
   exact decide_eq_decide.2 (not_congr cs_mem)
  have hsnoc:∀ x:Nat,cs S++[(x:Int)]=cs (S++[x]):=fun x=>by rw[vcl];rfl
  have hS2:∀ x:Nat,x<n→∀ y∈S++[x],y<n:=by
   intro x hx y hy
   rcases List.mem_append.1 hy with hy | hy
   ·exact hS y hy
   ·rw[List.mem_singleton] at hy;omega
  have hl2:∀ x:Nat,(S++[x]).length=S.length+1:=fun x=>by simp
  have ih:∀ x,x<n→_:=fun x hx=>vaja h h' k (S++[x]) (hS2 x hx) (by rw[hl2];omega) d (by omega)
  constructor
  ·show V77 _ big (pos n lp) (pos m lq) (cs S)=_
   unfold V77 vapu
   rw[vah,cs_len,cdf (by omega)]
   refine vbrs _ n (fun i=>∀ x,x<i→(if x∈S then none else bif tv (sAgr n m lp lq (S++[x])) then sub n m lp lq k (S++[x]) else none)=none) (by omega) ?_ ?_ 0 (by omega) (fun x hx=>by omega)
   ·intro rc i hi hv ih2
    have next:(if i∈S then none else bif tv (sAgr n m lp lq (S++[i])) then sub n m lp lq k (S++[i]) else none)=none→rc (cs S) (pos n lp) (pos m lq) ((i+1:Nat):Int)=some (sOut (sub n m lp lq (k+1) S),()):=fun hg=>ih2 fun x hx=>by
     by_cases e:x=i
     ·subst e;exact hg
     ·exact hv x (by omega)
    have own:V73 (cs S)=some (cs S,()):=vasz _ (by rw[cs_len];omega)
    unfold vnl
    rw[vah,cdt (by omega),own,Option.bind_some,app1 (by rw[cs_len];omega),Option.bind_some,vxy _ _ (by omega),Option.bind_some,hsnoc,wr1 (by omega)]
    by_cases hin:i∈S
    ·rw[decide_eq_true hin,cond_true]
     exact next (by rw[if_pos hin])
    ·rw[decide_eq_false hin,cond_false,vbcz h h' (hS2 i hi) (by rw[hl2];omega) (by rw[hl2];omega),Option.bind_some]
     rw[if_neg hin] at next
     cases hb:tv (sAgr n m lp lq (S++[i])) with
     | false=>exact next (by rw[hb];rfl)
     | true =>
      rw[hb] at next
      rw[Bool.not_true,cond_false,(ih i hi).1,Option.bind_some]
      cases hr:sub n m lp lq k (S++[i]) with
      | none=>exact next hr
      | some T =>
       have e:sub n m lp lq (k+1) S=some T:=vyc hi hv (by rw[if_neg hin,hb];exact hr)
       rw[e]
       rfl
   ·intro rc hv
    have e:sub n m lp lq (k+1) S=none:=vrk hv
    unfold vnl
    rw[vah,cdf (by omega),voz,e]
    rfl
  ·show V70 _ big (some (lat n lp)) (some (lat m lq)) (cs S)=_
   unfold V70 vapd
   rw[Option.bind_some,lat1,mkR_len,cs_len,cdf (by omega),Option.bind_some,lat1,mkR_len]
   refine vbrx _ n (fun i=>∀ x,x<i→(if x∈S then none else bif tv (sAgr n m lp lq (S++[x])) then sub n m lp lq k (S++[x]) else none)=none) (by omega) ?_ ?_ 0 (by omega) (fun x hx=>by omega)
   ·intro rc i hi hv ih2
    have next:(if i∈S then none else bif tv (sAgr n m lp lq (S++[i])) then sub n m lp lq k (S++[i]) else none)=none→rc (some (lat n lp)) (some (lat m lq)) (cs S) (n:Int) ((i+1:Nat):Int)=some ((sub n m lp lq (k+1) S).map cs,((),())):=fun hg=>ih2 fun x hx=>by
     by_cases e:x=i
     ·subst e;exact hg
     ·exact hv x (by omega)
    unfold vol
    rw[cdt (by omega),key i hi,Option.bind_some,wr1 (by omega)]
    by_cases hin:i∈S
    ·rw[decide_eq_false (fun c=>c hin),Bool.not_false,cond_true]
     exact next (by rw[if_pos hin])
    ·rw[decide_eq_true hin,Bool.not_true,cond_false,vbjz _ (by rw[cs_len];omega),Option.bind_some,app1 (by rw[cs_len];omega),Option.bind_some,hsnoc,vbah h h' (hS2 i hi) (by rw[hl2];omega),Option.bind_some]
     rw[if_neg hin] at next
     cases hb:tv (sAgr n m lp lq (S++[i])) with
     | false=>exact next (by rw[hb];rfl)
     | true =>
      rw[hb] at next
      rw[Bool.not_true,cond_false,(ih i hi).2,Option.bind_some]
      cases hr:sub n m lp lq k (S++[i]) with
      | none=>exact next hr
      | some T =>
       have e:sub n m lp lq (k+1) S=some T:=vyc hi hv (by rw[if_neg hin,hb];exact hr)
       rw[e]
       rfl
   ·intro rc hv
    have e:sub n m lp lq (k+1) S=none:=vrk hv
    unfold vol
    rw[cdf (by omega),vpl,e]
    rfl
theorem vbbf (p q:PT) (hx:∀ r∈p.1,r.length≤4294967296) (hx':∀ r∈q.1,r.length≤4294967296):∃ v:List Int×Bool×Unit,V79 p q=some (v,())∧V72 p q=some (v,())∧v.1.length≤10:=by
 unfold V79 vbmg V72 vbau V67 vbbm
 rcases vcf hx with⟨n,lp,e,h,h1,h2⟩ | ⟨h1,l,h2⟩
 ·subst e
  rw[h1,h2,Option.bind_some,Option.bind_some]
  simp only[Bool.not_true,cond_false]
  rcases vcf hx' with⟨m,lq,e,h',h1',h2'⟩ | ⟨h1',l',h2'⟩
  ·subst e
   rw[h1',h2',Option.bind_some,Option.bind_some]
   simp only[Bool.not_true,cond_false,cond_true,Option.bind_some]
   have hb:=vac
   have h10:=h'.le10
   obtain⟨f1,f2⟩:=vaja h h' m [] (by simp) (by simp) big (by omega)
   rw[cs_nil] at f1 f2
   rw[f1,f2,Option.bind_some,Option.bind_some]
   cases hr:sub n m lp lq m [] with
   | none=>exact⟨_,rfl,rfl,by simp[sOut]⟩
   | some T =>
    have:=vaxh hr
    refine⟨_,rfl,rfl, ?_⟩
    simp only[sOut,cs_len]
    simp at this
    omega
  ·rw[h1',h2',Option.bind_some,Option.bind_some]
   exact⟨_,rfl,rfl,by simp⟩
 ·rw[h1,h2,Option.bind_some,Option.bind_some]
  simp only[Bool.not_false,cond_true]
  rcases vcf hx' with⟨m,lq,e,h',h1',h2'⟩ | ⟨h1',l',h2'⟩
  ·rw[h2']
   exact⟨_,rfl,rfl,by simp⟩
  ·rw[h2']
   exact⟨_,rfl,rfl,by simp⟩
abbrev Cu:=List Int×Int×Int×Unit
def COk (k:Nat) (c:Cu):Prop:=0≤c.2.1∧c.2.1+k≤4611686018427387904∧c.1.length≤65536∧∀ x∈c.1,0≤x∧x≤255
theorem and255 (x:Int):∃ n:Nat,n≤255∧bitI .and .u64 x 255=(n:Int):=by
 refine⟨(BitVec.ofInt IntKind.u64.bits x &&& BitVec.ofInt IntKind.u64.bits 255).toNat, ?_, ?_⟩
 ·rw[BitVec.toNat_and]
  exact Nat.le_trans Nat.and_le_right (by decide)
 ·have h:(BitVec.ofInt IntKind.u64.bits x &&& BitVec.ofInt IntKind.u64.bits 255).toNat≤255:=by
   rw[BitVec.toNat_and]
   exact Nat.le_trans Nat.and_le_right (by decide)
  unfold bitI
  exact IntWalk.u64_in _ (by omega)
theorem varv {k:Nat} {c:Cu} (h:COk (k+1) c):∃ v c',V1 c=some (v,(c',()))∧0≤v∧v≤255∧COk k c':=by
 obtain⟨h0,h1,h2,h3⟩:=h
 obtain⟨l,a,s,u⟩:=c
 simp only at h0 h1 h2 h3
 have hw:IntKind.i64.wrap (a+1)=a+1:=wr (by omega) (by omega)
 have key:∀ s':Int,COk k (l,a+1,s',u):=fun s'=>⟨by show 0≤a+1;omega,by show a+1+k≤_;omega,h2,h3⟩
 have tail:∀ s':Int,∃ v c',((shrI IntKind.u64 s' (40:Int)).bind fun xq=>some (IntKind.i64.wrap (bitI .and IntKind.u64 xq (255:Int)),((l,a+1,s',u),())))=some (v,(c',()))∧0≤v∧v≤255∧COk k c':=by
  intro s'
  obtain⟨n,hn,e⟩:=and255 (s'.fdiv (2 ^ min (40:Int).toNat IntKind.u64.bits))
  unfold shrI
  rw[if_neg (by omega),Option.bind_some,e,wr (by omega) (by omega)]
  exact⟨_,_,rfl,by omega,by omega,key s'⟩
 unfold V1 V1_s
 dsimp only
 rw[hw]
 by_cases ha:a<(l.length:Int)
 ·rw[cdt ha]
  have hal:a.toNat<l.length:=by omega
  have e:atI l a=some l[a.toNat]:=by
   have:=vag l a.toNat hal
   rwa [show ((a.toNat:Nat):Int)=a by omega] at this
  have hb:=h3 _ (List.getElem_mem hal)
  rw[e,Option.bind_some]
  by_cases c:a+1≤(l.length:Int)
  ·rw[cdt c,wr (by omega) (by omega)]
   exact⟨_,_,rfl,hb.1,hb.2,key _⟩
  ·rw[cdf c]
   exact tail _
 ·rw[cdf ha]
  by_cases c:a+1≤(l.length:Int)
  ·rw[cdt c]
   exact⟨_,_,rfl,by omega,by omega,key _⟩
  ·rw[cdf c]
   exact tail _
theorem COk.mono {k j:Nat} {c:Cu} (h:COk k c) (hj:j≤k):COk j c:=by
 obtain⟨h0,h1,h2,h3⟩:=h
 exact⟨h0,by omega,h2,h3⟩
theorem vapz {a n:Int} (ha:0≤a) (hn:0<n):∃ v,remI a n=some v∧0≤v∧v<n:=by
 refine⟨a.tmod n, ?_,Int.tmod_nonneg n ha,Int.tmod_lt_of_pos a hn⟩
 unfold remI
 rw[if_neg (by omega)]
theorem vaq {k:Nat} {c:Cu} (h:COk (k+2) c) (n:Int):∃ v c',V2 c n=some (v,(c',()))∧0≤v∧(1≤n→v<n)∧COk k c':=by
 unfold V2 V2_s
 by_cases h1:n≤1
 ·rw[cdt h1]
  exact⟨_,_,rfl,by omega,by omega,h.mono (by omega)⟩
 ·obtain⟨v,c1,e1,a1,a2,k1⟩:=varv (k:=k+1) h
  rw[cdf h1,e1,Option.bind_some]
  by_cases h2:200<n
  ·obtain⟨v2,c2,e2,b1,b2,k2⟩:=varv k1
   rw[cdt h2]
   dsimp only
   rw[e2,Option.bind_some]
   dsimp only
   rw[wr (n:=v * 256) (by omega) (by omega),wr (by omega) (by omega)]
   obtain⟨z,ez,z0,z1⟩:=vapz (a:=v * 256+v2) (n:=n) (by omega) (by omega)
   rw[ez,Option.bind_some]
   exact⟨_,_,rfl,z0,fun _=>z1,k2⟩
  ·rw[cdf h2]
   dsimp only
   obtain⟨z,ez,z0,z1⟩:=vapz (a:=v) (n:=n) a1 (by omega)
   rw[ez,Option.bind_some]
   exact⟨_,_,rfl,z0,fun _=>z1,k1.mono (by omega)⟩
theorem vqn {k:Nat} {c:Cu} (h:COk (k+2) c) (n:Int):∃ b c',V3 c n=some (b,(c',()))∧COk k c':=by
 obtain⟨v,c1,e1,_,_,k1⟩:=vaq h n
 unfold V3 V3_s
 rw[e1,Option.bind_some]
 exact⟨_,_,rfl,k1⟩
theorem vals {k:Nat} {c:Cu} (h:COk (k+2) c) {l:List Int} (hl:l≠[]):∃ v c',V4 c l=some (v,(c',()))∧v∈l∧COk k c':=by
 obtain⟨v,c1,e1,h0,h1,k1⟩:=vaq h (l.length:Int)
 have hp:=List.length_pos_iff.2 hl
 have hv:=h1 (by omega)
 have hvl:v.toNat<l.length:=by omega
 have e:atI l v=some l[v.toNat]:=by
  have:=vag l v.toNat hvl
  rwa [show ((v.toNat:Nat):Int)=v by omega] at this
 unfold V4 V4_s
 rw[e1,Option.bind_some]
 dsimp only
 rw[e,Option.bind_some]
 exact⟨_,_,rfl,List.getElem_mem hvl,k1⟩
def Codes (code:List Int):Prop:=code.length≤65536∧∀ x∈code,0≤x∧x≤255
theorem Codes.start {code:List Int} (h:Codes code):COk 10000 (code,(0:Int),(0:Int),()):=⟨Int.le_refl _,by show (0:Int)+(10000:Nat)≤_;omega,h.1,h.2⟩
abbrev PTd:=List (List Int)×Unit
def DrP (m:Nat) (p:PTd):Prop:=p.1.length≤m∧∀ r∈p.1,r.length≤m
theorem varb {n:Int} (h1 : -1000≤n) (h2:n≤1000) {l:List Int} (hl:l.length≤1000):∃ b,V7 big n l=some (b,())∧(b=true→∀ x∈l,0≤x∧x<n):=by
 unfold V7 V7_s
 refine vbuj (Q:=fun r=>∃ b,r=some (b,())∧(b=true→∀ x∈l,0≤x∧x<n)) l.length (fun i=>∀ x∈l.take i,0≤x∧x<n) (by omega) (fun rc i hi hI hr => ?_) (fun rc hI => ?_) 0 (by omega) (by simp)
 ·unfold vvs
  rw[cdt (by omega),vag l i hi,Option.bind_some,vazo,Option.bind_some,wr (by omega) (by omega)]
  by_cases c:0≤l[i]∧l[i]≤n - 1
  ·rw[decide_eq_true c]
   simp only[Bool.not_true,cond_false]
   rw[wr (by omega) (by omega)]
   refine hr fun x hx => ?_
   rw[List.take_succ_eq_append_getElem hi,List.mem_append,List.mem_singleton] at hx
   rcases hx with hx | rfl
   ·exact hI x hx
   ·omega
  ·rw[decide_eq_false c]
   simp only[Bool.not_false,cond_true]
   exact⟨_,rfl,fun h=>by cases h⟩
 ·unfold vvs vuj
  rw[cdf (by omega)]
  refine⟨_,rfl,fun _ => ?_⟩
  have hI:∀ x∈l.take l.length,0≤x∧x<n:=hI
  rwa [List.take_of_length_le (Nat.le_refl _)] at hI
theorem vatj {n:Nat} (hn:n≤1000) {l:List Int} (hl:l.length≤1000):∃ b,V8 big l (n:Int)=some (b,())∧(b=true→l.length=n∧∀ x∈l,0≤x∧x<n):=by
 unfold V8 V8_s
 by_cases h:(l.length:Int)≠(n:Int)
 ·rw[cdt h]
  exact⟨_,rfl,fun h=>by cases h⟩
 ·rw[cdf h]
  have hln:l.length=n:=by omega
  obtain⟨b,e,hb⟩:=varb (n:=(n:Int)) (by omega) (by omega) hl
  rw[e,Option.bind_some]
  cases b with
  | false=>exact⟨_,rfl,fun h=>by cases h⟩
  | true =>
   have hb:=hb rfl
   simp only[Bool.not_true,cond_false]
   rw[vazs false n (by omega),Option.bind_some,Option.bind_some,cdt (by omega)]
   refine vbut (Q:=fun r=>∃ b,r=some (b,())∧(b=true→l.length=n∧∀ x∈l,0≤x∧x<n)) n (fun i s=>s.length=n) (by omega) (fun rc i s hi hI hr => ?_) (fun rc s hI => ?_) 0 (by omega) _ (by simp)
   ·unfold vwu
    have hil:i<l.length:=by omega
    have hx:=hb _ (List.getElem_mem hil)
    have hxl:l[i].toNat<s.length:=by rw[hI];omega
    have ea:atI s l[i]=some s[l[i].toNat]:=by
     have:=vag s l[i].toNat hxl
     rwa [show ((l[i].toNat:Nat):Int)=l[i] by omega] at this
    rw[cdt (by omega),vag l i hil,Option.bind_some,ea,Option.bind_some,List.getElem?_eq_getElem hxl,Option.bind_some]
    cases s[l[i].toNat] with
    | true=>exact⟨_,rfl,fun h=>by cases h⟩
    | false =>
     rw[cond_false,Option.bind_some,ea,Option.bind_some,List.getElem?_eq_getElem hxl,Option.bind_some,wr (by omega) (by omega)]
     exact hr _ (by simpa using hI)
   ·unfold vwu vvn
    rw[cdf (by omega)]
    exact⟨_,rfl,fun _=>⟨hln,hb⟩⟩
theorem vagv {k n:Nat} (hn:n≤1000) {c:Cu} (h:COk (k+2 * n+6) c):∃ l c',V5 big c (n:Int)=some (l,(c',()))∧l.length≤n+1∧COk k c':=by
 unfold V5 V5_s
 refine vbui (Q:=fun r=>∃ l c',r=some (l,(c',()))∧l.length≤n+1∧COk k c') n (fun i c l=>l.length=i∧COk (k+2 * (n - i)+6) c) (by omega) (fun rc i c l hi hI hr => ?_) (fun rc c l hI => ?_) 0 (by omega) _ _ ⟨rfl,by simpa using h⟩
 ·obtain⟨hl,hc⟩:=hI
  unfold vvo
  obtain⟨v,c',e,v0,v1,hc'⟩:=vaq (k:=k+2 * (n - (i+1))+6) (hc.mono (by omega)) ((l.length:Int)+1)
  have hv:=v1 (by omega)
  rw[cdt (by omega),wr (n:=(l.length:Int)+1) (by omega) (by omega),e,Option.bind_some]
  dsimp only
  have s1:slI l 0 v=some ((l.drop 0).take (v - 0).toNat):=by unfold slI;rw[if_pos (by omega)];rfl
  have s2:slI l v (l.length:Int)=some ((l.drop v.toNat).take ((l.length:Int) - v).toNat):=by unfold slI;rw[if_pos (by omega)]
  rw[s1,Option.bind_some,vao (by simp;omega),Option.bind_some,vao (by simp;omega),Option.bind_some,s2,Option.bind_some,vao (by simp;omega),Option.bind_some,wr (by omega) (by omega)]
  refine hr _ _ ⟨?_,hc'⟩
  simp
  omega
 ·obtain⟨hl,hc⟩:=hI
  unfold vvo vwb
  rw[cdf (by omega)]
  obtain⟨v,c',e,v0,v1,hc'⟩:=vaq (k:=k+4) (hc.mono (by omega)) 24
  rw[e,Option.bind_some]
  dsimp only
  by_cases h0:v=0
  ·rw[cdt h0,vao (by simp;omega),Option.bind_some]
   exact⟨_,_,rfl,by simp[hl],hc'.mono (by omega)⟩
  ·rw[cdf h0]
   by_cases h1:v=1
   ·rw[cdt h1]
    by_cases h2:(0:Int)<n
    ·rw[cdt h2]
     obtain⟨v2,c2,e2,a0,a1,hc2⟩:=vaq (k:=k+2) (hc'.mono (by omega)) (n:Int)
     have ha:=a1 (by omega)
     obtain⟨v3,c3,e3,_,hc3⟩:=vals (k:=k) hc2 (l:=[(0:Int), -1,(n:Int)]) (by simp)
     have hvl:v2.toNat<l.length:=by omega
     have ea:atI l v2=some l[v2.toNat]:=by
      have:=vag l v2.toNat hvl
      rwa [show ((v2.toNat:Nat):Int)=v2 by omega] at this
     rw[e2,Option.bind_some]
     dsimp only
     rw[e3,Option.bind_some]
     dsimp only
     rw[ea,Option.bind_some,List.getElem?_eq_getElem hvl,Option.bind_some]
     exact⟨_,_,rfl,by simp[hl],hc3⟩
    ·rw[cdf h2]
     exact⟨_,_,rfl,by omega,hc'.mono (by omega)⟩
   ·rw[cdf h1]
    exact⟨_,_,rfl,by omega,hc'.mono (by omega)⟩
def MX (n:Nat) (m:List (List Bool)):Prop:=m.length=n∧(∀ r∈m,r.length=n)∧∀ i,i<n→∃ r,m[i]? = some r∧r[i]? = some true
theorem MX.set {n:Nat} {m:List (List Bool)} (h:MX n m) {x y:Nat} {r:List Bool} (hr:m[x]? = some r) {v:Bool} (hv:x=y→v=true):MX n (m.set x (r.set y v)):=by
 obtain⟨h1,h2,h3⟩:=h
 have hx:=(List.getElem?_eq_some_iff.1 hr).1
 refine⟨by simpa using h1,fun q hq => ?_,fun i hi => ?_⟩
 ·rcases List.mem_or_eq_of_mem_set hq with hq | rfl
  ·exact h2 q hq
  ·rw[List.length_set];exact h2 r (List.mem_of_getElem? hr)
 ·obtain⟨q,q1,q2⟩:=h3 i hi
  by_cases e:x=i
  ·subst e
   rw[hr] at q1
   cases q1
   refine⟨_,by rw[List.getElem?_set_self hx], ?_⟩
   by_cases e:y=x
   ·subst e
    have hl:y<r.length:=(List.getElem?_eq_some_iff.1 q2).1
    rw[List.getElem?_set_self hl,hv rfl]
   ·rw[List.getElem?_set_ne e];exact q2
  ·exact⟨q,by rw[List.getElem?_set_ne e];exact q1,q2⟩
theorem MX.at {n:Nat} {m:List (List Bool)} (h:MX n m) {x y:Nat} (hx:x<n) (hy:y<n):∃ r v,m[x]? = some r∧atI m (x:Int)=some r∧r[y]? = some v∧atI r (y:Int)=some v∧(x=y→v=true):=by
 obtain⟨h1,h2,h3⟩:=h
 have hl:x<m.length:=by omega
 have hr:=h2 _ (List.getElem_mem hl)
 have hyl:y<(m[x]).length:=by omega
 refine⟨m[x],(m[x])[y],List.getElem?_eq_getElem hl,vag m x hl,List.getElem?_eq_getElem hyl,vag _ y hyl,fun e => ?_⟩
 subst e
 obtain⟨q,q1,q2⟩:=h3 x hx
 rw[List.getElem?_eq_getElem hl] at q1
 cases q1
 rw[List.getElem?_eq_getElem hyl] at q2
 exact Option.some.inj q2
def Fr (n:Nat) (r:Option (PTd×Unit)):Prop:=∃ p:PTd,r=some (p,())∧p.1.length=n∧∀ q∈p.1,1≤q.length∧q.length≤n
theorem vbjo {n:Nat} (hn:n≤100) {t4:PTd} {m:List (List Bool)} (hm:MX n m):Fr n (vee big (n:Int) t4 m ([],()) (0:Int)):=by
 refine vbtu (Q:=Fr n) n (fun i p=>p.1.length=i∧∀ q∈p.1,1≤q.length∧q.length≤n) (by omega) (fun rc i p hi hI hr => ?_) (fun rc p hI => ?_) 0 (by omega) _ ⟨rfl,by simp⟩
 ·obtain⟨hI1,hI2⟩:=hI
  unfold vqd
  rw[cdt (by omega)]
  refine vbsq (Q:=Fr n) n (fun j b=>b.length≤j∧(i<j→1≤b.length)) (by omega) (fun rc2 j b hj hJ hr2 => ?_) (fun rc2 b hJ => ?_) 0 (by omega) _ ⟨by simp,by omega⟩
  ·unfold vny
   obtain⟨r,v,e1,e2,e3,e4,e5⟩:=hm.at hj hi
   rw[cdt (by omega),e2,Option.bind_some,Int.toNat_natCast,e1,Option.bind_some,Option.bind_some,e4,Option.bind_some,Option.bind_some,Int.toNat_natCast,e3,Option.bind_some]
   cases v with
   | true =>
    rw[cond_true,vao (by simp;omega),Option.bind_some,wr (by omega) (by omega)]
    exact hr2 _ ⟨by simp;omega,fun _=>by simp⟩
   | false =>
    rw[cond_false,wr (by omega) (by omega)]
    refine hr2 _ ⟨by omega,fun h=>hJ.2 ?_⟩
    rcases Nat.lt_or_ge i j with h' | h'
    ·exact h'
    ·have:j=i:=by omega
     exact absurd (e5 this) (by simp)
  ·unfold vny vqw
   rw[cdf (by omega),vao (by simp;omega),Option.bind_some,wr (by omega) (by omega)]
   refine hr _ ⟨by simp[hI1],fun q hq => ?_⟩
   rcases List.mem_append.1 hq with hq | hq
   ·exact hI2 q hq
   ·rw[List.mem_singleton] at hq
    subst hq
    exact⟨hJ.2 hi,hJ.1⟩
 ·unfold vqd vhu
  rw[cdf (by omega)]
  exact⟨_,rfl,hI.1,hI.2⟩
theorem vbcw {n:Nat} (hn:n≤100) {t4:PTd} {m:List (List Bool)} (hm:MX n m):Fr n (vkg big (n:Int) t4 m (0:Int)):=by
 refine vbtb (Q:=Fr n) n (fun _ m=>MX n m) (by omega) (fun rc z m hz hm hr => ?_) (fun rc m hm => ?_) 0 (by omega) _ hm
 ·unfold vof
  rw[cdt (by omega)]
  refine vbrv (Q:=Fr n) n (fun _ m=>MX n m) (by omega) (fun rc x m hx hm hr2 => ?_) (fun rc m hm => ?_) 0 (by omega) _ hm
  ·unfold vqr
   rw[cdt (by omega)]
   refine vbtm (Q:=Fr n) n (fun _ m=>MX n m) (by omega) (fun rc y m hy hm hr3 => ?_) (fun rc m hm => ?_) 0 (by omega) _ hm
   ·unfold vpz
    obtain⟨r,v,e1,e2,e3,e4,e5⟩:=hm.at hx hy
    obtain⟨r',v',f1,f2,f3,f4,f5⟩:=hm.at hx hz
    rw[e1] at f1
    cases f1
    obtain⟨s,u,g1,g2,g3,g4,g5⟩:=hm.at hz hy
    simp only[Int.toNat_natCast,cdt (show (y:Int)<n by omega),e1,e2,e3,e4,f3,f4,g1,g2,g3,g4,Option.bind_some]
    rw[wr (by omega) (by omega),show (y:Int)+1=((y+1:Nat):Int) by omega]
    cases v with
    | true =>
     rw[cond_true]
     exact hr3 _ (hm.set e1 fun _=>rfl)
    | false =>
     have hxy:x≠y:=fun e=>by have:=e5 e;cases this
     rw[cond_false]
     cases v' with
     | true=>rw[cond_true];exact hr3 _ (hm.set e1 fun e=>absurd e hxy)
     | false=>rw[cond_false];exact hr3 _ (hm.set e1 fun e=>absurd e hxy)
   ·unfold vpz vps
    rw[cdf (by omega),wr (by omega) (by omega)]
    exact hr2 _ hm
  ·unfold vqr vhx
   rw[cdf (by omega),wr (by omega) (by omega)]
   exact hr _ hm
 ·unfold vof via
  rw[cdf (by omega)]
  exact vbjo hn hm
theorem varl {n:Nat} (hn:n≤100) {ps:List (Int×(Int×Unit))} (hl:ps.length≤100000) (hp:∀ p∈ps,(0≤p.1∧p.1<n)∧0≤p.2.1∧p.2.1<n):Fr n (V9 big (n:Int) ps):=by
 unfold V9 V9_s
 refine vbuv (Q:=Fr n) n (fun i m=>m.length=i∧(∀ r∈m,r.length=n)∧∀ j,j<i→∃ r,m[j]? = some r∧r[j]? = some true) (by omega) (fun rc i m hi hI hr => ?_) (fun rc m hI => ?_) 0 (by omega) _ ⟨rfl,by simp,by omega⟩
 ·obtain⟨h1,h2,h3⟩:=hI
  unfold vwt
  have hil:i<(List.replicate n false).length:=by simpa using hi
  rw[cdt (by omega),vazs false n (by omega),Option.bind_some,Option.bind_some,cdt (by omega),vag _ i hil,Option.bind_some,Int.toNat_natCast,List.getElem?_eq_getElem hil,Option.bind_some,vao (by simp;omega),Option.bind_some,wr (by omega) (by omega)]
  refine hr _ ⟨by simp[h1],fun r hr => ?_,fun j hj => ?_⟩
  ·rcases List.mem_append.1 hr with hr | hr
   ·exact h2 r hr
   ·rw[List.mem_singleton] at hr;rw[hr];simp
  ·by_cases e:j<i
   ·obtain⟨r,r1,r2⟩:=h3 j e
    exact⟨r,by rw[List.getElem?_append_left (by omega)];exact r1,r2⟩
   ·have e:j=i:=by omega
    subst e
    refine⟨_,by rw[List.getElem?_append_right (by omega),h1,Nat.sub_self];rfl, ?_⟩
    rw[List.getElem?_set_self hil]
 ·unfold vwt vxe
  rw[cdf (by omega)]
  refine vbur (Q:=Fr n) ps.length (fun _ m=>MX n m) (by omega) (fun rc i m hi hm hr => ?_) (fun rc m hm => ?_) 0 (by omega) _ hI
  ·unfold vwk
   obtain⟨⟨a0,a1⟩,b0,b1⟩:=hp _ (List.getElem_mem hi)
   generalize hq:ps[i]=q at a0 a1 b0 b1
   obtain⟨x,y,u⟩:=q
   simp only at a0 a1 b0 b1
   obtain⟨x,rfl⟩:∃ x':Nat,x=(x':Int):=⟨x.toNat,by omega⟩
   obtain⟨y,rfl⟩:∃ y':Nat,y=(y':Int):=⟨y.toNat,by omega⟩
   obtain⟨r,v,e1,e2,e3,e4,e5⟩:=hm.at (x:=x) (y:=y) (by omega) (by omega)
   have ea:atI ps (i:Int)=some ((x:Int),((y:Int),u)):=by rw[vag ps i hi,hq]
   simp only[Int.toNat_natCast,cdt (show (i:Int)<ps.length by omega),ea,e1,e2,e3,e4,Option.bind_some]
   rw[wr (by omega) (by omega)]
   exact hr _ (hm.set e1 fun _=>rfl)
  ·unfold vwk vun
   rw[cdf (by omega)]
   exact vbcw hn hm
theorem vbpl {l:List Int} (hl:l.length≤1000000) (n:Int):∃ l',V10 big l n=some (l',())∧l'.length≤l.length+1:=by
 have done:∀ i:Nat,i≤l.length→∃ l',vca l n (i:Int)=some (l',())∧l'.length≤l.length+1:=by
  intro i hi
  unfold vca
  have s1:slI l 0 (i:Int)=some ((l.drop 0).take i):=by unfold slI;rw[if_pos (by omega)];simp
  have s2:slI l (i:Int) (l.length:Int)=some ((l.drop i).take (l.length - i)):=by unfold slI;rw[if_pos (by omega),show ((l.length:Int) - (i:Int)).toNat=l.length - i by omega,Int.toNat_natCast]
  have tail:∃ l',((slI l 0 (i:Int)).bind fun xq8=>(appI [] xq8).bind fun xq9=>(appI xq9 [n]).bind fun xq10=>(slI l (i:Int) (l.length:Int)).bind fun xq11=>(appI xq10 xq11).bind fun xq12=>some (xq12,(())))=some (l',())∧l'.length≤l.length+1:=by
   rw[s1,Option.bind_some,vao (by simp;omega),Option.bind_some,vao (by simp;omega),Option.bind_some,s2,Option.bind_some,vao (by simp;omega),Option.bind_some]
   exact⟨_,rfl,by simp;omega⟩
  by_cases h:i<l.length
  ·rw[cdt (by omega),vag l i h,Option.bind_some]
   by_cases c:l[i]=n
   ·rw[cdt c];exact⟨l,rfl,by omega⟩
   ·rw[cdf c];exact tail
  ·rw[cdf (by omega)];exact tail
 unfold V10 vapl
 refine vbug (Q:=fun r=>∃ l',r=some (l',())∧l'.length≤l.length+1) l.length (fun _=>True) (by omega) (fun rc i hi _ hr => ?_) (fun rc _ => ?_) 0 (by omega) trivial
 ·unfold vcq
  rw[cdt (by omega),vag l i hi,Option.bind_some]
  by_cases c:l[i]<n
  ·rw[cdt c,wr (by omega) (by omega)];exact hr trivial
  ·rw[cdf c];exact done i (by omega)
 ·unfold vcq
  rw[cdf (by omega)]
  exact done _ (by omega)
def Dq (m k:Nat) (r:Option (PTd×(Cu×Unit))):Prop:=∃ p c',r=some (p,(c',()))∧DrP m p∧COk k c'
theorem vbbw {k:Nat} {t2:PTd} {p:PTd} {c:Cu} (hp:p.1.length≤11) (hr:∀ r∈p.1,r.length≤12) (hc:COk (k+2 * (12 - p.1.length)+2) c):Dq 12 k (vaz big c t2 p):=by
 refine vbnu (Q:=Dq 12 k) (fun _ p=>12 - p.1.length) (fun c p=>p.1.length≤11∧(∀ r∈p.1,r.length≤12)∧COk (k+2 * (12 - p.1.length)+2) c) (fun rc c p hI hrec => ?_) c p (by omega) ⟨hp,hr,hc⟩
 obtain⟨h1,h2,h3⟩:=hI
 unfold vwd vqv
 obtain⟨v,c',e,v0,v1,hc'⟩:=vaq (k:=k+2 * (12 - p.1.length)) h3 2
 have hv:=v1 (by omega)
 rw[e,Option.bind_some]
 dsimp only
 rw[wr (by omega) (by omega)]
 by_cases c:(p.1.length:Int)<10+v
 ·rw[cdt c,vao (by simp;omega),Option.bind_some]
  refine hrec _ _ ⟨by simp;omega,fun r hr => ?_, ?_⟩ (by simp;omega)
  ·rcases List.mem_append.1 hr with hr | hr
   ·exact h2 r hr
   ·rw[List.mem_singleton] at hr;rw[hr];simp
  ·simp only[List.length_append,List.length_singleton]
   exact hc'.mono (by omega)
 ·rw[cdf c]
  exact⟨_,_,rfl,⟨by omega,h2⟩,hc'.mono (by omega)⟩
theorem vtv {k n:Nat} (hn:n≤7) {t2:PTd} {c:Cu} {ps:List (Int×(Int×Unit))} (hl:ps.length≤1000) (hp:∀ p∈ps,(0≤p.1∧p.1<n)∧0≤p.2.1∧p.2.1<n) (hc:COk (k+40) c) :
  Dq 12 k (vfg (vaz big) c t2 (n:Int) ps):=by
 obtain⟨p,e,p1,p2⟩:=varl (n:=n) (by omega) (by omega) hp
 have hd:DrP 12 p:=⟨by omega,fun r hr=>by have:=p2 r hr;omega⟩
 unfold vfg
 rw[e,Option.bind_some]
 by_cases h0:(n:Int)=0
 ·rw[cdt h0]
  exact⟨_,_,rfl,hd,hc.mono (by omega)⟩
 ·rw[cdf h0]
  obtain⟨b,c1,e1,hc1⟩:=vqn (k:=k+38) hc 16
  rw[e1,Option.bind_some]
  cases b with
  | false=>exact⟨_,_,rfl,hd,hc1.mono (by omega)⟩
  | true =>
   simp only[Bool.not_true,cond_false]
   obtain⟨x,c2,e2,x0,x1,hc2⟩:=vaq (k:=k+36) hc1 (n:Int)
   have hx:=x1 (by omega)
   obtain⟨v,c3,e3,_,_,hc3⟩:=vaq (k:=k+34) hc2 4
   rw[e2,Option.bind_some]
   dsimp only
   rw[e3,Option.bind_some]
   dsimp only
   have hxl:x.toNat<p.1.length:=by omega
   have ea:atI p.1 x=some p.1[x.toNat]:=by
    have:=vag p.1 x.toNat hxl
    rwa [show ((x.toNat:Nat):Int)=x by omega] at this
   have eb:p.1[x.toNat]? = some p.1[x.toNat]:=List.getElem?_eq_getElem hxl
   have hrow:=p2 _ (List.getElem_mem hxl)
   have upd:∀ r:List Int,r.length≤12→DrP 12 (p.1.set x.toNat r,p.2):=fun r hr=>⟨by simp;omega,fun q hq=>by
    rcases List.mem_or_eq_of_mem_set hq with hq | rfl
    ·exact hd.2 q hq
    ·exact hr⟩
   simp only[ea,eb,Option.bind_some]
   by_cases c0:v=0
   ·rw[cdt c0]
    have s1:slI p.1[x.toNat] (1:Int) (p.1[x.toNat].length:Int)=some ((p.1[x.toNat].drop 1).take (p.1[x.toNat].length - 1)):=by unfold slI;rw[if_pos (by omega),show ((p.1[x.toNat].length:Int) - 1).toNat=p.1[x.toNat].length - 1 by omega];rfl
    rw[s1,Option.bind_some]
    exact⟨_,_,rfl,upd _ (by simp;omega),hc3.mono (by omega)⟩
   ·rw[cdf c0]
    by_cases c1:v=1
    ·rw[cdt c1,vao (by simp;omega),Option.bind_some]
     exact⟨_,_,rfl,upd _ (by simp;omega),hc3.mono (by omega)⟩
    ·rw[cdf c1]
     by_cases c2':v=2
     ·rw[cdt c2']
      obtain⟨y,c4,e4,_,_,hc4⟩:=vaq (k:=k+32) hc3 (n:Int)
      obtain⟨l',e5,hl'⟩:=vbpl (l:=p.1[x.toNat]) (by omega) y
      rw[e4,Option.bind_some]
      dsimp only
      rw[e5,Option.bind_some]
      exact⟨_,_,rfl,upd _ (by simp only;omega),hc4.mono (by omega)⟩
     ·rw[cdf c2']
      by_cases c3':v=3
      ·rw[cdt c3']
       exact vbbw (by omega) (fun r hr=>by have:=p2 r hr;omega) (hc3.mono (by omega))
      ·rw[cdf c3']
       exact⟨_,_,rfl,hd,hc3.mono (by omega)⟩
theorem vaey {n:Nat} {names:List Int} (hl:names.length=n) (hn:∀ x∈names,0≤x∧x<n) {x:Int} (h0:0≤x) (h1:x<n):∃ v,atI names x=some v∧names[x.toNat]? = some v∧0≤v∧v<n:=by
 have hx:x.toNat<names.length:=by omega
 refine⟨names[x.toNat], ?_,List.getElem?_eq_getElem hx,hn _ (List.getElem_mem hx)⟩
 have:=vag names x.toNat hx
 rwa [show ((x.toNat:Nat):Int)=x by omega] at this
theorem vbgc {k:Nat} {c:Cu} (hc:COk (k+300) c):Dq 12 k (V11 big c):=by
 unfold V11 vbde
 obtain⟨n,c0,e,hn,hc0⟩:=vals (k:=k+298) hc (l:=[(0:Int),1,2,3,4,4,5,5,6,7]) (by simp)
 rw[e,Option.bind_some]
 dsimp only
 obtain⟨n,rfl⟩:∃ m:Nat,n=(m:Int):=⟨n.toNat,by simp at hn;omega⟩
 have hn7:n≤7:=by simp at hn;omega
 refine vbtf (Q:=Dq 12 k) n (fun i c ps=>ps.length≤i * n∧(∀ p∈ps,(0≤p.1∧p.1<n)∧0≤p.2.1∧p.2.1<n)∧COk (k+100+2 * (n * (n - i))) c) (by omega) (fun rc i c ps hi hI hr => ?_) (fun rc c ps hI => ?_) 0 (by omega) _ _ ⟨by simp,by simp,hc0.mono (by have:n * (n - 0)≤7 * 7:=Nat.mul_le_mul hn7 (by omega);omega)⟩
 ·obtain⟨h1,h2,h3⟩:=hI
  unfold voy
  rw[cdt (by omega),wr (by omega) (by omega),show (i:Int)+1=((i+1:Nat):Int) by omega]
  have hmul:n * (n - i)=n * (n - (i+1))+n:=by
   rw[show n - i=(n - (i+1))+1 by omega,Nat.mul_succ]
  have hmul2:(i+1) * n=i * n+n:=Nat.succ_mul i n
  refine vbsw (Q:=Dq 12 k) n (fun j c ps=>ps.length≤i * n+j∧(∀ p∈ps,(0≤p.1∧p.1<n)∧0≤p.2.1∧p.2.1<n)∧COk (k+100+2 * (n * (n - (i+1)))+2 * (n - j)) c) (by omega) (fun rc2 j c ps hj hJ hr2 => ?_) (fun rc2 c ps hJ => ?_) (i+1) (by omega) _ _ ⟨by omega,h2,h3.mono (by omega)⟩
  ·obtain⟨j1,j2,j3⟩:=hJ
   unfold vql
   obtain⟨b,c',e,hc'⟩:=vqn (k:=k+100+2 * (n * (n - (i+1)))+2 * (n - (j+1))) (j3.mono (by omega)) 3
   have hin:i * n≤7 * 7:=Nat.mul_le_mul (by omega) hn7
   rw[cdt (by omega),e,Option.bind_some,wr (by omega) (by omega)]
   cases b with
   | true =>
    rw[cond_true,vao (by simp;omega),Option.bind_some]
    refine hr2 _ _ ⟨by simp;omega,fun p hp => ?_,hc'⟩
    rcases List.mem_append.1 hp with hp | hp
    ·exact j2 p hp
    ·rw[List.mem_singleton] at hp
     rw[hp]
     exact⟨⟨by simp,by simp;omega⟩,by simp,by simp;omega⟩
   | false =>
    rw[cond_false]
    exact hr2 _ _ ⟨by omega,j2,hc'⟩
  ·obtain⟨j1,j2,j3⟩:=hJ
   unfold vql vni
   rw[cdf (by omega),wr (by omega) (by omega)]
   exact hr _ _ ⟨by omega,j2,j3.mono (by omega)⟩
 ·obtain⟨h1,h2,h3⟩:=hI
  have hnn:n * n≤7 * 7:=Nat.mul_le_mul hn7 hn7
  unfold voy vgr
  rw[cdf (by omega)]
  obtain⟨names,c1,e1,hl1,hc1⟩:=vagv (k:=k+60) (n:=n) (by omega) (h3.mono (by omega))
  obtain⟨b,e2,hb⟩:=vatj (n:=n) (by omega) (l:=names) (by omega)
  rw[e1,Option.bind_some]
  dsimp only
  rw[e2,Option.bind_some]
  cases b with
  | false =>
   rw[cond_false]
   exact vtv hn7 (by omega) h2 (hc1.mono (by omega))
  | true =>
   obtain⟨hb1,hb2⟩:=hb rfl
   obtain⟨b,c2,e3,hc2⟩:=vqn (k:=k+58) hc1 2
   rw[cond_true,e3,Option.bind_some]
   cases b with
   | false =>
    rw[cond_false]
    exact vtv hn7 (by omega) h2 (hc2.mono (by omega))
   | true =>
    rw[cond_true]
    refine vbnw (Q:=Dq 12 k) ps.length (fun _ qs=>qs.length=ps.length∧∀ p∈qs,(0≤p.1∧p.1<n)∧0≤p.2.1∧p.2.1<n) (by omega) (fun rc2 i qs hi hI hr => ?_) (fun rc2 qs hI => ?_) 0 (by omega) _ ⟨rfl,h2⟩
    ·obtain⟨i1,i2⟩:=hI
     have hil:i<qs.length:=by omega
     obtain⟨⟨a0,a1⟩,b0,b1⟩:=i2 _ (List.getElem_mem hil)
     obtain⟨x,x1,x2,x3,x4⟩:=vaey hb1 hb2 a0 a1
     obtain⟨y,y1,y2,y3,y4⟩:=vaey hb1 hb2 b0 b1
     unfold vis
     simp only[Int.toNat_natCast,cdt (show (i:Int)<qs.length by omega),vag qs i hil,List.getElem?_eq_getElem hil,x1,x2,y1,y2,Option.bind_some]
     rw[wr (by omega) (by omega)]
     refine hr _ ⟨by simpa using i1,fun p hp => ?_⟩
     rcases List.mem_or_eq_of_mem_set hp with hp | rfl
     ·exact i2 p hp
     ·exact⟨⟨x3,x4⟩,y3,y4⟩
    ·obtain⟨i1,i2⟩:=hI
     unfold vis
     rw[cdf (by omega)]
     exact vtv hn7 (by omega) i2 (hc2.mono (by omega))
def okKnown (k:Nat):Bool:=match V13 (k:Int) with
 | some (p,())=>decide (p.1.length≤9) && p.1.all (fun r=>decide (r.length≤9)) && (match V18 big p with
  | some (ps,())=>decide (ps.length≤100) && ps.all fun q=>decide (0≤q.1) && decide (q.1<(p.1.length:Int)) && decide (0≤q.2.1) && decide (q.2.1<(p.1.length:Int))
  | none=>false)
 | none=>false
theorem vawn:(List.range 12).all okKnown=true:=by kernel_rfl
theorem vuc {k:Int} (h0:0≤k) (h1:k<12):∃ p ps,V13 k=some (p,())∧DrP 9 p∧V18 big p=some (ps,())∧ps.length≤100∧∀ q∈ps,(0≤q.1∧q.1<p.1.length)∧0≤q.2.1∧q.2.1<p.1.length:=by
 have h:=List.all_eq_true.1 vawn k.toNat (List.mem_range.2 (by omega))
 unfold okKnown at h
 rw[show ((k.toNat:Nat):Int)=k by omega] at h
 split at h
 case h_2=>cases h
 rename_i p e
 simp only[Bool.and_eq_true,decide_eq_true_eq,List.all_eq_true] at h
 obtain⟨⟨h1,h2⟩,h3⟩:=h
 split at h3
 case h_2=>cases h3
 rename_i ps e2
 simp only[Bool.and_eq_true,decide_eq_true_eq,List.all_eq_true] at h3
 exact⟨p,ps,e,⟨h1,h2⟩,e2,h3.1,fun q hq=>by
  obtain⟨⟨⟨a,b⟩,c⟩,d⟩:=h3.2 q hq
  exact⟨⟨a,b⟩,c,d⟩⟩
theorem vxr {k:Nat} {c:Cu} (hc:COk (k+400) c):Dq 12 k (V19 big c):=by
 unfold V19 vbcd
 obtain⟨b,c1,e1,hc1⟩:=vqn (k:=k+398) hc 10
 rw[e1,Option.bind_some]
 cases b with
 | true =>
  rw[cond_true]
  obtain⟨p,c2,e2,hp,hc2⟩:=vbgc (k:=k+98) hc1
  rw[e2,Option.bind_some]
  exact⟨_,_,rfl,hp,hc2.mono (by omega)⟩
 | false =>
  rw[cond_false]
  obtain⟨v,c2,e2,v0,v1,hc2⟩:=vaq (k:=k+396) hc1 12
  obtain⟨p,ps,e3,hp,e4,hl,hps⟩:=vuc v0 (v1 (by omega))
  have hp':DrP 12 p:=⟨by have:=hp.1;omega,fun r hr=>by have:=hp.2 r hr;omega⟩
  have hn:=hp.1
  obtain⟨names,c3,e5,hl1,hc3⟩:=vagv (k:=k+300) (n:=p.1.length) (by omega) (hc2.mono (by omega))
  obtain⟨b,e6,hb⟩:=vatj (n:=p.1.length) (by omega) (l:=names) (by omega)
  rw[e2,Option.bind_some]
  dsimp only
  rw[e3,Option.bind_some]
  dsimp only
  rw[e5,Option.bind_some]
  dsimp only
  rw[e6,Option.bind_some]
  cases b with
  | false=>exact⟨_,_,rfl,hp',hc3.mono (by omega)⟩
  | true =>
   obtain⟨hb1,hb2⟩:=hb rfl
   obtain⟨b,c4,e7,hc4⟩:=vqn (k:=k+298) hc3 2
   rw[cond_true,e7,Option.bind_some]
   cases b with
   | false=>exact⟨_,_,rfl,hp',hc4.mono (by omega)⟩
   | true =>
    rw[cond_true,e4,Option.bind_some]
    refine vbsv (Q:=Dq 12 k) ps.length (fun _ qs=>qs.length=ps.length∧∀ q∈qs,(0≤q.1∧q.1<p.1.length)∧0≤q.2.1∧q.2.1<p.1.length) (by omega) (fun rc2 i qs hi hI hr => ?_) (fun rc2 qs hI => ?_) 0 (by omega) _ ⟨rfl,hps⟩
    ·obtain⟨i1,i2⟩:=hI
     have hil:i<qs.length:=by omega
     obtain⟨⟨a0,a1⟩,b0,b1⟩:=i2 _ (List.getElem_mem hil)
     obtain⟨x,x1,x2,x3,x4⟩:=vaey hb1 hb2 a0 a1
     obtain⟨y,y1,y2,y3,y4⟩:=vaey hb1 hb2 b0 b1
     unfold vnm
     simp only[Int.toNat_natCast,cdt (show (i:Int)<qs.length by omega),vag qs i hil,List.getElem?_eq_getElem hil,x1,x2,y1,y2,Option.bind_some]
     rw[wr (by omega) (by omega)]
     refine hr _ ⟨by simpa using i1,fun q hq => ?_⟩
     rcases List.mem_or_eq_of_mem_set hq with hq | rfl
     ·exact i2 q hq
     ·exact⟨⟨x3,x4⟩,y3,y4⟩
    ·obtain⟨i1,i2⟩:=hI
     unfold vnm voc
     obtain⟨p',e8,p1,p2⟩:=varl (n:=p.1.length) (by omega) (by omega) i2
     rw[cdf (by omega),e8,Option.bind_some]
     exact⟨_,_,rfl,⟨by show p'.1.length≤12;omega,fun r hr=>by have:=p2 r hr;omega⟩,hc4.mono (by omega)⟩
theorem vblo {code:List Int} (hw:Wf (.pair (.sl (.int .u8)) .unit) (code,())) (h:code.length≤65536):Codes code:=by
 refine⟨h,fun x hx => ?_⟩
 have:=hw.1.2 x hx
 have h2:(Lit.int .u8 x).wf=true:=this
 simp only[Lit.wf,Bool.and_eq_true,decide_eq_true_eq] at h2
 have e1:IntKind.u8.min=0:=rfl
 have e2:IntKind.u8.max=255:=rfl
 rw[e1,e2] at h2
 exact h2
def Wd.dual:Wd→Wd
 | .v n => .v n
 | .op g a b => .op (-3 - g) a.dual b.dual
theorem cmp_mem {n:Nat} {le:Nat→Nat→Bool} {x y:Nat}:y∈comp n le x↔y<n∧mt n le y x=bt n le∧mt n (du le) y x=tp n le:=by
 unfold comp rel
 rw[fl_mem,Bool.and_eq_true,decide_eq_true_eq,decide_eq_true_eq]
theorem vbun {n:Nat} {le:Nat→Nat→Bool} (h:LatP n le) {x:Nat} (hx:x<n) (e:le x (bt n le)=true):x=bt n le:=h.as hx (vbma h) e (vbul h hx)
theorem vbum {n:Nat} {le:Nat→Nat→Bool} (h:LatP n le) {x:Nat} (hx:x<n) (e:le (tp n le) x=true):x=tp n le:=h.as hx (vbus h) (vbuq h hx) e
theorem cenA {n:Nat} {le:Nat→Nat→Bool} (h:LatP n le) {x y w:Nat} (hx:x<n) (hy:y<n) (hw:w<n) (hc:Cen n le x y) {u:Nat} (hu:u<n) (h1:le (mt n le w x) u=true) (h2:le (mt n le w y) u=true):le w u=true:=by
 have:=(hc w hw).1
 rw[← this]
 exact jg h (h.mlt hw hx) (h.mlt hw hy) hu h1 h2
theorem cenBm {n:Nat} {le:Nat→Nat→Bool} (h:LatP n le) {x y w:Nat} (hx:x<n) (hy:y<n) (hw:w<n) (hc:Cen n le x y) {u:Nat} (hu:u<n) (h1:le u (mt n (du le) w x)=true) (h2:le u (mt n (du le) w y)=true):le u w=true:=by
 have:=(hc w hw).2
 rw[← this]
 exact h.mg (jlt h hw hx) (jlt h hw hy) hu h1 h2
theorem vbsm {n:Nat} {le:Nat→Nat→Bool} (h:LatP n le) {x y:Nat} (hx:x<n) (hy:y<n) (hA:∀ w u,w<n→u<n→le (mt n le w x) u=true→le (mt n le w y) u=true→le w u=true)
  (hB:∀ w u,w<n→u<n→le u (mt n (du le) w x)=true→le u (mt n (du le) w y)=true→le u w=true):Cen n le x y:=fun z hz=>by
 have a1:=h.mlt hz hx
 have a2:=h.mlt hz hy
 have b1:=jlt h hz hx
 have b2:=jlt h hz hy
 exact⟨h.as (jlt h a1 a2) hz (jg h a1 a2 hz (h.m1 hz hx) (h.m1 hz hy)) (hA z _ hz (jlt h a1 a2) (j1 h a1 a2) (j2 h a1 a2)),
  h.as (h.mlt b1 b2) hz (hB z _ hz (h.mlt b1 b2) (h.m1 b1 b2) (h.m2 b1 b2)) (h.mg b1 b2 hz (j1 h hz hx) (j1 h hz hy))⟩
theorem Cen.dual {n:Nat} {le:Nat→Nat→Bool} {x y:Nat} (hc:Cen n le x y):Cen n (du le) x y:=fun z hz=>⟨(hc z hz).2,(hc z hz).1⟩
theorem comp_dual {n:Nat} {le:Nat→Nat→Bool} {x y:Nat}:y∈comp n (du le) x↔y∈comp n le x:=by
 rw[cmp_mem,cmp_mem]
 exact⟨fun⟨a,b,c⟩=>⟨a,c,b⟩,fun⟨a,b,c⟩=>⟨a,c,b⟩⟩
structure CP (n:Nat) (le:Nat→Nat→Bool) (x y:Nat):Prop where
 lx:x<n
 c:y∈comp n le x
 z:Cen n le x y
theorem CP.ly {n:Nat} {le:Nat→Nat→Bool} {x y:Nat} (p:CP n le x y):y<n:=(cmp_mem.1 p.c).1
theorem CP.dual {n:Nat} {le:Nat→Nat→Bool} {x y:Nat} (p:CP n le x y):CP n (du le) x y:=⟨p.lx,comp_dual.2 p.c,p.z.dual⟩
theorem CP.meet {n:Nat} {le:Nat→Nat→Bool} (h:LatP n le) {x x' a a':Nat} (p:CP n le x x') (q:CP n le a a'):CP n le (mt n le x a) (mt n (du le) x' a'):=by
 have hx:=p.lx
 have hx':=p.ly
 have ha:=q.lx
 have ha':=q.ly
 have lm:=h.mlt hx ha
 have lj:=jlt h hx' ha'
 obtain⟨_,px1,px2⟩:=cmp_mem.1 p.c
 obtain⟨_,qa1,qa2⟩:=cmp_mem.1 q.c
 refine⟨lm,cmp_mem.2 ⟨lj, ?_, ?_⟩,vbsm h lm lj ?_ ?_⟩
 ·have k:=h.mlt lj lm
  refine vbun h k ?_
  have k1:=h.m1 lj lm
  have k2:=h.tr k lm hx (h.m2 lj lm) (h.m1 hx ha)
  have k3:=h.tr k lm ha (h.m2 lj lm) (h.m2 hx ha)
  have k4:=cenBm h ha ha' hx' q.z k (h.tr k ha (jlt h hx' ha) k3 (j2 h hx' ha)) k1
  rw[← px1]
  exact h.mg hx' hx k k4 k2
 ·have k:=jlt h lj lm
  refine vbum h k ?_
  rw[← px2]
  refine jg h hx' hx k (h.tr hx' lj k (j1 h hx' ha') (j1 h lj lm)) ?_
  refine cenA h ha ha' hx q.z k (j2 h lj lm) ?_
  exact h.tr (h.mlt hx ha') ha' k (h.m2 hx ha') (h.tr ha' lj k (j2 h hx' ha') (j1 h lj lm))
 ·intro w u hw hu e1 e2
  have wx:=h.mlt hw hx
  have wj:=h.mlt hw lj
  refine cenA h hx hx' hw p.z hu (cenA h ha ha' wx q.z hu ?_ ?_) ?_
  ·have k:=h.mlt wx ha
   have k1:=h.tr k wx hw (h.m1 wx ha) (h.m1 hw hx)
   have k2:=h.tr k wx hx (h.m1 wx ha) (h.m2 hw hx)
   exact h.tr k (h.mlt hw lm) hu (h.mg hw lm k k1 (h.mg hx ha k k2 (h.m2 wx ha))) e1
  ·have k:=h.mlt wx ha'
   have k1:=h.tr k wx hw (h.m1 wx ha') (h.m1 hw hx)
   exact h.tr k wj hu (h.mg hw lj k k1 (h.tr k ha' lj (h.m2 wx ha') (j2 h hx' ha'))) e2
  ·have k:=h.mlt hw hx'
   exact h.tr k wj hu (h.mg hw lj k (h.m1 hw hx') (h.tr k hx' lj (h.m2 hw hx') (j1 h hx' ha'))) e2
 ·intro w u hw hu e1 e2
  have uz:=h.mlt hu hx
  have uz':=h.mlt hu hx'
  have wm:=jlt h hw lm
  have wj:=jlt h hw lj
  refine cenA h hx hx' hu p.z hw (cenA h ha ha' uz q.z hw ?_ ?_) ?_
  ·have k:=h.mlt uz ha
   have k0:=h.tr k uz hu (h.m1 uz ha) (h.m1 hu hx)
   have k1:=h.tr k uz hx (h.m1 uz ha) (h.m2 hu hx)
   have k2:=h.m2 uz ha
   have wx':=jlt h hw hx'
   have k3:le (mt n le (mt n le u x) a) (mt n (du le) w x')=true:=by
    refine cenBm h ha ha' wx' q.z k (h.tr k ha (jlt h wx' ha) k2 (j2 h wx' ha)) ?_
    have t:=jlt h wx' ha'
    refine h.tr k wj t (h.tr k hu wj k0 e2) (jg h hw lj t (h.tr hw wx' t (j1 h hw hx') (j1 h wx' ha')) (jg h hx' ha' t (h.tr hx' wx' t (j2 h hw hx') (j1 h wx' ha')) (j2 h wx' ha')))
   exact cenBm h hx hx' hw p.z k (h.tr k hx (jlt h hw hx) k1 (j2 h hw hx)) k3
  ·have k:=h.mlt uz ha'
   have k0:=h.tr k uz hu (h.m1 uz ha') (h.m1 hu hx)
   have wa:=jlt h hw ha
   exact cenBm h ha ha' hw q.z k (h.tr k wm wa (h.tr k hu wm k0 e1) (jg h hw lm wa (j1 h hw ha) (h.tr lm ha wa (h.m2 hx ha) (j2 h hw ha)))) (h.tr k ha' (jlt h hw ha') (h.m2 uz ha') (j2 h hw ha'))
  ·have wx:=jlt h hw hx
   exact cenBm h hx hx' hw p.z uz' (h.tr uz' wm wx (h.tr uz' hu wm (h.m1 hu hx') e1) (jg h hw lm wx (j1 h hw hx) (h.tr lm hx wx (h.m1 hx ha) (j2 h hw hx)))) (h.tr uz' hx' (jlt h hw hx') (h.m2 hu hx') (j2 h hw hx'))
theorem CP.join {n:Nat} {le:Nat→Nat→Bool} (h:LatP n le) {x x' a a':Nat} (p:CP n le x x') (q:CP n le a a'):CP n le (mt n (du le) x a) (mt n le x' a') :=
 (CP.meet h.du p.dual q.dual).dual
theorem vin (a:List Int) (h:a.length≤400000000000):V51 big a a=some (true,()):=by
 unfold V51 vbcp
 rw[cdf (by omega)]
 refine vbtr a.length (fun i=>True) (by omega) (fun rc i hi hI hr => ?_) (fun rc hI => ?_) 0 (by omega) trivial
 ·unfold vqc
  rw[cdt (by omega),vag a i hi,Option.bind_some,Option.bind_some,cdf (by omega),wr1 (by omega)]
  exact hr trivial
 ·unfold vqc vob
  rw[cdf (by omega)]
theorem vauh {code:List Int} (hc:Codes code):∃ p c,V19 big (code,((0:Int),((0:Int),())))=some (p,(c,()))∧DrP 12 p∧COk 9600 c:=vxr (k:=9600) hc.start
theorem DrP.rows12 {p:PT} (h:DrP 12 p):∀ r∈p.1,r.length≤4294967296:=fun r hr=>by have:=h.2 r hr;omega
noncomputable def hv (n:Nat) (H:Nat→Bool) (E:Nat→Prop):List Bool:=mkR n fun z=>H z || tv (E z)
def Bnt (n:Nat) (le:Nat→Nat→Bool) (x y z:Nat):Prop:=le x z=true∧mt n (du le) x (mt n le y z)≠mt n le (mt n (du le) x y) z
def Mod (n:Nat) (le:Nat→Nat→Bool):Prop:=∀ x y z,x<n→y<n→z<n→¬ Bnt n le x y z
def Fst3 (n:Nat) (B:Nat→Nat→Nat→Prop) (x y z:Nat):Prop:=(x<n∧y<n∧z<n∧B x y z)∧∀ x' y' z',x'<n→y'<n→z'<n→B x' y' z'→x<x'∨x=x'∧(y<y'∨y=y'∧z≤z')
theorem vbql {n:Nat} {B:Nat→Nat→Nat→Prop} {x y z x' y' z':Nat} (h:Fst3 n B x y z) (h':Fst3 n B x' y' z'):x=x'∧y=y'∧z=z':=by
 have a:=h.2 x' y' z' h'.1.1 h'.1.2.1 h'.1.2.2.1 h'.1.2.2.2
 have b:=h'.2 x y z h.1.1 h.1.2.1 h.1.2.2.1 h.1.2.2.2
 omega
theorem vaxw {n:Nat} {B:Nat→Nat→Nat→Prop} {i j k:Nat} (hi:i<n) (hj:j<n) (hk:k<n) (hB:B i j k) (h1:∀ x,x<i→∀ y,y<n→∀ z,z<n→¬ B x y z) (h2:∀ y,y<j→∀ z,z<n→¬ B i y z) (h3:∀ z,z<k→¬ B i j z):Fst3 n B i j k:=by
 refine⟨⟨hi,hj,hk,hB⟩,fun x' y' z' hx hy hz hb => ?_⟩
 by_cases a:x'<i
 ·exact absurd hb (h1 x' a y' hy z' hz)
 ·by_cases b:x'=i
  ·subst b
   by_cases c:y'<j
   ·exact absurd hb (h2 y' c z' hz)
   ·by_cases d:y'=j
    ·subst d
     by_cases e:z'<k
     ·exact absurd hb (h3 z' e)
     ·omega
    ·omega
  ·omega
def BentR (n:Nat) (le:Nat→Nat→Bool) (U:Option (List Int)):Prop:=U=none∧Mod n le∨∃ x y z:Nat,U=some [(x:Int),(y:Int),(z:Int)]∧Fst3 n (Bnt n le) x y z
theorem vbko {n:Nat} {le:Nat→Nat→Bool} {U V:Option (List Int)} (h:BentR n le U) (h':BentR n le V):U=V:=by
 rcases h with⟨rfl,hm⟩ | ⟨x,y,z,rfl,hf⟩
 ·rcases h' with⟨rfl,_⟩ | ⟨x,y,z,rfl,hf⟩
  ·rfl
  ·exact absurd hf.1.2.2.2 (hm x y z hf.1.1 hf.1.2.1 hf.1.2.2.1)
 ·rcases h' with⟨rfl,hm⟩ | ⟨x',y',z',rfl,hf'⟩
  ·exact absurd hf.1.2.2.2 (hm x y z hf.1.1 hf.1.2.1 hf.1.2.2.1)
  ·obtain⟨rfl,rfl,rfl⟩:=vbql hf hf';rfl
theorem vbof {n:Nat} {le:Nat→Nat→Bool} (h:LatP n le):∃ U,V56 big (some (lat n le))=some (U,())∧BentR n le U:=by
 have h10:=h.le10
 unfold V56 vbay
 rw[Option.bind_some,lat1,mkR_len]
 refine vbsp (Q:=fun o=>∃ U,o=some (U,())∧BentR n le U) n (fun i=>∀ x,x<i→∀ y,y<n→∀ z,z<n→¬ Bnt n le x y z) (by omega) ?_ ?_ 0 (by omega) (by intro x hx;omega)
 ·intro rc i hi hv ih
  unfold vpr
  rw[cdt (by omega),Option.bind_some,lat1,mkR_len]
  refine vbru (Q:=fun o=>∃ U,o=some (U,())∧BentR n le U) n (fun j=>∀ y,y<j→∀ z,z<n→¬ Bnt n le i y z) (by omega) ?_ ?_ 0 (by omega) (by intro x hx;omega)
  ·intro rc2 j hj hv2 ih2
   unfold vqs
   rw[cdt (by omega),Option.bind_some,lat1,mkR_len]
   refine vbte (Q:=fun o=>∃ U,o=some (U,())∧BentR n le U) n (fun k=>∀ z,z<k→¬ Bnt n le i j z) (by omega) ?_ ?_ 0 (by omega) (by intro x hx;omega)
   ·intro rc3 k hk hv3 ih3
    unfold voo
    simp only[cdt (show (k:Int)<(n:Int) by omega),Option.bind_some,lat1,lat2,lat3,vae hi,vae hj,vae hk,vae (jlt h hi hj),vae (h.mlt hj hk),wr1 (show k≤4611686018427387904 by omega)]
    cases hl:le i k with
    | false=>exact ih3 (all_lt_succ.2 ⟨hv3,fun b=>absurd b.1 (by simp[hl])⟩)
    | true =>
     rw[cond_true]
     by_cases e:mt n (du le) i (mt n le j k)=mt n le (mt n (du le) i j) k
     ·rw[cdf (by rw[vas (le:=le) k];omega)]
      exact ih3 (all_lt_succ.2 ⟨hv3,fun b=>b.2 e⟩)
     ·rw[cdt (by rw[vas (le:=le) k];omega)]
      exact⟨_,rfl,.inr ⟨i,j,k,rfl,vaxw hi hj hk ⟨hl,e⟩ hv hv2 hv3⟩⟩
   ·intro rc3 hv3
    unfold voo
    rw[cdf (by omega),vpv,wr1 (by omega)]
    exact ih2 (all_lt_succ.2 ⟨hv2,hv3⟩)
  ·intro rc2 hv2
   unfold vqs
   rw[cdf (by omega),vgt,wr1 (by omega)]
   exact ih (all_lt_succ.2 ⟨hv,hv2⟩)
 ·intro rc hv
  unfold vpr
  rw[cdf (by omega),vft]
  exact⟨none,rfl,.inl ⟨rfl,fun x y z hx hy hz=>hv x hx y hy z hz⟩⟩
def bentOut (U:Option (List Int)):List Int×Bool×Unit:=match U with
 | some l=>(l,true,())
 | none=>([],false,())
theorem vawo {n:Nat} {le:Nat→Nat→Bool} (h:LatP n le):∃ U,V58 big (pos n le)=some (bentOut U,())∧BentR n le U:=by
 have h10:=h.le10
 unfold V58 vbdc
 rw[vah]
 refine vbtp (Q:=fun o=>∃ U,o=some (bentOut U,())∧BentR n le U) n (fun i=>∀ x,x<i→∀ y,y<n→∀ z,z<n→¬ Bnt n le x y z) (by omega) ?_ ?_ 0 (by omega) (by intro x hx;omega)
 ·intro rc i hi hv ih
  unfold vpb
  rw[cdt (by omega)]
  refine vbti (Q:=fun o=>∃ U,o=some (bentOut U,())∧BentR n le U) n (fun j=>∀ y,y<j→∀ z,z<n→¬ Bnt n le i y z) (by omega) ?_ ?_ 0 (by omega) (by intro x hx;omega)
  ·intro rc2 j hj hv2 ih2
   unfold vqm
   rw[cdt (by omega)]
   refine vbts (Q:=fun o=>∃ U,o=some (bentOut U,())∧BentR n le U) n (fun k=>∀ z,z<k→¬ Bnt n le i j z) (by omega) ?_ ?_ 0 (by omega) (by intro x hx;omega)
   ·intro rc3 k hk hv3 ih3
    unfold vqz
    simp only[cdt (show (k:Int)<(n:Int) by omega),vdy (show n≤4294967296 by omega) hi hk,vbb h hj hk,Option.bind_some,vbc h hi (h.mlt hj hk),vbc h hi hj,vbb h (jlt h hi hj) hk,wr1 (show k≤4611686018427387904 by omega)]
    cases hl:le i k with
    | false=>exact ih3 (all_lt_succ.2 ⟨hv3,fun b=>absurd b.1 (by simp[hl])⟩)
    | true =>
     rw[cond_true]
     by_cases e:mt n (du le) i (mt n le j k)=mt n le (mt n (du le) i j) k
     ·rw[cdf (by omega)]
      exact ih3 (all_lt_succ.2 ⟨hv3,fun b=>b.2 e⟩)
     ·rw[cdt (by omega)]
      exact⟨some _,rfl,.inr ⟨i,j,k,rfl,vaxw hi hj hk ⟨hl,e⟩ hv hv2 hv3⟩⟩
   ·intro rc3 hv3
    unfold vqz
    rw[cdf (by omega),vpc,wr1 (by omega)]
    exact ih2 (all_lt_succ.2 ⟨hv2,hv3⟩)
  ·intro rc2 hv2
   unfold vqm
   rw[cdf (by omega),vgk,wr1 (by omega)]
   exact ih (all_lt_succ.2 ⟨hv,hv2⟩)
 ·intro rc hv
  unfold vpb
  rw[cdf (by omega),vgd]
  exact⟨none,rfl,.inl ⟨rfl,fun x y z hx hy hz=>hv x hx y hy z hz⟩⟩
theorem vamt {n:Nat} {le:Nat→Nat→Bool} (h:LatP n le):∃ U,BentR n le U∧V56 big (some (lat n le))=some (U,())∧V58 big (pos n le)=some (bentOut U,()):=by
 obtain⟨U,e1,h1⟩:=vbof h
 obtain⟨V,e2,h2⟩:=vawo h
 obtain rfl:=vbko h1 h2
 exact⟨U,h1,e1,e2⟩
theorem vabz {n:Nat} {le:Nat→Nat→Bool} {U:Option (List Int)} (h:BentR n le U):U.isNone=tv (Mod n le):=by
 rcases h with⟨rfl,hm⟩ | ⟨x,y,z,rfl,hf⟩
 ·rw[tv_t hm];rfl
 ·rw[tv_f fun hm=>hm x y z hf.1.1 hf.1.2.1 hf.1.2.2.1 hf.1.2.2.2];rfl
theorem vbgb {n:Nat} {le:Nat→Nat→Bool} (h:LatP n le) (h1:V45 big (pos n le)=some (true,())):V57 (pos n le)=some ((tv (Mod n le),true,()),())∧V59 (pos n le)=some ((tv (Mod n le),true,()),()):=by
 obtain⟨U,hU,e1,e2⟩:=vamt h
 unfold V57 vbbb V59 vbbl
 rw[vat h,h1,Option.bind_some,Option.bind_some]
 dsimp only
 rw[cond_true,Bool.not_true,cond_false,e1,e2,Option.bind_some,Option.bind_some,← vabz hU]
 cases U <;> exact⟨rfl,rfl⟩
theorem vblj {p:PT} {l:Option (List (List Bool)×List (List Int)×List (List Int)×Unit)} (h1:V45 big p=some (false,())) (h2:V32 p=some ((l,false,()),())):V57 p=some ((false,false,()),())∧V59 p=some ((false,false,()),()):=by
 unfold V57 vbbb V59 vbbl
 exact⟨by rw[h2];rfl,by rw[h1];rfl⟩
theorem vaof {n:Nat} {le:Nat→Nat→Bool} (h:LatP n le) (h1:V45 big (pos n le)=some (true,())):∃ U,BentR n le U∧V62 (pos n le)=some (bentOut U,())∧V63 (pos n le)=some (bentOut U,()):=by
 obtain⟨U,hU,e1,e2⟩:=vamt h
 refine⟨U,hU, ?_⟩
 unfold V62 vbak V63 vbcx
 rw[vat h,h1,Option.bind_some,Option.bind_some]
 dsimp only
 rw[Bool.not_true,cond_false,cond_false,e1,e2,Option.bind_some,Option.bind_some]
 cases U <;> exact⟨rfl,rfl⟩
theorem vaqs {p:PT} {l:Option (List (List Bool)×List (List Int)×List (List Int)×Unit)} (h1:V45 big p=some (false,())) (h2:V32 p=some ((l,false,()),())):V62 p=some (([],false,()),())∧V63 p=some (([],false,()),()):=by
 unfold V62 vbak V63 vbcx
 exact⟨by rw[h2];rfl,by rw[h1];rfl⟩
structure GLat {α:Type} (le:α→α→Prop) (m j:α→α→α):Prop where
 rf:∀ a,le a a
 tr:∀ {a b c},le a b→le b c→le a c
 asy:∀ {a b},le a b→le b a→a=b
 m1:∀ a b,le (m a b) a
 m2:∀ a b,le (m a b) b
 mg:∀ {a b c},le c a→le c b→le c (m a b)
 j1:∀ a b,le a (j a b)
 j2:∀ a b,le b (j a b)
 jg:∀ {a b c},le a c→le b c→le (j a b) c
def GMod {α:Type} (le:α→α→Prop) (m j:α→α→α):Prop:=∀ x y z,le x z→j x (m y z)=m (j x y) z
theorem GLat.op {α:Type} {le:α→α→Prop} {m j:α→α→α} (H:GLat le m j):GLat (fun a b=>le b a) j m:=⟨H.rf,fun a b=>H.tr b a,fun a b=>H.asy b a,H.j1,H.j2,H.jg,H.m1,H.m2,H.mg⟩
theorem GLat.mc {α:Type} {le:α→α→Prop} {m j:α→α→α} (H:GLat le m j) (a b:α):m a b=m b a:=H.asy (H.mg (H.m2 a b) (H.m1 a b)) (H.mg (H.m2 b a) (H.m1 b a))
theorem GLat.jc {α:Type} {le:α→α→Prop} {m j:α→α→α} (H:GLat le m j) (a b:α):j a b=j b a:=H.op.mc a b
theorem GLat.ma {α:Type} {le:α→α→Prop} {m j:α→α→α} (H:GLat le m j) {a b:α} (h:le a b):m a b=a:=H.asy (H.m1 a b) (H.mg (H.rf a) h)
theorem GLat.ja {α:Type} {le:α→α→Prop} {m j:α→α→α} (H:GLat le m j) {a b:α} (h:le a b):j a b=b:=H.asy (H.jg h (H.rf b)) (H.j2 a b)
theorem GMod.op {α:Type} {le:α→α→Prop} {m j:α→α→α} (H:GLat le m j) (M:GMod le m j):GMod (fun a b=>le b a) j m:=fun x y z h=>by
 have:=M z y x h
 rw[H.mc x (j y z),H.jc y z,← this,H.jc,H.mc y x]
theorem gmeet {α:Type} {le:α→α→Prop} {m j:α→α→α} (H:GLat le m j) (M:GMod le m j) {p q x y:α} (hpq:le p q) (ht:∀ t,le t x→le t (j y p)→le t p):m (j (m x q) p) (j (m y q) p)=p:=by
 have e:j p (m (m x q) (j (m y q) p))=m (j p (m x q)) (j (m y q) p):=M p (m x q) _ (H.j2 _ _)
 rw[H.jc (m x q) p,← e,H.jc p]
 refine H.ja (ht _ (H.tr (H.m1 _ _) (H.m1 _ _)) (H.tr (H.m2 _ _) (H.jg (H.tr (H.m1 _ _) (H.j1 _ _)) (H.j2 _ _))))
theorem gcond {α:Type} {le:α→α→Prop} {m j:α→α→α} (H:GLat le m j) (M:GMod le m j) {p x y z:α} (h1:le (m x y) p) (h2:le (m z x) p) (h3:le p (j y (m z x))):∀ t,le t x→le t (j y p)→le t p:=fun t t1 t2=>by
 have e:j (m z x) (m y x)=m (j (m z x) y) x:=M (m z x) y x (H.m2 _ _)
 have t3:le t (m (j (m z x) y) x):=H.mg (H.tr t2 (H.jg (H.j2 _ _) (by rw[H.jc];exact h3))) t1
 rw[← e] at t3
 exact H.tr t3 (H.jg h2 (by rw[H.mc];exact h1))
theorem gdiam {α:Type} {le:α→α→Prop} {m j:α→α→α} (H:GLat le m j) (M:GMod le m j) {x y z:α} (hd:m x (j y z)≠j (m x y) (m x z)) :
  ∃ p q u v w,p≠q∧m u v=p∧m v w=p∧m u w=p∧j u v=q∧j v w=q∧j u w=q:=by
 obtain⟨p,hp⟩:∃ p,p=j (j (m x y) (m y z)) (m z x):=⟨_,rfl⟩
 obtain⟨q,hq⟩:∃ q,q=m (m (j x y) (j y z)) (j z x):=⟨_,rfl⟩
 have p1:le (m x y) p:=by rw[hp];exact H.tr (H.j1 _ _) (H.j1 _ _)
 have p2:le (m y z) p:=by rw[hp];exact H.tr (H.j2 _ _) (H.j1 _ _)
 have p3:le (m z x) p:=by rw[hp];exact H.j2 _ _
 have pl:∀ {t},le (m x y) t→le (m y z) t→le (m z x) t→le p t:=fun a b c=>by rw[hp];exact H.jg (H.jg a b) c
 have q1:le q (j x y):=by rw[hq];exact H.tr (H.m1 _ _) (H.m1 _ _)
 have q2:le q (j y z):=by rw[hq];exact H.tr (H.m1 _ _) (H.m2 _ _)
 have q3:le q (j z x):=by rw[hq];exact H.m2 _ _
 have ql:∀ {t},le t (j x y)→le t (j y z)→le t (j z x)→le t q:=fun a b c=>by rw[hq];exact H.mg (H.mg a b) c
 clear hp hq
 have hpq:le p q:=ql (pl (H.tr (H.m1 _ _) (H.j1 _ _)) (H.tr (H.m1 _ _) (H.j2 _ _)) (H.tr (H.m2 _ _) (H.j1 _ _)))
  (pl (H.tr (H.m2 _ _) (H.j1 _ _)) (H.tr (H.m1 _ _) (H.j1 _ _)) (H.tr (H.m1 _ _) (H.j2 _ _)))
  (pl (H.tr (H.m1 _ _) (H.j2 _ _)) (H.tr (H.m2 _ _) (H.j1 _ _)) (H.tr (H.m1 _ _) (H.j1 _ _)))
 have hne:p≠q:=fun e=>hd <| by
  refine H.asy ?_ (H.jg (H.mg (H.m1 _ _) (H.tr (H.m2 _ _) (H.j1 _ _))) (H.mg (H.m1 _ _) (H.tr (H.m2 _ _) (H.j2 _ _))))
  have t1:le (m x (j y z)) p:=by
   rw[e];exact ql (H.tr (H.m1 _ _) (H.j1 _ _)) (H.m2 _ _) (H.tr (H.m1 _ _) (H.j2 _ _))
  have hs:le (j (m x y) (m x z)) x:=H.jg (H.m1 _ _) (H.m1 _ _)
  have t2:le p (j (j (m x y) (m x z)) (m y z)):=pl (H.tr (H.j1 _ _) (H.j1 _ _)) (H.j2 _ _) (by rw[H.mc z x];exact H.tr (H.j2 _ _) (H.j1 _ _))
  have t3:le (m x (j y z)) (m (j (j (m x y) (m x z)) (m y z)) x):=H.mg (H.tr t1 t2) (H.m1 _ _)
  rw[← M (j (m x y) (m x z)) (m y z) x hs] at t3
  exact H.tr t3 (H.jg (H.rf _) (H.tr (H.mg (H.m2 _ _) (H.tr (H.m1 _ _) (H.m1 _ _))) (H.j1 _ _)))
 have hu:∀ a,j (m a q) p=m (j a p) q:=fun a=>by rw[H.jc,M p a q hpq,H.jc p a]
 have HD:=H.op
 have MD:=GMod.op H M
 refine⟨p,q,j (m x q) p,j (m y q) p,j (m z q) p,hne,gmeet H M hpq (gcond H M p1 p3 (pl (H.tr (H.m2 _ _) (H.j1 _ _)) (H.tr (H.m1 _ _) (H.j1 _ _)) (H.j2 _ _))),
  gmeet H M hpq (gcond H M p2 p1 (pl (H.j2 _ _) (H.tr (H.m2 _ _) (H.j1 _ _)) (H.tr (H.m1 _ _) (H.j1 _ _)))),
  gmeet H M hpq (gcond H M (y:=z) (z:=y) (by rw[H.mc];exact p3) (by rw[H.mc];exact p1) (pl (by rw[H.mc];exact H.j2 _ _) (H.tr (H.m2 _ _) (H.j1 _ _)) (H.tr (H.m1 _ _) (H.j1 _ _)))), ?_, ?_, ?_⟩
 ·rw[hu,hu]
  exact gmeet HD MD hpq (gcond HD MD q1 q3 (ql (H.tr (H.m1 _ _) (H.j2 _ _)) (H.tr (H.m1 _ _) (H.j1 _ _)) (H.m2 _ _)))
 ·rw[hu,hu]
  exact gmeet HD MD hpq (gcond HD MD q2 q1 (ql (H.m2 _ _) (H.tr (H.m1 _ _) (H.j2 _ _)) (H.tr (H.m1 _ _) (H.j1 _ _))))
 ·rw[hu,hu]
  exact gmeet HD MD hpq (gcond HD MD (y:=z) (z:=y) (by rw[H.jc];exact q3) (by rw[H.jc];exact q1) (ql (by rw[H.jc];exact H.m2 _ _) (H.tr (H.m1 _ _) (H.j2 _ _)) (H.tr (H.m1 _ _) (H.j1 _ _))))
theorem gpent {α:Type} {le:α→α→Prop} {m j:α→α→α} (H:GLat le m j) {x y z:α} (hxz:le x z) (hb:j x (m y z)≠m (j x y) z) :
  ∃ a b,le a b∧a≠b∧m a y=m b y∧j a y=j b y:=by
 have ab:le (j x (m y z)) (m (j x y) z):=H.jg (H.mg (H.j1 _ _) hxz) (H.mg (H.tr (H.m1 _ _) (H.j2 _ _)) (H.m2 _ _))
 refine⟨j x (m y z),m (j x y) z,ab,hb,H.asy (H.mg (H.tr (H.m1 _ _) ab) (H.m2 _ _)) (H.mg (H.tr (H.mg (H.m2 _ _) (H.tr (H.m1 _ _) (H.m2 _ _))) (H.j2 _ _)) (H.m2 _ _)),H.asy (H.jg (H.tr ab (H.j1 _ _)) (H.j2 _ _)) (H.jg (H.tr (H.m1 _ _) (H.jg (H.tr (H.j1 _ _) (H.j1 _ _)) (H.j2 _ _))) (H.j2 _ _))⟩
theorem vbfv {α:Type} {le:α→α→Prop} {m j:α→α→α} (H:GLat le m j) {a b c:α} (hab:le a b) (hne:a≠b) (hm:m b c=m a c) (hj:j b c=j a c) :
  m a c≠a∧m a c≠b∧m a c≠c∧m a c≠j a c∧a≠c∧a≠j a c∧b≠c∧b≠j a c∧c≠j a c:=by
 have k1:¬ le a c:=fun h=>hne <| by
  have e1:j a c=c:=H.ja h
  have hbc:le b c:=by have:=H.j1 b c;rw[hj,e1] at this;exact this
  have e2:m b c=b:=H.ma hbc
  have e3:m a c=a:=H.ma h
  rw[← e3,← hm,e2]
 have k2:¬ le c b:=fun h=>hne <| by
  have e1:m b c=c:=by rw[H.mc];exact H.ma h
  have hca:le c a:=by have:=H.m1 a c;rw[← hm,e1] at this;exact this
  have e2:j b c=b:=by rw[H.jc];exact H.ja h
  have e3:j a c=a:=by rw[H.jc];exact H.ja hca
  rw[← e3,← hj,e2]
 refine⟨fun e=>k1 (by rw[← e];exact H.m2 _ _),fun e=>k1 (H.tr hab (by rw[← e];exact H.m2 _ _)),fun e=>k2 (H.tr (by rw[← e];exact H.m1 _ _) hab),fun e=>k1 (H.tr (H.j1 a c) (by rw[← e];exact H.m2 _ _)),fun e=>k1 (by rw[e];exact H.rf _),fun e=>k2 (H.tr (by rw[e];exact H.j2 _ _) hab),fun e=>k2 (by rw[e];exact H.rf _),fun e=>k2 (by rw[e];exact H.j2 _ _),fun e=>k1 (by rw[e];exact H.j1 _ _)⟩
theorem vabw:∀ a:List Int,lx a a=false
 | []=>rfl
 | x::s=>by simp only[lx,ne_eq,not_true_eq_false,if_false];exact vabw s
theorem vaqy:∀ {a b c:List Int},lx a b=true→lx b c=true→lx a c=true
 | [],b,c,h,_=>by cases b <;> simp[lx] at h
 | x::s,[],c,h,_=>by simp[lx] at h
 | x::s,y::t,[],_,h=>by simp[lx] at h
 | x::s,y::t,z::u,h1,h2=>by
  unfold lx at *
  split at h1
  ·split at h2
   ·have a1:=of_decide_eq_true h1
    have a2:=of_decide_eq_true h2
    rw[if_pos (by omega)]
    exact decide_eq_true (by omega)
   ·have a1:=of_decide_eq_true h1
    rw[if_pos (by omega)]
    exact decide_eq_true (by omega)
  ·split at h2
   ·have a2:=of_decide_eq_true h2
    rw[if_pos (by omega)]
    exact decide_eq_true (by omega)
   ·rw[if_neg (by omega)]
    exact vaqy h1 h2
theorem vbit:∀ {a b:List Int},a.length=b.length→lx a b=false→lx b a=false→a=b
 | [],[],_,_,_=>rfl
 | x::s,y::t,hl,h1,h2=>by
  unfold lx at h1 h2
  by_cases e:x=y
  ·subst e
   rw[if_neg (by simp)] at h1 h2
   rw[vbit (by simpa using hl) h1 h2]
  ·rw[if_pos e] at h1
   rw[if_pos (Ne.symm e)] at h2
   have a1:=of_decide_eq_false h1
   have a2:=of_decide_eq_false h2
   omega
def Bst (Q:List Int→Prop) (b:List Int):Prop:=b=[]∧(∀ l,¬ Q l)∨Q b∧∀ l,Q l→lx l b=false
theorem vbnf {Q:List Int→Prop} {b f:List Int} {g:Bool} (hQ:∀ l,Q l→l.length=5) (hf:f.length=5) (h:Bst Q b):Bst (fun l=>Q l∨g=true∧l=f) (upd b f g):=by
 unfold upd
 cases g with
 | false =>
  rw[Bool.false_and,if_neg (by simp)]
  rcases h with⟨h1,h2⟩ | ⟨h1,h2⟩
  ·exact .inl ⟨h1,fun l hl=>hl.elim (h2 l) fun q=>absurd q.1 (by simp)⟩
  ·exact .inr ⟨.inl h1,fun l hl=>hl.elim (h2 l) fun q=>absurd q.1 (by simp)⟩
 | true =>
  rw[Bool.true_and]
  rcases h with⟨h1,h2⟩ | ⟨h1,h2⟩
  ·subst h1
   rw[if_pos (by simp)]
   exact .inr ⟨.inr ⟨rfl,rfl⟩,fun l hl=>hl.elim (fun q=>absurd q (h2 l)) fun q=>by rw[q.2];exact vabw f⟩
  ·have:=hQ b h1
   have hz:decide (b.length=0)=false:=decide_eq_false (by omega)
   rw[hz,Bool.false_or]
   cases e:lx f b with
   | true =>
    rw[if_pos rfl]
    refine .inr ⟨.inr ⟨rfl,rfl⟩,fun l hl=>hl.elim (fun q => ?_) fun q=>by rw[q.2];exact vabw f⟩
    cases e2:lx l f with
    | false=>rfl
    | true=>have:=vaqy e2 e;rw[h2 l q] at this;cases this
   | false =>
    rw[if_neg (by simp)]
    exact .inr ⟨.inl h1,fun l hl=>hl.elim (h2 l) fun q=>by rw[q.2];exact e⟩
theorem Bst.congr {Q R:List Int→Prop} {b:List Int} (h:Bst Q b) (e:∀ l,Q l↔R l):Bst R b:=by
 have:Q=R:=funext fun l=>propext (e l)
 rw[← this];exact h
theorem vavo {Q:List Int→Prop} {b:List Int} {f:Nat→List Int} {g:Nat→Bool} (hQ:∀ l,Q l→l.length=5) (hf:∀ k,(f k).length=5) (h:Bst Q b):∀ k,Bst (fun l=>Q l∨∃ z,z<k∧g z=true∧l=f z) (bst3 f g b k)
 | 0=>h.congr fun l=>⟨.inl,fun q=>q.elim id fun⟨z,hz,_⟩=>by omega⟩
 | k+1=>by
  have ih:=vavo (f:=f) (g:=g) hQ hf h k
  refine (vbnf (g:=g k) (fun l hl=>hl.elim (hQ l) fun⟨z,_,_,e⟩=>e ▸ hf z) (hf k) ih).congr fun l=>⟨?_, ?_⟩
  ·rintro ((q | ⟨z,hz,hg,e⟩) | ⟨hg,e⟩)
   ·exact .inl q
   ·exact .inr ⟨z,by omega,hg,e⟩
   ·exact .inr ⟨k,by omega,hg,e⟩
  ·rintro (q | ⟨z,hz,hg,e⟩)
   ·exact .inl (.inl q)
   ·by_cases c:z=k
    ·subst c;exact .inr ⟨hg,e⟩
    ·exact .inl (.inr ⟨z,by omega,hg,e⟩)
theorem vasn {Q:List Int→Prop} {b:List Int} {n:Nat} {f:Nat→Nat→List Int} {g:Nat→Nat→Bool} (hQ:∀ l,Q l→l.length=5) (hf:∀ j k,(f j k).length=5) (h:Bst Q b):∀ k,Bst (fun l=>Q l∨∃ y z,y<k∧z<n∧g y z=true∧l=f y z) (bst2 f g n b k)
 | 0=>h.congr fun l=>⟨.inl,fun q=>q.elim id fun⟨y,z,hz,_⟩=>by omega⟩
 | k+1=>by
  have ih:=vasn (n:=n) (f:=f) (g:=g) hQ hf h k
  refine (vavo (f:=f k) (g:=g k) (fun l hl=>hl.elim (hQ l) fun⟨y,z,_,_,_,e⟩=>e ▸ hf y z) (hf k) ih n).congr fun l=>⟨?_, ?_⟩
  ·rintro ((q | ⟨y,z,hy,hz,hg,e⟩) | ⟨z,hz,hg,e⟩)
   ·exact .inl q
   ·exact .inr ⟨y,z,by omega,hz,hg,e⟩
   ·exact .inr ⟨k,z,by omega,hz,hg,e⟩
  ·rintro (q | ⟨y,z,hy,hz,hg,e⟩)
   ·exact .inl (.inl q)
   ·by_cases c:y=k
    ·subst c;exact .inr ⟨z,hz,hg,e⟩
    ·exact .inl (.inr ⟨y,z,by omega,hz,hg,e⟩)
theorem vjn {n:Nat} {f:Nat→Nat→Nat→List Int} {g:Nat→Nat→Nat→Bool} (hf:∀ i j k,(f i j k).length=5):∀ k,Bst (fun l=>∃ x y z,x<k∧y<n∧z<n∧g x y z=true∧l=f x y z) (bst1 f g n k)
 | 0 => .inl ⟨rfl,fun l ⟨x,y,z,hx,_⟩=>by omega⟩
 | k+1=>by
  have ih:=vjn (n:=n) (f:=f) (g:=g) hf k
  refine (vasn (n:=n) (f:=f k) (g:=g k) (fun l ⟨x,y,z,_,_,_,_,e⟩=>e ▸ hf x y z) (hf k) ih n).congr fun l=>⟨?_, ?_⟩
  ·rintro (⟨x,y,z,hx,hy,hz,hg,e⟩ | ⟨y,z,hy,hz,hg,e⟩)
   ·exact⟨x,y,z,by omega,hy,hz,hg,e⟩
   ·exact⟨k,y,z,by omega,hy,hz,hg,e⟩
  ·rintro⟨x,y,z,hx,hy,hz,hg,e⟩
   by_cases c:x=k
   ·subst c;exact .inr ⟨y,z,hy,hz,hg,e⟩
   ·exact .inl ⟨x,y,z,by omega,hy,hz,hg,e⟩
theorem vij {Q:List Int→Prop} {a b:List Int} (hQ:∀ l,Q l→l.length=5) (ha:Bst Q a) (hb:Bst Q b):a=b:=by
 rcases ha with⟨rfl,h1⟩ | ⟨h1,h2⟩
 ·rcases hb with⟨rfl,_⟩ | ⟨h3,_⟩
  ·rfl
  ·exact absurd h3 (h1 _)
 ·rcases hb with⟨rfl,h3⟩ | ⟨h3,h4⟩
  ·exact absurd h1 (h3 _)
  ·exact vbit (by rw[hQ _ h1,hQ _ h3]) (h4 _ h1) (h2 _ h3)
def Ext (n m:Nat) (lp lq:Nat→Nat→Bool):Nat→List Nat→List Nat→Prop
 | 0,S,T=>T=S
 | k+1,S,T=>∃ x,x<n∧x ∉ S∧sAgr n m lp lq (S++[x])∧Ext n m lp lq k (S++[x]) T
theorem vair {n m:Nat} {lp lq:Nat→Nat→Bool}:∀ {k:Nat} {S T:List Nat},Ext n m lp lq k S T→∃ R,T=S++R∧R.length=k
 | 0,S,T,h=>⟨[],by simpa [Ext] using h,rfl⟩
 | k+1,S,T,h=>by
  obtain⟨x,_,_,_,h⟩:=h
  obtain⟨R,e,hl⟩:=vair h
  exact⟨x::R,by rw[e];simp,by simp[hl]⟩
theorem vbtt (S:List Nat) (a b:List Int):lx (cs S++a) (cs S++b)=lx a b:=by
 induction S with
 | nil=>rfl
 | cons x S ih=>simp only[cs_cons,List.cons_append,lx,ne_eq,not_true_eq_false,if_false];exact ih
theorem vajw {n m:Nat} {lp lq:Nat→Nat→Bool}:∀ (k:Nat) (S:List Nat),(sub n m lp lq k S=none∧∀ T,¬ Ext n m lp lq k S T)∨∃ T,sub n m lp lq k S=some T∧Ext n m lp lq k S T∧∀ T',Ext n m lp lq k S T'→lx (cs T') (cs T)=false
 | 0,S => .inr ⟨S,rfl,rfl,fun T' h=>by rw[show T'=S from h];exact vabw _⟩
 | k+1,S=>by
  have hg:∀ x,x<n→((if x∈S then none else bif tv (sAgr n m lp lq (S++[x])) then sub n m lp lq k (S++[x]) else none)=none∧∀ T,¬ (x ∉ S∧sAgr n m lp lq (S++[x])∧Ext n m lp lq k (S++[x]) T)) ∨
    ∃ T,(if x∈S then none else bif tv (sAgr n m lp lq (S++[x])) then sub n m lp lq k (S++[x]) else none)=some T∧(x ∉ S∧sAgr n m lp lq (S++[x])∧Ext n m lp lq k (S++[x]) T)∧∀ T',Ext n m lp lq k (S++[x]) T'→lx (cs T') (cs T)=false:=fun x hx=>by
   by_cases h1:x∈S
   ·exact .inl ⟨by rw[if_pos h1],fun T q=>q.1 h1⟩
   ·by_cases h2:sAgr n m lp lq (S++[x])
    ·rcases vajw (lp:=lp) (lq:=lq) k (S++[x]) with⟨e,he⟩ | ⟨T,e,he,hm⟩
     ·exact .inl ⟨by rw[if_neg h1,tv_t h2,cond_true,e],fun T q=>he T q.2.2⟩
     ·exact .inr ⟨T,by rw[if_neg h1,tv_t h2,cond_true,e],⟨h1,h2,he⟩,hm⟩
    ·exact .inl ⟨by rw[if_neg h1,tv_f h2,cond_false],fun T q=>h2 q.2.1⟩
  by_cases hex:∃ x,x<n∧∃ T,x ∉ S∧sAgr n m lp lq (S++[x])∧Ext n m lp lq k (S++[x]) T
  · -- the first one
   have hfirst:∀ b,(∃ x,x<b∧x<n∧∃ T,x ∉ S∧sAgr n m lp lq (S++[x])∧Ext n m lp lq k (S++[x]) T)→∃ x,x<n∧(∃ T,x ∉ S∧sAgr n m lp lq (S++[x])∧Ext n m lp lq k (S++[x]) T)∧∀ y,y<x→∀ T,¬ (y ∉ S∧sAgr n m lp lq (S++[y])∧Ext n m lp lq k (S++[y]) T):=by
    intro b
    induction b with
    | zero=>rintro⟨x,hx,_⟩;omega
    | succ b ih =>
     rintro⟨x,hx,hxn,hT⟩
     by_cases c:∃ x,x<b∧x<n∧∃ T,x ∉ S∧sAgr n m lp lq (S++[x])∧Ext n m lp lq k (S++[x]) T
     ·exact ih c
     ·have hxb:x=b:=by
       by_cases e:x=b
       ·exact e
       ·exact absurd ⟨x,by omega,hxn,hT⟩ c
      subst hxb
      exact⟨x,hxn,hT,fun y hy T q=>c ⟨y,hy,by omega,T,q⟩⟩
   obtain⟨x0,hx0,hT0⟩:=hex
   obtain⟨x,hx,⟨T1,hT1⟩,hmin⟩:=hfirst (x0+1) ⟨x0,by omega,hx0,hT0⟩
   rcases hg x hx with⟨_,hn⟩ | ⟨T,e,hT,hm⟩
   ·exact absurd hT1 (hn T1)
   ·refine .inr ⟨T, ?_,⟨x,hx,hT.1,hT.2.1,hT.2.2⟩,fun T' hT' => ?_⟩
    ·show (List.range n).findSome? _=some T
     refine vyc hx (fun y hy => ?_) e
     rcases hg y (by omega) with⟨e',_⟩ | ⟨T2,_,h2,_⟩
     ·exact e'
     ·exact absurd h2 (hmin y hy T2)
    ·obtain⟨y,hy,h1,h2,h3⟩:=hT'
     by_cases c:y=x
     ·subst c;exact hm T' h3
     ·have hxy:x<y:=by
       by_cases d:y<x
       ·exact absurd ⟨h1,h2,h3⟩ (hmin y d T')
       ·omega
      obtain⟨R1,e1,_⟩:=vair hT.2.2
      obtain⟨R2,e2,_⟩:=vair h3
      rw[e1,e2,List.append_assoc,List.append_assoc]
      simp only[vcl]
      rw[vbtt]
      simp only[cs_cons,cs_nil,List.cons_append,List.nil_append,lx]
      rw[if_pos (by omega)]
      exact decide_eq_false (by omega)
  ·refine .inl ⟨?_,fun T hT => ?_⟩
   ·show (List.range n).findSome? _=none
    refine vrk fun y hy => ?_
    rcases hg y hy with⟨e',_⟩ | ⟨T2,_,h2,_⟩
    ·exact e'
    ·exact absurd ⟨y,hy,T2,h2⟩ hex
   ·obtain⟨y,hy,h⟩:=hT
    exact hex ⟨y,hy,T,h⟩
theorem latG {n:Nat} {le:Nat→Nat→Bool} (h:LatP n le):GLat (α:={x:Nat // x<n}) (fun a b=>le a.1 b.1=true) (fun a b=>⟨mt n le a.1 b.1,h.mlt a.2 b.2⟩) (fun a b=>⟨mt n (du le) a.1 b.1,jlt h a.2 b.2⟩) where
 rf:=fun a=>h.ord.refl a.1 a.2
 tr:=fun {a b c} p q=>h.tr a.2 b.2 c.2 p q
 asy:=fun {a b} p q=>Subtype.ext (h.as a.2 b.2 p q)
 m1:=fun a b=>h.m1 a.2 b.2
 m2:=fun a b=>h.m2 a.2 b.2
 mg:=fun {a b c} p q=>h.mg a.2 b.2 c.2 p q
 j1:=fun a b=>j1 h a.2 b.2
 j2:=fun a b=>j2 h a.2 b.2
 jg:=fun {a b c} p q=>jg h a.2 b.2 c.2 p q
def PenEx (n:Nat) (le:Nat→Nat→Bool):Prop:=∃ a b c,a<n∧b<n∧c<n∧penP n le a b c∧Dif (penF n le a b c)
def DiaEx (n:Nat) (le:Nat→Nat→Bool):Prop:=∃ a b c,a<n∧b<n∧c<n∧diaP n le a b c∧Dif (diaF n le a b c)
theorem dif5 {a b c d e:Int}:Dif [a,b,c,d,e]↔a≠b∧a≠c∧a≠d∧a≠e∧b≠c∧b≠d∧b≠e∧c≠d∧c≠e∧d≠e:=by
 constructor
 ·intro h
  have h1:=h 1 (by simp)
  have h2:=h 2 (by simp)
  have h3:=h 3 (by simp)
  have h4:=h 4 (by simp)
  simp at h1 h2 h3 h4
  omega
 ·intro h i hi
  simp only[List.length_cons,List.length_nil] at hi
  rcases i with _ | _ | _ | _ | _ | i
  ·simp
  ·simp;omega
  ·simp;omega
  ·simp;omega
  ·simp;omega
  ·omega
theorem vawu {n:Nat} {le:Nat→Nat→Bool} (h:LatP n le) {x y z:Nat} (hx:x<n) (hy:y<n) (hz:z<n) (hb:Bnt n le x y z):PenEx n le:=by
 obtain⟨⟨a,ha⟩,⟨b,hb'⟩,h1,h2,h3,h4⟩:=gpent (latG h) (x:=⟨x,hx⟩) (y:=⟨y,hy⟩) (z:=⟨z,hz⟩) hb.1 (fun e=>hb.2 (congrArg Subtype.val e))
 have hd:=vbfv (latG h) (a:=⟨a,ha⟩) (b:=⟨b,hb'⟩) (c:=⟨y,hy⟩) h1 h2 h3.symm h4.symm
 simp only[Subtype.mk.injEq,ne_eq] at h2 h3 h4 hd
 refine⟨a,b,y,ha,hb',hy,⟨?_,h3.symm,h4.symm⟩,dif5.2 ?_⟩
 ·unfold ls
  rw[decide_eq_true h2,Bool.true_and];exact h1
 ·omega
theorem vawg {n:Nat} {le:Nat→Nat→Bool} (h:LatP n le) {a b c:Nat} (ha:a<n) (hb:b<n) (hc:c<n) (hp:penP n le a b c):Bnt n le a c b:=by
 obtain⟨h1,h2,h3⟩:=hp
 unfold ls at h1
 rw[Bool.and_eq_true,decide_eq_true_eq] at h1
 refine⟨h1.2,fun e=>h1.1 ?_⟩
 have G:=latG h
 have e1:mt n (du le) a (mt n le c b)=a:=by
  rw[vas c b,h2]
  exact h.as (jlt h ha (h.mlt ha hc)) ha (jg h ha (h.mlt ha hc) ha (h.ord.refl a ha) (h.m1 ha hc)) (j1 h ha (h.mlt ha hc))
 have e2:mt n le (mt n (du le) a c) b=b:=by
  rw[← h3]
  exact h.as (h.mlt (jlt h hb hc) hb) hb (h.m2 (jlt h hb hc) hb) (h.mg (jlt h hb hc) hb hb (j1 h hb hc) (h.ord.refl b hb))
 rw[← e1,e,e2]
theorem vaji {n:Nat} {le:Nat→Nat→Bool} (h:LatP n le):Mod n le↔¬ PenEx n le:=by
 constructor
 ·rintro hm ⟨a,b,c,ha,hb,hc,hp,_⟩
  exact hm a c b ha hc hb (vawg h ha hb hc hp)
 ·intro hn x y z hx hy hz hb
  exact hn (vawu h hx hy hz hb)
theorem vbon {n:Nat} {le:Nat→Nat→Bool} (h:LatP n le) (hd:Dis n le):Mod n le:=fun x y z hx hy hz hb=>hb.2 <| by
 have l1:=jlt h hx hy
 rw[vas (mt n (du le) x y) z,hd z x y hz hx hy,vas z x,vas z y]
 rw[show mt n le x z=x from h.as (h.mlt hx hz) hx (h.m1 hx hz) (h.mg hx hz hx (h.ord.refl x hx) hb.1)]
theorem vbro {n:Nat} {le:Nat→Nat→Bool} (h:LatP n le) (hm:Mod n le) (hd:¬ Dis n le):DiaEx n le:=by
 have hM:GMod (α:={x:Nat // x<n}) (fun a b=>le a.1 b.1=true) (fun a b=>⟨mt n le a.1 b.1,h.mlt a.2 b.2⟩) (fun a b=>⟨mt n (du le) a.1 b.1,jlt h a.2 b.2⟩):=fun x y z hxz=>Subtype.ext <| by
  by_cases e:mt n (du le) x.1 (mt n le y.1 z.1)=mt n le (mt n (du le) x.1 y.1) z.1
  ·exact e
  ·exact absurd ⟨hxz,e⟩ (hm x.1 y.1 z.1 x.2 y.2 z.2)
 obtain⟨x,hx⟩:=Classical.not_forall.1 hd
 obtain⟨y,hx⟩:=Classical.not_forall.1 hx
 obtain⟨z,hx⟩:=Classical.not_forall.1 hx
 obtain⟨h1,hx⟩:=Classical.not_imp.1 hx
 obtain⟨h2,hx⟩:=Classical.not_imp.1 hx
 obtain⟨h3,hx⟩:=Classical.not_imp.1 hx
 obtain⟨⟨p,hp⟩,⟨q,hq⟩,⟨u,hu⟩,⟨v,hv⟩,⟨w,hw⟩,g0,g1,g2,g3,g4,g5,g6⟩:=gdiam (latG h) hM (x:=⟨x,h1⟩) (y:=⟨y,h2⟩) (z:=⟨z,h3⟩) (fun e=>hx (congrArg Subtype.val e))
 simp only[Subtype.mk.injEq,ne_eq] at g0 g1 g2 g3 g4 g5 g6
 have pu:le p u=true:=by rw[← g1];exact h.m1 hu hv
 have pv:le p v=true:=by rw[← g1];exact h.m2 hu hv
 have pw:le p w=true:=by rw[← g2];exact h.m2 hv hw
 have uq:le u q=true:=by rw[← g4];exact j1 h hu hv
 have vq:le v q=true:=by rw[← g4];exact j2 h hu hv
 have wq:le w q=true:=by rw[← g5];exact j2 h hv hw
 have mself:∀ {a},a<n→mt n le a a=a:=fun ha=>vaiw h ha
 have jself:∀ {a},a<n→mt n (du le) a a=a:=fun ha=>vaiw h.du ha
 have jab:∀ {a b},a<n→b<n→le a b=true→mt n (du le) a b=b:=fun ha hb e=>h.as (jlt h ha hb) hb (jg h ha hb hb e (h.ord.refl _ hb)) (j2 h ha hb)
 have mab:∀ {a b},a<n→b<n→le b a=true→mt n le a b=b:=fun ha hb e=>h.as (h.mlt ha hb) hb (h.m2 ha hb) (h.mg ha hb hb e (h.ord.refl _ hb))
 have nuv:u≠v:=fun e=>g0 (by subst e;rw[mself hu] at g1;rw[jself hu] at g4;omega)
 have nvw:v≠w:=fun e=>g0 (by subst e;rw[mself hv] at g2;rw[jself hv] at g5;omega)
 have nuw:u≠w:=fun e=>g0 (by subst e;rw[mself hu] at g3;rw[jself hu] at g6;omega)
 have npu:p≠u:=fun e=>nvw (by subst e;rw[jab hp hv pv] at g4;rw[jab hp hw pw] at g6;omega)
 have npv:p≠v:=fun e=>nuw (by subst e;rw[vas (le:=du le),jab hp hu pu] at g4;rw[jab hp hw pw] at g5;omega)
 have npw:p≠w:=fun e=>nuv (by subst e;rw[vas (le:=du le),jab hp hv pv] at g5;rw[vas (le:=du le),jab hp hu pu] at g6;omega)
 have nqu:u≠q:=fun e=>nvw (by subst e;rw[mab hu hv vq] at g1;rw[mab hu hw wq] at g3;omega)
 have nqv:v≠q:=fun e=>nuw (by subst e;rw[vas,mab hv hu uq] at g1;rw[mab hv hw wq] at g2;omega)
 have nqw:w≠q:=fun e=>nuv (by subst e;rw[vas,mab hw hv vq] at g2;rw[vas,mab hw hu uq] at g3;omega)
 refine⟨u,v,w,hu,hv,hw,⟨by rw[g1,g3],by rw[g2,g3],by rw[g4,g6],by rw[g5,g6]⟩,dif5.2 ?_⟩
 rw[g3,g6]
 omega
theorem vbss {n:Nat} {le:Nat→Nat→Bool} (h:LatP n le) (hd:Dis n le):¬ DiaEx n le:=by
 rintro⟨x,y,z,hx,hy,hz,⟨h1,h2,h3,h4⟩,hf⟩
 have hf:=dif5.1 hf
 have e:=hd x y z hx hy hz
 have k:=h.mlt hx hz
 rw[h4,h1,vaiw h.du k] at e
 have:mt n le x (mt n (du le) x z)=x:=h.as (h.mlt hx (jlt h hx hz)) hx (h.m1 hx (jlt h hx hz)) (h.mg hx (jlt h hx hz) hx (h.ord.refl x hx) (j1 h hx hz))
 rw[this] at e
 omega
theorem vbpb {n:Nat} {le:Nat→Nat→Bool} (h:LatP n le):Dis n le↔¬ PenEx n le∧¬ DiaEx n le:=by
 constructor
 ·exact fun hd=>⟨(vaji h).1 (vbon h hd),vbss h hd⟩
 ·rintro⟨h1,h2⟩
  by_cases hd:Dis n le
  ·exact hd
  ·exact absurd (vbro h ((vaji h).2 h1) hd) h2
def n5 (x y:Nat):Bool:=x == y || (x == 0 || (y == 4 || (x == 1 && y == 2)))
def m3 (x y:Nat):Bool:=x == y || (x == 0 || y == 4)
theorem vbfm:LatP 5 n5:=by
 refine⟨by omega,⟨?_, ?_, ?_⟩,⟨by omega, ?_, ?_⟩⟩
 ·decide
 ·have:∀ x,x<5→∀ y,y<5→x≠y→n5 x y=true→n5 y x=false:=by decide
  exact fun x y hx hy=>this x hx y hy
 ·have:∀ x,x<5→∀ y,y<5→∀ z,z<5→n5 x y=true→n5 y z=true→n5 x z=true:=by decide
  exact fun x y z hx hy hz=>this x hx y hy z hz
 ·have:∀ x,x<5→∀ y,y<5→0≤bnd 5 n5 [x,y]:=by decide
  exact fun x y hx hy=>this x hx y hy
 ·have:∀ x,x<5→∀ y,y<5→0≤bnd 5 (du n5) [x,y]:=by decide
  exact fun x y hx hy=>this x hx y hy
theorem vbiz:LatP 5 m3:=by
 refine⟨by omega,⟨?_, ?_, ?_⟩,⟨by omega, ?_, ?_⟩⟩
 ·decide
 ·have:∀ x,x<5→∀ y,y<5→x≠y→m3 x y=true→m3 y x=false:=by decide
  exact fun x y hx hy=>this x hx y hy
 ·have:∀ x,x<5→∀ y,y<5→∀ z,z<5→m3 x y=true→m3 y z=true→m3 x z=true:=by decide
  exact fun x y z hx hy hz=>this x hx y hy z hz
 ·have:∀ x,x<5→∀ y,y<5→0≤bnd 5 m3 [x,y]:=by decide
  exact fun x y hx hy=>this x hx y hy
 ·have:∀ x,x<5→∀ y,y<5→0≤bnd 5 (du m3) [x,y]:=by decide
  exact fun x y hx hy=>this x hx y hy
theorem vrc {n m:Nat} {lp lq:Nat→Nat→Bool} {S R:List Nat} (h:sAgr n m lp lq (S++R)):sAgr n m lp lq S:=fun y z hy hz=>by
 have hg:∀ i,i<S.length→(S++R).getD i 0=S.getD i 0:=fun i hi=>by
  rw[List.getD_eq_getElem?_getD,List.getD_eq_getElem?_getD,List.getElem?_append_left hi]
 have:=h y z (by rw[List.length_append];omega) (by rw[List.length_append];omega)
 unfold sAg at *
 rw[List.length_append,hg y hy,hg z hz] at this
 refine⟨fun q => ?_,fun q => ?_⟩
 ·rw[← hg _ q];exact this.1 (by omega)
 ·rw[← hg _ q];exact this.2 (by omega)
theorem vbjm {n m:Nat} {lp lq:Nat→Nat→Bool} (h:LatP n lp) (h':LatP m lq) {S:List Nat} {y z:Nat} (hy:y<m) (hz:z<m) (hl:lq y z=true) (h1:S.getD y 0<n) (h2:S.getD z 0<n) (hle:lp (S.getD y 0) (S.getD z 0)=true):sAg n m lp lq S y z:=by
 unfold sAg
 have e1:mt m lq y z=y:=h'.as (h'.mlt hy hz) hy (h'.m1 hy hz) (h'.mg hy hz hy (h'.ord.refl y hy) hl)
 have e2:mt m (du lq) y z=z:=h'.as (jlt h' hy hz) hz (jg h' hy hz hz hl (h'.ord.refl z hz)) (j2 h' hy hz)
 rw[e1,e2]
 exact⟨fun _=>h.as (h.mlt h1 h2) h1 (h.m1 h1 h2) (h.mg h1 h2 h1 (h.ord.refl _ h1) hle),fun _=>h.as (jlt h h1 h2) h2 (jg h h1 h2 h2 hle (h.ord.refl _ h2)) (j2 h h1 h2)⟩
theorem ext5 {n:Nat} {lp lq:Nat→Nat→Bool} {T:List Nat}:Ext n 5 lp lq 5 [] T↔∃ a b c d e:Nat,T=[a,b,c,d,e]∧(a<n∧b<n∧c<n∧d<n∧e<n)∧Dif [(a:Int),(b:Int),(c:Int),(d:Int),(e:Int)]∧sAgr n 5 lp lq [a,b,c,d,e]:=by
 constructor
 ·rintro⟨a,ha,_,_,b,hb,n1,_,c,hc,n2,_,d,hd,n3,_,e,he,n4,hs,rfl⟩
  simp only[List.nil_append,List.cons_append] at n1 n2 n3 n4 hs ⊢
  refine⟨a,b,c,d,e,rfl,⟨ha,hb,hc,hd,he⟩,dif5.2 ?_,hs⟩
  simp at n1 n2 n3 n4
  omega
 ·rintro⟨a,b,c,d,e,rfl,⟨ha,hb,hc,hd,he⟩,hf,hs⟩
  have hf:=dif5.1 hf
  have s4:sAgr n 5 lp lq [a,b,c,d]:=vrc (R:=[e]) hs
  have s3:sAgr n 5 lp lq [a,b,c]:=vrc (R:=[d,e]) hs
  have s2:sAgr n 5 lp lq [a,b]:=vrc (R:=[c,d,e]) hs
  have s1:sAgr n 5 lp lq [a]:=vrc (R:=[b,c,d,e]) hs
  refine⟨a,ha,by simp,s1,b,hb, ?_,s2,c,hc, ?_,s3,d,hd, ?_,s4,e,he, ?_,hs,rfl⟩ <;> simp <;> omega
theorem vaux {n:Nat} {le:Nat→Nat→Bool} (h:LatP n le) {T:List Nat}:Ext n 5 le n5 5 [] T↔∃ x y z,x<n∧y<n∧z<n∧penG n le x y z=true∧cs T=penF n le x y z:=by
 rw[ext5]
 constructor
 ·rintro⟨o,a,b,c,i,rfl,⟨ho,ha,hb,hc,hi⟩,hf,hs⟩
  have a12:=(hs 1 2 (by simp) (by simp)).1 (show mt 5 n5 1 2<5 by decide)
  have a13:=(hs 1 3 (by simp) (by simp)).1 (show mt 5 n5 1 3<5 by decide)
  have a23:=(hs 2 3 (by simp) (by simp)).1 (show mt 5 n5 2 3<5 by decide)
  have b13:=(hs 1 3 (by simp) (by simp)).2 (show mt 5 (du n5) 1 3<5 by decide)
  have b23:=(hs 2 3 (by simp) (by simp)).2 (show mt 5 (du n5) 2 3<5 by decide)
  rw[show mt 5 n5 1 2=1 by decide] at a12
  rw[show mt 5 n5 1 3=0 by decide] at a13
  rw[show mt 5 n5 2 3=0 by decide] at a23
  rw[show mt 5 (du n5) 1 3=4 by decide] at b13
  rw[show mt 5 (du n5) 2 3=4 by decide] at b23
  simp only[List.getD_cons_zero,List.getD_cons_succ] at a12 a13 a23 b13 b23
  have hd:=dif5.1 hf
  refine⟨a,b,c,ha,hb,hc, ?_,by rw[cs_cons,cs_cons,cs_cons,cs_cons,cs_cons,cs_nil,← a13,← b13]⟩
  unfold penG
  refine tv_t ⟨⟨?_,by rw[a23,a13],by rw[b23,b13]⟩,by show Dif [_,_,_,_,_];rw[a13,b13];exact hf⟩
  unfold ls
  rw[decide_eq_true (by omega),Bool.true_and,← a12]
  exact h.m2 ha hb
 ·rintro⟨a,b,c,ha,hb,hc,hg,e⟩
  unfold penG at hg
  obtain⟨⟨p1,p2,p3⟩,hf⟩:=tv_iff.1 hg
  unfold ls at p1
  rw[Bool.and_eq_true,decide_eq_true_eq] at p1
  have eT:T=[mt n le a c,a,b,c,mt n (du le) a c]:=cs_inj.1 (by rw[e];rfl)
  have lo:=h.mlt ha hc
  have hi:=jlt h ha hc
  refine⟨_,_,_,_,_,eT,⟨lo,ha,hb,hc,hi⟩,hf, ?_⟩
  have oa:=h.m1 ha hc
  have oc:=h.m2 ha hc
  have ai:=j1 h ha hc
  have ci:=j2 h ha hc
  have ob:=h.tr lo ha hb oa p1.2
  have bi:le b (mt n (du le) a c)=true:=by rw[← p3];exact j1 h hb hc
  have oi:=h.tr lo ha hi oa ai
  have key:∀ y,y<5→∀ z,z<5→n5 y z=true→sAg n 5 le n5 [mt n le a c,a,b,c,mt n (du le) a c] y z:=fun y hy z hz hl=>by
   refine vbjm h vbfm hy hz hl ?_ ?_ ?_
   ·match y,hy with
    | 0,_=>exact lo
    | 1,_=>exact ha
    | 2,_=>exact hb
    | 3,_=>exact hc
    | 4,_=>exact hi
   ·match z,hz with
    | 0,_=>exact lo
    | 1,_=>exact ha
    | 2,_=>exact hb
    | 3,_=>exact hc
    | 4,_=>exact hi
   ·match y,hy,z,hz with
    | 0,_,0,_=>exact h.ord.refl _ lo
    | 0,_,1,_=>exact oa
    | 0,_,2,_=>exact ob
    | 0,_,3,_=>exact oc
    | 0,_,4,_=>exact oi
    | 1,_,1,_=>exact h.ord.refl _ ha
    | 1,_,2,_=>exact p1.2
    | 1,_,4,_=>exact ai
    | 2,_,2,_=>exact h.ord.refl _ hb
    | 2,_,4,_=>exact bi
    | 3,_,3,_=>exact h.ord.refl _ hc
    | 3,_,4,_=>exact ci
    | 4,_,4,_=>exact h.ord.refl _ hi
    | 1,_,0,_=>exact absurd hl (by decide)
    | 1,_,3,_=>exact absurd hl (by decide)
    | 2,_,0,_=>exact absurd hl (by decide)
    | 2,_,1,_=>exact absurd hl (by decide)
    | 2,_,3,_=>exact absurd hl (by decide)
    | 3,_,0,_=>exact absurd hl (by decide)
    | 3,_,1,_=>exact absurd hl (by decide)
    | 3,_,2,_=>exact absurd hl (by decide)
    | 4,_,0,_=>exact absurd hl (by decide)
    | 4,_,1,_=>exact absurd hl (by decide)
    | 4,_,2,_=>exact absurd hl (by decide)
    | 4,_,3,_=>exact absurd hl (by decide)
  have k13:sAg n 5 le n5 [mt n le a c,a,b,c,mt n (du le) a c] 1 3:=by
   unfold sAg
   rw[show mt 5 n5 1 3=0 by decide,show mt 5 (du n5) 1 3=4 by decide]
   exact⟨fun _=>rfl,fun _=>rfl⟩
  have k23:sAg n 5 le n5 [mt n le a c,a,b,c,mt n (du le) a c] 2 3:=by
   unfold sAg
   rw[show mt 5 n5 2 3=0 by decide,show mt 5 (du n5) 2 3=4 by decide]
   exact⟨fun _=>p2,fun _=>p3⟩
  intro y z hy hz
  have hy:y<5:=hy
  have hz:z<5:=hz
  have hc:n5 y z=true∨n5 z y=true∨(y=1∧z=3)∨(y=3∧z=1)∨(y=2∧z=3)∨(y=3∧z=2):=by
   have:∀ y,y<5→∀ z,z<5→n5 y z=true∨n5 z y=true∨(y=1∧z=3)∨(y=3∧z=1)∨(y=2∧z=3)∨(y=3∧z=2):=by decide
   exact this y hy z hz
  rcases hc with q | q | ⟨rfl,rfl⟩ | ⟨rfl,rfl⟩ | ⟨rfl,rfl⟩ | ⟨rfl,rfl⟩
  ·exact key y hy z hz q
  ·exact vci (key z hz y hy q)
  ·exact k13
  ·exact vci k13
  ·exact k23
  ·exact vci k23
theorem vavf {n:Nat} {le:Nat→Nat→Bool} (h:LatP n le) {T:List Nat}:Ext n 5 le m3 5 [] T↔∃ x y z,x<n∧y<n∧z<n∧diaG n le x y z=true∧cs T=diaF n le x y z:=by
 rw[ext5]
 constructor
 ·rintro⟨o,a,b,c,i,rfl,⟨ho,ha,hb,hc,hi⟩,hf,hs⟩
  have a12:=(hs 1 2 (by simp) (by simp)).1 (show mt 5 m3 1 2<5 by decide)
  have a13:=(hs 1 3 (by simp) (by simp)).1 (show mt 5 m3 1 3<5 by decide)
  have a23:=(hs 2 3 (by simp) (by simp)).1 (show mt 5 m3 2 3<5 by decide)
  have b12:=(hs 1 2 (by simp) (by simp)).2 (show mt 5 (du m3) 1 2<5 by decide)
  have b13:=(hs 1 3 (by simp) (by simp)).2 (show mt 5 (du m3) 1 3<5 by decide)
  have b23:=(hs 2 3 (by simp) (by simp)).2 (show mt 5 (du m3) 2 3<5 by decide)
  rw[show mt 5 m3 1 2=0 by decide] at a12
  rw[show mt 5 m3 1 3=0 by decide] at a13
  rw[show mt 5 m3 2 3=0 by decide] at a23
  rw[show mt 5 (du m3) 1 2=4 by decide] at b12
  rw[show mt 5 (du m3) 1 3=4 by decide] at b13
  rw[show mt 5 (du m3) 2 3=4 by decide] at b23
  simp only[List.getD_cons_zero,List.getD_cons_succ] at a12 a13 a23 b12 b13 b23
  refine⟨a,b,c,ha,hb,hc, ?_,by rw[cs_cons,cs_cons,cs_cons,cs_cons,cs_cons,cs_nil,← a13,← b13]⟩
  unfold diaG
  exact tv_t ⟨⟨by rw[a12,a13],by rw[a23,a13],by rw[b12,b13],by rw[b23,b13]⟩,by show Dif [_,_,_,_,_];rw[a13,b13];exact hf⟩
 ·rintro⟨a,b,c,ha,hb,hc,hg,e⟩
  unfold diaG at hg
  obtain⟨⟨p1,p2,p3,p4⟩,hf⟩:=tv_iff.1 hg
  have eT:T=[mt n le a c,a,b,c,mt n (du le) a c]:=cs_inj.1 (by rw[e];rfl)
  have lo:=h.mlt ha hc
  have hi:=jlt h ha hc
  refine⟨_,_,_,_,_,eT,⟨lo,ha,hb,hc,hi⟩,hf, ?_⟩
  have oa:=h.m1 ha hc
  have oc:=h.m2 ha hc
  have ai:=j1 h ha hc
  have ci:=j2 h ha hc
  have ob:le (mt n le a c) b=true:=by rw[← p1];exact h.m2 ha hb
  have bi:le b (mt n (du le) a c)=true:=by rw[← p3];exact j2 h ha hb
  have oi:=h.tr lo ha hi oa ai
  have key:∀ y,y<5→∀ z,z<5→m3 y z=true→sAg n 5 le m3 [mt n le a c,a,b,c,mt n (du le) a c] y z:=fun y hy z hz hl=>by
   refine vbjm h vbiz hy hz hl ?_ ?_ ?_
   ·match y,hy with
    | 0,_=>exact lo
    | 1,_=>exact ha
    | 2,_=>exact hb
    | 3,_=>exact hc
    | 4,_=>exact hi
   ·match z,hz with
    | 0,_=>exact lo
    | 1,_=>exact ha
    | 2,_=>exact hb
    | 3,_=>exact hc
    | 4,_=>exact hi
   ·match y,hy,z,hz with
    | 0,_,0,_=>exact h.ord.refl _ lo
    | 0,_,1,_=>exact oa
    | 0,_,2,_=>exact ob
    | 0,_,3,_=>exact oc
    | 0,_,4,_=>exact oi
    | 1,_,1,_=>exact h.ord.refl _ ha
    | 1,_,4,_=>exact ai
    | 2,_,2,_=>exact h.ord.refl _ hb
    | 2,_,4,_=>exact bi
    | 3,_,3,_=>exact h.ord.refl _ hc
    | 3,_,4,_=>exact ci
    | 4,_,4,_=>exact h.ord.refl _ hi
    | 1,_,0,_=>exact absurd hl (by decide)
    | 1,_,2,_=>exact absurd hl (by decide)
    | 1,_,3,_=>exact absurd hl (by decide)
    | 2,_,0,_=>exact absurd hl (by decide)
    | 2,_,1,_=>exact absurd hl (by decide)
    | 2,_,3,_=>exact absurd hl (by decide)
    | 3,_,0,_=>exact absurd hl (by decide)
    | 3,_,1,_=>exact absurd hl (by decide)
    | 3,_,2,_=>exact absurd hl (by decide)
    | 4,_,0,_=>exact absurd hl (by decide)
    | 4,_,1,_=>exact absurd hl (by decide)
    | 4,_,2,_=>exact absurd hl (by decide)
    | 4,_,3,_=>exact absurd hl (by decide)
  have k12:sAg n 5 le m3 [mt n le a c,a,b,c,mt n (du le) a c] 1 2:=by
   unfold sAg
   rw[show mt 5 m3 1 2=0 by decide,show mt 5 (du m3) 1 2=4 by decide]
   exact⟨fun _=>p1,fun _=>p3⟩
  have k13:sAg n 5 le m3 [mt n le a c,a,b,c,mt n (du le) a c] 1 3:=by
   unfold sAg
   rw[show mt 5 m3 1 3=0 by decide,show mt 5 (du m3) 1 3=4 by decide]
   exact⟨fun _=>rfl,fun _=>rfl⟩
  have k23:sAg n 5 le m3 [mt n le a c,a,b,c,mt n (du le) a c] 2 3:=by
   unfold sAg
   rw[show mt 5 m3 2 3=0 by decide,show mt 5 (du m3) 2 3=4 by decide]
   exact⟨fun _=>p2,fun _=>p4⟩
  intro y z hy hz
  have hy:y<5:=hy
  have hz:z<5:=hz
  have hc:m3 y z=true∨m3 z y=true∨(y=1∧z=2)∨(y=2∧z=1)∨(y=1∧z=3)∨(y=3∧z=1)∨(y=2∧z=3)∨(y=3∧z=2):=by
   have:∀ y,y<5→∀ z,z<5→m3 y z=true∨m3 z y=true∨(y=1∧z=2)∨(y=2∧z=1)∨(y=1∧z=3)∨(y=3∧z=1)∨(y=2∧z=3)∨(y=3∧z=2):=by decide
   exact this y hy z hz
  rcases hc with q | q | ⟨rfl,rfl⟩ | ⟨rfl,rfl⟩ | ⟨rfl,rfl⟩ | ⟨rfl,rfl⟩ | ⟨rfl,rfl⟩ | ⟨rfl,rfl⟩
  ·exact key y hy z hz q
  ·exact vci (key z hz y hy q)
  ·exact k12
  ·exact vci k12
  ·exact k13
  ·exact vci k13
  ·exact k23
  ·exact vci k23
theorem vbop {n:Nat} {le:Nat→Nat→Bool} (h:LatP n le):(sub n 5 le n5 5 []=none∧bst1 (penF n le) (penG n le) n n=[])∨∃ T,sub n 5 le n5 5 []=some T∧cs T=bst1 (penF n le) (penG n le) n n:=by
 have hb:=vjn (n:=n) (f:=penF n le) (g:=penG n le) (fun _ _ _=>rfl) n
 have hQ:∀ l,(∃ x y z,x<n∧y<n∧z<n∧penG n le x y z=true∧l=penF n le x y z)→l.length=5:=fun l ⟨x,y,z,_,_,_,_,e⟩=>by rw[e];rfl
 rcases vajw (n:=n) (m:=5) (lp:=le) (lq:=n5) 5 [] with⟨e,he⟩ | ⟨T,e,he,hm⟩
 ·refine .inl ⟨e,vij hQ hb (.inl ⟨rfl,fun l hl => ?_⟩)⟩
  obtain⟨x,y,z,hx,hy,hz,hg,rfl⟩:=hl
  have:cs [mt n le x z,x,y,z,mt n (du le) x z]=penF n le x y z:=rfl
  exact he _ ((vaux h).2 ⟨x,y,z,hx,hy,hz,hg,this⟩)
 ·refine .inr ⟨T,e,vij hQ (.inr ⟨(vaux h).1 he,fun l hl => ?_⟩) hb⟩
  obtain⟨x,y,z,hx,hy,hz,hg,rfl⟩:=hl
  have:cs [mt n le x z,x,y,z,mt n (du le) x z]=penF n le x y z:=rfl
  rw[← this]
  exact hm _ ((vaux h).2 ⟨x,y,z,hx,hy,hz,hg,this⟩)
theorem vboy {n:Nat} {le:Nat→Nat→Bool} (h:LatP n le):(sub n 5 le m3 5 []=none∧bst1 (diaF n le) (diaG n le) n n=[])∨∃ T,sub n 5 le m3 5 []=some T∧cs T=bst1 (diaF n le) (diaG n le) n n:=by
 have hb:=vjn (n:=n) (f:=diaF n le) (g:=diaG n le) (fun _ _ _=>rfl) n
 have hQ:∀ l,(∃ x y z,x<n∧y<n∧z<n∧diaG n le x y z=true∧l=diaF n le x y z)→l.length=5:=fun l ⟨x,y,z,_,_,_,_,e⟩=>by rw[e];rfl
 rcases vajw (n:=n) (m:=5) (lp:=le) (lq:=m3) 5 [] with⟨e,he⟩ | ⟨T,e,he,hm⟩
 ·refine .inl ⟨e,vij hQ hb (.inl ⟨rfl,fun l hl => ?_⟩)⟩
  obtain⟨x,y,z,hx,hy,hz,hg,rfl⟩:=hl
  have:cs [mt n le x z,x,y,z,mt n (du le) x z]=diaF n le x y z:=rfl
  exact he _ ((vavf h).2 ⟨x,y,z,hx,hy,hz,hg,this⟩)
 ·refine .inr ⟨T,e,vij hQ (.inr ⟨(vavf h).1 he,fun l hl => ?_⟩) hb⟩
  obtain⟨x,y,z,hx,hy,hz,hg,rfl⟩:=hl
  have:cs [mt n le x z,x,y,z,mt n (du le) x z]=diaF n le x y z:=rfl
  rw[← this]
  exact hm _ ((vavf h).2 ⟨x,y,z,hx,hy,hz,hg,this⟩)
theorem pen_some {n:Nat} {le:Nat→Nat→Bool}:(0<(bst1 (penF n le) (penG n le) n n).length)↔PenEx n le:=by
 have hb:=vjn (n:=n) (f:=penF n le) (g:=penG n le) (fun _ _ _=>rfl) n
 rcases hb with⟨e,he⟩ | ⟨⟨x,y,z,hx,hy,hz,hg,e⟩,_⟩
 ·rw[e]
  refine⟨fun q=>by simp at q,fun⟨a,b,c,ha,hb,hc,h1,h2⟩=>absurd ⟨a,b,c,ha,hb,hc,tv_t ⟨h1,h2⟩,rfl⟩ (he (penF n le a b c))⟩
 ·refine⟨fun _ => ?_,fun _=>by rw[e];simp⟩
  unfold penG at hg
  exact⟨x,y,z,hx,hy,hz,tv_iff.1 hg⟩
theorem dia_some {n:Nat} {le:Nat→Nat→Bool}:(0<(bst1 (diaF n le) (diaG n le) n n).length)↔DiaEx n le:=by
 have hb:=vjn (n:=n) (f:=diaF n le) (g:=diaG n le) (fun _ _ _=>rfl) n
 rcases hb with⟨e,he⟩ | ⟨⟨x,y,z,hx,hy,hz,hg,e⟩,_⟩
 ·rw[e]
  refine⟨fun q=>by simp at q,fun⟨a,b,c,ha,hb,hc,h1,h2⟩=>absurd ⟨a,b,c,ha,hb,hc,tv_t ⟨h1,h2⟩,rfl⟩ (he (diaF n le a b c))⟩
 ·refine⟨fun _ => ?_,fun _=>by rw[e];simp⟩
  unfold diaG at hg
  exact⟨x,y,z,hx,hy,hz,tv_iff.1 hg⟩
theorem vbqn:V66 big (5:Int) [((0:Int),(1:Int),()),(1,2,()),(2,4,()),(0,3,()),(3,4,())]=some ((pos 5 n5,true,()),()):=by kernel_rfl
theorem vbqc:V66 big (5:Int) [((0:Int),(1:Int),()),(0,2,()),(0,3,()),(1,4,()),(2,4,()),(3,4,())]=some ((pos 5 m3,true,()),()):=by kernel_rfl
def tlF (n x:Nat) (P:Nat→Bool):List Nat:=((List.range (n - x - 1)).map fun i=>x+1+i).filter P
theorem vbhb {n x:Nat} {P:Nat→Bool} (hx:x<n):fl n P=fl x P++((if P x=true then [x] else [])++tlF n x P):=by
 obtain⟨m,rfl⟩:∃ m,n=x+(m+1):=⟨n - x - 1,by omega⟩
 unfold fl tlF
 rw[List.range_add,List.filter_append,List.range_succ_eq_map,List.map_cons,List.filter_cons,Nat.add_zero,show x+(m+1) - x - 1=m by omega,List.map_map]
 have e:((fun i=>x+i) ∘ Nat.succ)=fun i=>x+1+i:=funext fun i=>by show x+(i+1)=_;omega
 rw[e]
 cases P x <;> rfl
theorem vbja {n x y:Nat} {P:Nat→Bool} (hy:y∈tlF n x P):x<y:=by
 unfold tlF at hy
 obtain⟨i,_,rfl⟩:=List.mem_map.1 (List.mem_filter.1 hy).1
 omega
theorem vbfo {n x:Nat} {P Q:Nat→Bool} (h:∀ y,x<y→P y=Q y):tlF n x P=tlF n x Q:=by
 unfold tlF
 refine List.filter_congr fun y hy => ?_
 obtain⟨i,_,rfl⟩:=List.mem_map.1 hy
 exact h _ (by omega)
theorem vbud {n x:Nat} {P:Nat→Bool} (hn:n≤1000) (hx:x<n):V10 big (cs (fl n P)) (x:Int)=some (cs (fl n fun y=>P y || y == x),()):=by
 have hl:=vbk n P
 have hk:=vbhb (P:=P) hx
 have hkl:(fl n P).length=(fl x P).length+((if P x=true then [x] else [])++tlF n x P).length:=by rw[hk,List.length_append]
 have e1:fl x (fun y=>P y || y == x)=fl x P:=vatz fun y hy=>by
  rw[show (y == x)=false from by simp;omega,Bool.or_false]
 have e2:tlF n x (fun y=>P y || y == x)=tlF n x P:=vbfo fun y hy=>by
  rw[show (y == x)=false from by simp;omega,Bool.or_false]
 have hr:fl n (fun y=>P y || y == x)=fl x P++([x]++tlF n x P):=by
  rw[vbhb hx,e1,e2,show (P x || x == x)=true by simp,if_pos rfl]
 have lowlt:∀ i (h:i<(fl n P).length),i<(fl x P).length→(fl n P)[i]<x:=fun i h hi=>by
  have:(fl n P)[i]=(fl x P)[i]:=by
   simp only[hk]
   exact List.getElem_append_left hi
  rw[this]
  exact (fl_mem.1 (List.getElem_mem hi)).1
 have at0:vca (cs (fl n P)) (x:Int) (((fl x P).length:Nat):Int)=some (cs (fl n fun y=>P y || y == x),()):=by
  unfold vca
  have t1:(cs (fl n P)).take (fl x P).length=cs (fl x P):=by
   rw[hk,vcl]
   rw[List.take_append_of_le_length (by rw[cs_len];exact Nat.le_refl _),List.take_of_length_le (by rw[cs_len];exact Nat.le_refl _)]
  have t2:(cs (fl n P)).drop (fl x P).length=cs ((if P x=true then [x] else [])++tlF n x P):=by
   rw[hk,vcl]
   rw[List.drop_append_of_le_length (by rw[cs_len];exact Nat.le_refl _),List.drop_of_length_le (by rw[cs_len];exact Nat.le_refl _),List.nil_append]
  have s1:slI (cs (fl n P)) 0 ((fl x P).length:Int)=some (cs (fl x P)):=by rw[vyl _ _ (by rw[cs_len];omega),t1]
  have s2:slI (cs (fl n P)) ((fl x P).length:Int) ((cs (fl n P)).length:Int)=some (cs ((if P x=true then [x] else [])++tlF n x P)):=by
   rw[vazm _ _ _ (by rw[cs_len];omega) (Nat.le_refl _),t2,List.take_of_length_le]
   rw[cs_len,cs_len];omega
  cases hp:P x with
  | true =>
   have hlt:(fl x P).length<(fl n P).length:=by rw[hkl,hp];simp
   have hat:(fl n P)[(fl x P).length]=x:=by
    simp only[hk]
    rw[List.getElem_append_right (Nat.le_refl _)]
    simp[hp]
   rw[cdt (by rw[cs_len];omega),vbh hlt,Option.bind_some,hat,cdt rfl,hr,hk,hp,if_pos rfl]
  | false =>
   rw[hp,if_neg (by simp),List.nil_append] at s2 hkl hk
   have fin:((appI [] (cs (fl x P))).bind fun xq4=>(appI xq4 [(x:Int)]).bind fun xq5=>(slI (cs (fl n P)) ((fl x P).length:Int) ((cs (fl n P)).length:Int)).bind fun xq6=>(appI xq5 xq6).bind fun xq7=>some (xq7,()))=some (cs (fl n fun y=>P y || y == x),()):=by
    rw[vao (by rw[cs_len,List.length_nil];omega),Option.bind_some,List.nil_append,app1 (by rw[cs_len];omega),Option.bind_some,s2,Option.bind_some,vao (by rw[List.length_append,cs_len,cs_len];simp;omega),Option.bind_some,hr,vcl,vcl,List.append_assoc]
    rfl
   by_cases hlt:(fl x P).length<(fl n P).length
   ·have hat:x<(fl n P)[(fl x P).length]:=by
     have:(fl n P)[(fl x P).length]∈tlF n x P:=by
      simp only[hk]
      rw[List.getElem_append_right (Nat.le_refl _)]
      exact List.getElem_mem _
     exact vbja this
    rw[cdt (by rw[cs_len];omega),vbh hlt,Option.bind_some,cdf (by omega),s1,Option.bind_some]
    exact fin
   ·rw[cdf (by rw[cs_len];omega),s1,Option.bind_some]
    exact fin
 unfold V10 vapl
 refine vbry (fl n P).length (fun i=>i≤(fl x P).length) (by omega) (fun rc i hi hI hr2 => ?_) (fun rc hI => ?_) 0 (by omega) (Nat.zero_le _)
 ·have hI:i≤(fl x P).length:=hI
  unfold vcq
  rw[cs_len,cdt (by omega),vbh hi,Option.bind_some]
  by_cases c:i<(fl x P).length
  ·have:=lowlt i hi c
   rw[cdt (by omega),wr1 (by omega)]
   exact hr2 (by omega)
  ·have hie:i=(fl x P).length:=by omega
   have:¬ (fl n P)[i]<x:=by
    intro q
    have hm:(fl n P)[i]∈fl x P++((if P x=true then [x] else [])++tlF n x P):=by rw[← hk];exact List.getElem_mem hi
    subst hie
    have:(fl n P)[(fl x P).length]∈(if P x=true then [x] else [])++tlF n x P:=by
     simp only[hk]
     rw[List.getElem_append_right (Nat.le_refl _)]
     exact List.getElem_mem _
    rcases List.mem_append.1 this with r | r
    ·split at r
     ·simp at r;omega
     ·cases r
    ·have:=vbja r;omega
   rw[cdf (by omega),hie]
   exact at0
 ·have hI:(fl n P).length≤(fl x P).length:=hI
  unfold vcq
  rw[cs_len,cdf (by omega),show (fl n P).length=(fl x P).length by omega]
  exact at0
def SetL (n:Nat) (l:List Int):Prop:=∃ P,l=cs (fl n P)
theorem SetL.len {n:Nat} {l:List Int} (h:SetL n l):l.length≤n:=by obtain⟨P,rfl⟩:=h;rw[cs_len];exact vbk n P
theorem vajr {n x:Nat} {l:List Int} (h:SetL n l) (hn:n≤1000) (hx:x<n):∃ l',V10 big l (x:Int)=some (l',())∧SetL n l':=by
 obtain⟨P,rfl⟩:=h
 exact⟨_,vbud hn hx,_,rfl⟩
theorem vbec {n:Nat} {le:Nat→Nat→Bool} (h:LatP n le) {S:List Nat} (hS:∀ s∈S,s<n) (hl:S.length≤1000):∃ l,V74 big (pos n le) (cs S)=some (l,())∧SetL n l:=by
 have h10:=h.le10
 unfold V74 vbaj
 refine vbtw (Q:=fun r=>∃ l,r=some (l,())∧SetL n l) S.length (fun i o=>SetL n o) (by omega) (fun rc i o hi hI hr => ?_) (fun rc o hI => ?_) 0 (by omega) _ ⟨fun _=>false,by unfold fl;rw[List.filter_eq_nil_iff.2 (by simp)];rfl⟩
 ·obtain⟨l',e,h'⟩:=vajr hI (by omega) (hS _ (List.getElem_mem hi))
  unfold vog
  rw[cs_len,cdt (by omega),vbh hi,Option.bind_some,e,Option.bind_some,wr1 (by omega)]
  exact hr _ h'
 ·unfold vog vnk
  rw[cs_len,cdf (by omega),vmd (by omega),Option.bind_some]
  refine vbsh (Q:=fun r=>∃ l,r=some (l,())∧SetL n l) n (fun i o=>SetL n o) (by omega) (fun rc i o hi hI hr => ?_) (fun rc o hI => ?_) 0 (by omega) _ hI
  ·obtain⟨P,rfl⟩:=hI
   have hfl:=vbk n P
   unfold vnp
   rw[vah,cdt (by omega),vasz _ (by rw[cs_len];omega),Option.bind_some]
   refine vbrk (Q:=fun r=>∃ l,r=some (l,())∧SetL n l) (fl n P).length (fun i o=>SetL n o) (by omega) (fun rc2 j o hj hI2 hr2 => ?_) (fun rc2 o hI2 => ?_) 0 (by omega) _ ⟨P,rfl⟩
   ·unfold vit
    rw[cs_len,cdt (by omega)]
    have hjn:=(fl_mem.1 (List.getElem_mem hj)).1
    refine vboo (Q:=fun r=>∃ l,r=some (l,())∧SetL n l) j (fun i o=>SetL n o) (by omega) (fun rc3 k o hk hI3 hr3 => ?_) (fun rc3 o hI3 => ?_) 0 (by omega) _ hI2
    ·have hkl:k<(fl n P).length:=by omega
     have hkn:=(fl_mem.1 (List.getElem_mem hkl)).1
     have hS2:∀ s∈[(fl n P)[j],(fl n P)[k]],s<n:=by
      intro s hs
      simp only[List.mem_cons,List.not_mem_nil,or_false] at hs
      rcases hs with rfl | rfl
      ·exact hjn
      ·exact hkn
     have b1:=specBoundL h hS2 (by simp)
     have b2:=specBoundL h.du hS2 (by simp)
     obtain⟨l1,e1,g1⟩:=vajr hI3 (show n≤1000 by omega) (h.gbs hS2).lt
     obtain⟨l2,e2,g2⟩:=vajr g1 (show n≤1000 by omega) (h.du.gbs hS2).lt
     simp only[cs_cons,cs_nil] at b1 b2
     unfold vix
     rw[cdt (by omega)]
     simp only[vbh hj,vbh hkl,Int.toNat_natCast,vauu hj,vauu hkl,Option.bind_some,b1,b2,e1,e2,wr1 (show k≤4611686018427387904 by omega)]
     exact hr3 _ g2
    ·unfold vix viy
     rw[cdf (by omega),wr1 (by omega)]
     exact hr2 _ hI3
   ·unfold vit vde
    rw[cs_len,cdf (by omega),wr1 (by omega)]
    exact hr _ hI2
  ·unfold vnp vgv
   rw[vah,cdf (by omega)]
   exact⟨o,rfl,hI⟩
theorem vaut {code:List Int} (hc:Codes code):∃ p q,V75 big code=some ((p,q,()),())∧DrP 12 p∧DrP 12 q:=by
 obtain⟨p,c1,e1,hp,hc1⟩:=vauh hc
 have hpl:=hp.1
 obtain⟨v,c2,e2,hv0,hv1,hc2⟩:=vaq (k:=9500) (hc1.mono (by omega)) 4
 have mono9:∀ {q:PT},DrP 9 q→DrP 12 q:=fun h=>⟨by have:=h.1;omega,fun r hr=>by have:=h.2 r hr;omega⟩
 unfold V75 vbdl
 rw[e1,Option.bind_some]
 dsimp only
 rw[e2,Option.bind_some]
 dsimp only
 have other:∀ {c:Cu},COk 9400 c→∃ p' q,((V19 big c).bind fun rq11=>some ((p,rq11.1,()),(())))=some ((p',q,()),())∧DrP 12 p'∧DrP 12 q:=fun hc=>by
  obtain⟨q,c',e,hq,_⟩:=vxr (k:=9000) (hc.mono (by omega))
  rw[e]
  exact⟨_,_,rfl,hp,hq⟩
 by_cases h0:v=0
 ·obtain⟨q,_,e,hq,_⟩:=vuc (k:=4) (by omega) (by omega)
  rw[cdt h0,e]
  exact⟨_,_,rfl,hp,mono9 hq⟩
 ·rw[cdf h0]
  by_cases h1:v=1
  ·obtain⟨q,_,e,hq,_⟩:=vuc (k:=5) (by omega) (by omega)
   rw[cdt h1,e]
   exact⟨_,_,rfl,hp,mono9 hq⟩
  ·rw[cdf h1]
   by_cases h2:v=2
   ·rw[cdt h2]
    rcases vcf hp.rows12 with⟨n,le,e,h,g1,_⟩ | ⟨g1,_⟩
    ·subst e
     have h10:=h.le10
     have hn0:=h.lat.ne
     rw[g1,Option.bind_some]
     dsimp only
     rw[cond_true,vah]
     obtain⟨a,c3,e3,a0,a1,hc3⟩:=vaq (k:=9490) (hc2.mono (by omega)) (n:Int)
     obtain⟨b,c4,e4,b0,b1,hc4⟩:=vaq (k:=9480) (hc3.mono (by omega)) (n:Int)
     obtain⟨d,c5,e5,d0,d1,hc5⟩:=vaq (k:=9470) (hc4.mono (by omega)) (n:Int)
     have a1:=a1 (by omega)
     have b1:=b1 (by omega)
     have d1:=d1 (by omega)
     obtain⟨a,rfl⟩:=Int.eq_ofNat_of_zero_le a0
     obtain⟨b,rfl⟩:=Int.eq_ofNat_of_zero_le b0
     obtain⟨d,rfl⟩:=Int.eq_ofNat_of_zero_le d0
     rw[e3,Option.bind_some]
     dsimp only
     rw[e4,Option.bind_some]
     dsimp only
     rw[e5,Option.bind_some]
     dsimp only
     have hS:∀ s∈[a,b,d],s<n:=by
      intro s hs
      simp only[List.mem_cons,List.not_mem_nil,or_false] at hs
      omega
     obtain⟨l,e6,hl⟩:=vbec h hS (by simp)
     simp only[cs_cons,cs_nil] at e6
     rw[e6,Option.bind_some]
     dsimp only
     by_cases hpos:(0:Int)<l.length
     ·rw[cdt hpos]
      obtain⟨P,rfl⟩:=hl
      have hfl:=vbk n P
      rw[cs_len] at hpos
      refine vbrm (Q:=fun r=>∃ p' q,r=some ((p',q,()),())∧DrP 12 p'∧DrP 12 q) (fl n P).length (fun i q=>q.1.length=i∧∀ r∈q.1,r.length≤12) (by omega) (fun rc i q hi hI hr => ?_) (fun rc q hI => ?_) 0 (by omega) _ ⟨rfl,by simp⟩
      ·obtain⟨i1,i2⟩:=hI
       unfold vjg
       rw[cs_len,cdt (by omega)]
       have hin:=(fl_mem.1 (List.getElem_mem hi)).1
       refine vbnp (Q:=fun r=>∃ p' q,r=some ((p',q,()),())∧DrP 12 p'∧DrP 12 q) (fl n P).length (fun k b=>b.length≤k) (by omega) (fun rc2 k b hk hI2 hr2 => ?_) (fun rc2 b hI2 => ?_) 0 (by omega) _ (by simp)
       ·have hI2:b.length≤k:=hI2
        have hkn:=(fl_mem.1 (List.getElem_mem hk)).1
        unfold vjb
        rw[cs_len,cdt (by omega),vbh hk,Option.bind_some,vbh hi,Option.bind_some,vdy (by omega) hkn hin,Option.bind_some,wr1 (by omega)]
        cases le (fl n P)[k] (fl n P)[i] with
        | true =>
         dsimp only
         rw[cond_true,app1 (by omega),Option.bind_some]
         exact hr2 _ (by rw[List.length_append];simp;omega)
        | false=>exact hr2 _ (by omega)
       ·have hI2:b.length≤(fl n P).length:=hI2
        unfold vjb vje
        rw[cs_len,cdf (by omega),app1 (by omega),Option.bind_some,wr1 (by omega)]
        refine hr _ ⟨by rw[List.length_append,i1];rfl,fun r hr3 => ?_⟩
        rcases List.mem_append.1 hr3 with w | w
        ·exact i2 r w
        ·rw[List.mem_singleton] at w;subst w;omega
      ·obtain⟨i1,i2⟩:=hI
       unfold vjg vdj
       rw[cs_len,cdf (by omega)]
       exact⟨_,_,rfl,hp,by omega,i2⟩
     ·rw[cdf hpos]
      exact other (hc5.mono (by omega))
    ·rw[g1,Option.bind_some]
     dsimp only
     rw[cond_false]
     exact other (hc2.mono (by omega))
   ·rw[cdf h2]
    exact other (hc2.mono (by omega))
theorem vxj {n m:Nat} {lp lq:Nat→Nat→Bool} (h:LatP n lp) (h':LatP m lq):V72 (pos n lp) (pos m lq)=some (sOut (sub n m lp lq m []),()):=by
 have hb:=vac
 have h10:=h'.le10
 obtain⟨_,f2⟩:=vaja h h' m [] (by simp) (by simp) big (by omega)
 rw[cs_nil] at f2
 unfold V72 vbau V67 vbbm
 rw[vat h,Option.bind_some]
 simp only[Bool.not_true,cond_false]
 rw[vat h',Option.bind_some]
 simp only[Bool.not_true,cond_false,cond_true,Option.bind_some]
 rw[f2,Option.bind_some]
 cases sub n m lp lq m [] <;> rfl
theorem vaap {n:Nat} {le:Nat→Nat→Bool} (h:LatP n le) (h1:V45 big (pos n le)=some (true,())):V55 big (pos n le)=some ((bst1 (diaF n le) (diaG n le) n n,decide (0<((bst1 (diaF n le) (diaG n le) n n).length:Int)),()),())∧V54 (pos n le)=some ((bst1 (diaF n le) (diaG n le) n n,decide (0<((bst1 (diaF n le) (diaG n le) n n).length:Int)),()),()):=by
 unfold V55 vapj V54 vaor V53 vahf
 have h10:=h.le10
 have h05:=voh (f:=diaF n le) (g:=diaG n le) (n:=n) (fun _ _ _=>rfl)
 rw[h1,vat h]
 refine⟨?_, ?_⟩
 ·simp only[Option.bind_some,Bool.not_true,cond_false,vah]
  refine vbdt n (fun i b=>b=bst1 (diaF n le) (diaG n le) n i) (by omega) ?_ ?_ 0 (by omega) _ rfl
  ·intro rc i b hi hv ih
   have hb:=h05 i
   rw[← hv] at hb
   unfold vht
   rw[cdt (by omega)]
   refine vbgy n (fun j c=>c=bst2 (diaF n le i) (diaG n le i) n b j) (by omega) ?_ ?_ 0 (by omega) _ rfl
   ·intro rc2 j c hj hc ih2
    have hb2:=vcd (f:=diaF n le i) (g:=diaG n le i) (n:=n) (fun _ _=>rfl) hb j
    rw[← hc] at hb2
    unfold vfs
    rw[cdt (by omega)]
    refine vazl n (fun k d=>d=bst3 (diaF n le i j) (diaG n le i j) c k) (by omega) ?_ ?_ 0 (by omega) _ rfl
    ·intro rc3 k d hk hd ih3
     have hb3:=vce (f:=diaF n le i j) (g:=diaG n le i j) (fun _=>rfl) hb2 k
     rw[← hd] at hb3
     rw[vara h hi hj hk hb3]
     exact ih3 _ (by rw[hd];rfl)
    ·intro rc3 d hd
     unfold vdm
     rw[cdf (by omega),vfd,wr1 (by omega)]
     exact ih2 _ (by rw[hd,hc];rfl)
   ·intro rc2 c hc
    unfold vfs
    rw[cdf (by omega),veb,wr1 (by omega)]
    exact ih _ (by rw[hc,hv];rfl)
  ·intro rc b hv
   unfold vht
   rw[cdf (by omega),vdu,hv]
 ·simp only[Option.bind_some,Bool.not_true,cond_false,lat1,mkR_len]
  suffices hh:vug big () (some (lat n le)) [] (n:Int) 0=some ((bst1 (diaF n le) (diaG n le) n n,decide (0<((bst1 (diaF n le) (diaG n le) n n).length:Int)),()),()) by
   rw[hh,Option.bind_some]
  refine vbft n (fun i b=>b=bst1 (diaF n le) (diaG n le) n i) (by omega) ?_ ?_ 0 (by omega) _ rfl
  ·intro rc i b hi hv ih
   have hb:=h05 i
   rw[← hv] at hb
   unfold vib
   simp only[cdt (show (i:Int)<(n:Int) by omega),Option.bind_some,lat1,mkR_len]
   refine vbjk n (fun j c=>c=bst2 (diaF n le i) (diaG n le i) n b j) (by omega) ?_ ?_ 0 (by omega) _ rfl
   ·intro rc2 j c hj hc ih2
    have hb2:=vcd (f:=diaF n le i) (g:=diaG n le i) (n:=n) (fun _ _=>rfl) hb j
    rw[← hc] at hb2
    unfold vgp
    simp only[cdt (show (j:Int)<(n:Int) by omega),Option.bind_some,lat1,mkR_len]
    refine vaye n (fun k d=>d=bst3 (diaF n le i j) (diaG n le i j) c k) (by omega) ?_ ?_ 0 (by omega) _ rfl
    ·intro rc3 k d hk hd ih3
     have hb3:=vce (f:=diaF n le i j) (g:=diaG n le i j) (fun _=>rfl) hb2 k
     rw[← hd] at hb3
     rw[varq h hi hj hk hb3]
     exact ih3 _ (by rw[hd];rfl)
    ·intro rc3 d hd
     unfold vcy
     rw[cdf (by omega),vff,wr1 (by omega)]
     exact ih2 _ (by rw[hd,hc];rfl)
   ·intro rc2 c hc
    unfold vgp
    rw[cdf (by omega),vds,wr1 (by omega)]
    exact ih _ (by rw[hc,hv];rfl)
  ·intro rc b hv
   unfold vib
   rw[cdf (by omega),vea,hv]
theorem vyi {n:Nat} {le:Nat→Nat→Bool} (h:LatP n le) (h1:V45 big (pos n le)=some (true,())):V50 big (pos n le)=some ((bst1 (penF n le) (penG n le) n n,decide (0<((bst1 (penF n le) (penG n le) n n).length:Int)),()),())∧V39 (pos n le)=some ((bst1 (penF n le) (penG n le) n n,decide (0<((bst1 (penF n le) (penG n le) n n).length:Int)),()),()):=by
 unfold V50 vapa V39 vaox V38 vadx
 have h10:=h.le10
 have h05:=voh (f:=penF n le) (g:=penG n le) (n:=n) (fun _ _ _=>rfl)
 rw[h1,vat h]
 refine⟨?_, ?_⟩
 ·simp only[Option.bind_some,Bool.not_true,cond_false,vah]
  refine vbgp n (fun i b=>b=bst1 (penF n le) (penG n le) n i) (by omega) ?_ ?_ 0 (by omega) _ rfl
  ·intro rc i b hi hv ih
   have hb:=h05 i
   rw[← hv] at hb
   unfold vhz
   rw[cdt (by omega)]
   refine vbhk n (fun j c=>c=bst2 (penF n le i) (penG n le i) n b j) (by omega) ?_ ?_ 0 (by omega) _ rfl
   ·intro rc2 j c hj hc ih2
    have hb2:=vcd (f:=penF n le i) (g:=penG n le i) (n:=n) (fun _ _=>rfl) hb j
    rw[← hc] at hb2
    unfold vgq
    rw[cdt (by omega)]
    refine vaxl n (fun k d=>d=bst3 (penF n le i j) (penG n le i j) c k) (by omega) ?_ ?_ 0 (by omega) _ rfl
    ·intro rc3 k d hk hd ih3
     have hb3:=vce (f:=penF n le i j) (g:=penG n le i j) (fun _=>rfl) hb2 k
     rw[← hd] at hb3
     rw[vasd h hi hj hk hb3]
     exact ih3 _ (by rw[hd];rfl)
    ·intro rc3 d hd
     unfold vdi
     rw[cdf (by omega),vfh,wr1 (by omega)]
     exact ih2 _ (by rw[hd,hc];rfl)
   ·intro rc2 c hc
    unfold vgq
    rw[cdf (by omega),vdx,wr1 (by omega)]
    exact ih _ (by rw[hc,hv];rfl)
  ·intro rc b hv
   unfold vhz
   rw[cdf (by omega),ved,hv]
 ·simp only[Option.bind_some,Bool.not_true,cond_false,lat1,mkR_len]
  suffices hh:vsz big () (some (lat n le)) [] (n:Int) 0=some ((bst1 (penF n le) (penG n le) n n,decide (0<((bst1 (penF n le) (penG n le) n n).length:Int)),()),()) by
   rw[hh,Option.bind_some]
  refine vbei n (fun i b=>b=bst1 (penF n le) (penG n le) n i) (by omega) ?_ ?_ 0 (by omega) _ rfl
  ·intro rc i b hi hv ih
   have hb:=h05 i
   rw[← hv] at hb
   unfold vgl
   simp only[cdt (show (i:Int)<(n:Int) by omega),Option.bind_some,lat1,mkR_len]
   refine vbik n (fun j c=>c=bst2 (penF n le i) (penG n le i) n b j) (by omega) ?_ ?_ 0 (by omega) _ rfl
   ·intro rc2 j c hj hc ih2
    have hb2:=vcd (f:=penF n le i) (g:=penG n le i) (n:=n) (fun _ _=>rfl) hb j
    rw[← hc] at hb2
    unfold vgi
    simp only[cdt (show (j:Int)<(n:Int) by omega),Option.bind_some,lat1,mkR_len]
    refine vazc n (fun k d=>d=bst3 (penF n le i j) (penG n le i j) c k) (by omega) ?_ ?_ 0 (by omega) _ rfl
    ·intro rc3 k d hk hd ih3
     have hb3:=vce (f:=penF n le i j) (g:=penG n le i j) (fun _=>rfl) hb2 k
     rw[← hd] at hb3
     rw[vavj h hi hj hk hb3]
     exact ih3 _ (by rw[hd];rfl)
    ·intro rc3 d hd
     unfold vdk
     rw[cdf (by omega),ven,wr1 (by omega)]
     exact ih2 _ (by rw[hd,hc];rfl)
   ·intro rc2 c hc
    unfold vgi
    rw[cdf (by omega),vdr,wr1 (by omega)]
    exact ih _ (by rw[hc,hv];rfl)
  ·intro rc b hv
   unfold vgl
   rw[cdf (by omega),vec,hv]
theorem vbjl {n:Nat} {le:Nat→Nat→Bool} (h:LatP n le):V61 (pos n le)=some ((tv (Dis n le),true,()),()):=by
 obtain⟨U,e,hU⟩:=vbge h
 unfold V61 vbam
 rw[vat h,Option.bind_some]
 dsimp only
 rw[cond_true,e,Option.bind_some]
 dsimp only
 rw[hU]
theorem vaoj {code:List Int} (hc:Codes code):∃ p,V21 code=some (p,())∧DrP 12 p:=by
 obtain⟨p,c,e,hp,_⟩:=vauh hc
 unfold V21 vbml V20 vbmk
 rw[e]
 exact⟨p,rfl,hp⟩
theorem vbhu {code:List Int} (hc:Codes code):∃ q r v,V75 big code=some ((q,r,()),())∧V72 q r=some (v,())∧V79 q r=some (v,())∧V51 big v.1 v.1=some (true,()):=by
 obtain⟨q,r,e,hq,hr⟩:=vaut hc
 obtain⟨v,s1,i1,hv⟩:=vbbf q r hq.rows12 hr.rows12
 exact⟨q,r,v,e,i1,s1,vin _ (by omega)⟩
theorem vbhy {n:Nat} {le:Nat→Nat→Bool} (h:LatP n le) (hp:PenEx n le):V72 (pos n le) (pos 5 n5)=some ((bst1 (penF n le) (penG n le) n n,true,()),()):=by
 rw[vxj h vbfm]
 rcases vbop h with⟨_,e⟩ | ⟨T,e1,e2⟩
 ·have:=pen_some.2 hp
  rw[e] at this
  simp at this
 ·rw[e1,← e2];rfl
theorem vbfz {n:Nat} {le:Nat→Nat→Bool} (h:LatP n le) (hp:DiaEx n le):V72 (pos n le) (pos 5 m3)=some ((bst1 (diaF n le) (diaG n le) n n,true,()),()):=by
 rw[vxj h vbiz]
 rcases vboy h with⟨_,e⟩ | ⟨T,e1,e2⟩
 ·have:=dia_some.2 hp
  rw[e] at this
  simp at this
 ·rw[e1,← e2];rfl
theorem vawf {n:Nat} {le:Nat→Nat→Bool} {U:Option (List Int)} (h:BentR n le U):(bentOut U).1.length≤3:=by
 rcases h with⟨rfl,_⟩ | ⟨x,y,z,rfl,_⟩ <;> simp[bentOut]
theorem vbaq (U:Option (List Int)):(bentOut U).2.1 = !U.isNone:=by cases U <;> rfl
theorem vblq {p:PT} {l:Option (List (List Bool)×List (List Int)×List (List Int)×Unit)} (h2:V32 p=some ((l,false,()),())):V61 p=some ((false,false,()),()):=by
 unfold V61 vbam
 rw[h2];rfl
theorem vbkm {p:PT} {l:Option (List (List Bool)×List (List Int)×List (List Int)×Unit)} (h2:V32 p=some ((l,false,()),())):V39 p=some (([],false,()),())∧V54 p=some (([],false,()),()):=by
 unfold V39 vaox V54 vaor V53 vahf V38 vadx
 rw[h2]
 exact⟨rfl,rfl⟩
theorem true_FnPentagons (code:List Int) (hw:Wf (.pair (.sl (.int .u8)) .unit) (code,())):laws_FnPentagons code=some (true,()):=by
 unfold laws_FnPentagons vbmm V0 V0_s
 rw[Option.bind_some]
 dsimp only
 by_cases hl:code.length≤65536
 case neg=>rw[cdt (by omega)]
 have hc:=vblo hw hl
 obtain⟨p,e1,hp⟩:=vaoj hc
 have hx:=hp.rows12
 obtain⟨q,r,v,t1,t2,t3,t4⟩:=vbhu hc
 obtain⟨v5,s1,i1,hv5⟩:=vagp p hx
 obtain⟨v3,s2,i2,hv3⟩:=vajg p hx
 rw[cdf (by omega)]
 have w5:=vin v5.1 (by omega)
 have w3:=vin v3.1 (by omega)
 rcases vcf hx with⟨n,le,e,h,h1,h2⟩ | ⟨h1,l,h2⟩
 ·subst e
  have j1:=(vyi h h1).2
  have j2:=(vaap h h1).2
  obtain⟨m1,m2⟩:=vbgb h h1
  obtain⟨U,hU,b1,b2⟩:=vaof h h1
  have wb:=vin (bentOut U).1 (by have:=vawf hU;omega)
  have hbn:=vabz hU
  have g5:decide (0<((bst1 (penF n le) (penG n le) n n).length:Int))=tv (PenEx n le):=by
   rw[vcv pen_some.symm,vbhg]
   exact decide_eq_decide.2 (by omega)
  have g3:decide (0<((bst1 (diaF n le) (diaG n le) n n).length:Int))=tv (DiaEx n le):=by
   rw[vcv dia_some.symm,vbhg]
   exact decide_eq_decide.2 (by omega)
  rw[g5] at j1
  rw[g3] at j2
  have f5:=vbhy h
  have f3:=vbfz h
  rw[i1] at j1
  rw[i2] at j2
  simp only[Option.some.injEq,Prod.mk.injEq,and_true] at j1 j2
  subst j1
  subst j2
  dsimp only at w5 w3
  have hm:=vcv (vaji h)
  have hd:=vcv (vbpb h)
  rw[hm] at hbn m1 m2
  have hds:=vbjl h
  rw[hd] at hds
  generalize bst1 (penF n le) (penG n le) n n=B5 at *
  generalize bst1 (diaF n le) (diaG n le) n n=B3 at *
  have from5:=vbqn
  have from3:=vbqc
  have bo:=vbaq U
  rw[hbn] at bo
  have tt:tv (¬ PenEx n le∧¬ DiaEx n le)=(!tv (PenEx n le) && !tv (DiaEx n le)):=by
   by_cases c5:PenEx n le
   ·rw[tv_f fun q=>q.1 c5,tv_t c5];rfl
   ·by_cases c3:DiaEx n le
    ·rw[tv_f fun q=>q.2 c3,tv_t c3,Bool.not_true,Bool.and_false]
    ·rw[tv_t ⟨c5,c3⟩,tv_f c5,tv_f c3];rfl
  have tn:tv (¬ PenEx n le) = !tv (PenEx n le):=by
   by_cases c5:PenEx n le
   ·rw[tv_f fun q=>q c5,tv_t c5];rfl
   ·rw[tv_t c5,tv_f c5];rfl
  rw[tt] at hds
  rw[tn] at m1 m2 bo
  have f5:tv (PenEx n le)=true→_:=fun q=>f5 (tv_iff.1 q)
  have f3:tv (DiaEx n le)=true→_:=fun q=>f3 (tv_iff.1 q)
  clear h hm hd tt tn hbn hU g5 g3 h1 h2 hx hp hv3 hv5
  generalize tv (PenEx n le)=P at *
  generalize tv (DiaEx n le)=D at *
  cases P <;> cases D
  ·simp only[e1,i1,i2,s1,s2,m1,m2,b1,b2,bo,hds,t1,t2,t3,t4,w5,w3,wb,Option.bind_some,bne_self_eq_false,cond_false,Bool.not_true,Bool.not_false,Bool.and_self,Bool.and_false,Bool.and_true,beq_self_eq_true,cond_true,show (true == false)=false from rfl]
  ·simp only[e1,i1,i2,s1,s2,m1,m2,b1,b2,bo,hds,t1,t2,t3,t4,w5,w3,wb,from3,f3 rfl,Option.bind_some,bne_self_eq_false,cond_false,Bool.not_true,Bool.not_false,Bool.and_self,Bool.and_false,Bool.and_true,beq_self_eq_true,cond_true,show (true == false)=false from rfl]
  ·simp only[e1,i1,i2,s1,s2,m1,m2,b1,b2,bo,hds,t1,t2,t3,t4,w5,w3,wb,from5,f5 rfl,Option.bind_some,bne_self_eq_false,cond_false,Bool.not_true,Bool.not_false,Bool.and_self,Bool.and_false,Bool.false_and,Bool.and_true,beq_self_eq_true,cond_true,show (false == true)=false from rfl]
  ·simp only[e1,i1,i2,s1,s2,m1,m2,b1,b2,bo,hds,t1,t2,t3,t4,w5,w3,wb,from5,f5 rfl,from3,f3 rfl,Option.bind_some,bne_self_eq_false,cond_false,Bool.not_true,Bool.not_false,Bool.and_self,Bool.and_false,Bool.false_and,Bool.and_true,beq_self_eq_true,cond_true,show (false == true)=false from rfl]
 ·obtain⟨m1,m2⟩:=vblj h1 h2
  obtain⟨b1,b2⟩:=vaqs h1 h2
  obtain⟨f1,f2⟩:=vbkm h2
  have hds:=vblq h2
  rw[i1] at f1
  rw[i2] at f2
  simp only[Option.some.injEq,Prod.mk.injEq,and_true] at f1 f2
  subst f1
  subst f2
  dsimp only at w5 w3
  rw[e1,Option.bind_some]
  dsimp only
  rw[i1,Option.bind_some,s1,Option.bind_some]
  dsimp only
  rw[bne_self_eq_false,cond_false,w5,Option.bind_some]
  dsimp only
  rw[Bool.not_true,cond_false,i2,Option.bind_some,s2,Option.bind_some]
  dsimp only
  rw[bne_self_eq_false,cond_false,w5,Option.bind_some]
  dsimp only
  rw[Bool.not_true,cond_false,m1,Option.bind_some,m2,Option.bind_some]
  dsimp only
  rw[bne_self_eq_false,cond_false,cond_false,hds,Option.bind_some]
  dsimp only
  rw[bne_self_eq_false,cond_false,cond_false,b1,Option.bind_some,b2,Option.bind_some]
  dsimp only
  rw[bne_self_eq_false,cond_false,cond_false,w5,Option.bind_some]
  dsimp only
  rw[Bool.not_true,cond_false,cond_false,cond_false,t1,Option.bind_some]
  dsimp only
  rw[t2,Option.bind_some,t3,Option.bind_some]
  dsimp only
  rw[beq_self_eq_true,cond_true,t4,Option.bind_some,cond_false]
end Go.Proofs.Yteanfidobhpchaa
