import Derived.Test.YtnolmlelfmadkaaGxNav
namespace Go.Gx
open Go
theorem jfg {w:World}{N:Nat→Prop}(t':Ty) (f':Fl) (y:t'.den):∀{p:List Stp}{t:Ty}{f:Fl}{x:t.den}{cs:List Value}{F:List Nat}{l:Option (Nat×Nat)}{t0:Ty}{c0:List Value}{b off:Nat}{n:Node},
  Rep w N t f x cs F→F.Nodup→Seg w l t.cells cs→(∀q,l=some q→q.1 ∉ F)→At w t cs l p t0 c0 (some (b,off))→setD t f x p t' f' y=some n →
  n.1.cells=t.cells∧t'.cells=t0.cells∧(∀o,l=some (b,o)→o≤off∧off+t0.cells≤o+t.cells) ∧
  ∃F1 F0 F2 f0 x0,F=F1++F0++F2∧Rep w N t0 f0 x0 c0 F0∧getD t f x p=some ⟨t0,f0,x0⟩∧(b∈F1++F2∨∃o,l=some (b,o)) ∧
   ∀(w':World) (N':Nat→Prop) (F0':List Nat) (arr arr':Array Value) (e e':TypeId) (seg cs':List Value),w.heap[b]? = some (.cells arr e (0,0))→w'.heap[b]? = some (.cells arr' e' (0,0)) →
    arr'.toList=arr.toList.take off++seg++arr.toList.drop (off+seg.length)→off+seg.length≤arr.toList.length→seg.length=t'.cells→Rep w' N' t' f' y seg F0' →
    (∀c∈F1++F2,c≠b→w'.heap[c]? = w.heap[c]?)→(∀c,N c→N' c∧w'.heap[c]? = w.heap[c]?) →
    (∀q,l=some q→q.1≠b→w'.heap[q.1]? = w.heap[q.1]?)→(l=none→cs'=cs)→Seg w' l t.cells cs'→Rep w' N' n.1 n.2.1 n.2.2 cs' (F1++F0'++F2):=by
 intro p
 induction p with
 | nil =>
  intro t f x cs F l t0 c0 b off n hr hnd hseg hl ha hs
  simp only[At]at ha
  obtain⟨rfl,rfl,rfl⟩:=ha
  simp only[setD,setP]at hs
  split at hs
  ·rename_i hc
   simp only[Option.some.injEq]at hs
   subst hs
   refine⟨hc,hc,fun o ho=>by simp only[Option.some.injEq,Prod.mk.injEq,true_and]at ho;omega,[],F,[],f,x,by simp,hr,by simp only[getD,getP],.inr ⟨off,rfl⟩, ?_⟩
   intro w' N' F0' arr arr' e e' seg cs' h1 h2 h3 h3' h4 h5 h6 h7 h8 h9 h10
   obtain⟨arr2,e2,g1,g2,g3⟩:=h10 _ rfl
   simp only at g1
   rw[h2]at g1
   simp only[Option.some.injEq,Obj.cells.injEq,and_true]at g1
   obtain⟨rfl,rfl⟩:=g1
   have:cs'=seg:=by rw[g2,←hc,←h4];exact jja h3 h3'
   subst this
   simpa using h5
  ·cases hs
 | cons s p ih =>
  intro t f x cs F l t0 c0 b off n hr hnd hseg hl ha hs
  cases t<;>cases s<;>simp only[At]at ha
  ·rename_i te i
   obtain⟨b1,len,cap,arr1,e1,he1,he2,ha⟩:=ha
   cases f with
   | i=>simp[setD,setP]at hs
   | p _ _=>simp[setD,setP]at hs
   | o g =>
    simp only[setD,setP]at hs
    cases hx:(show List te.den from x)[i]? with
    | none=>rw[hx]at hs;cases hs
    | some x0 =>
     rw[hx]at hs
     simp only[Option.bind_some]at hs
     rw[vn]at hs
     cases hm:setD te g x0 p t' f' y with
     | none=>rw[hm]at hs;cases hs
     | some m =>
      rw[hm]at hs
      simp only[Option.bind_some]at hs
      obtain⟨mt,mf,mz⟩:=m
      simp only at hs
      split at hs
      ·rename_i hmt
       subst hmt
       split at hs
       ·rename_i hmf
        subst hmf
        simp only[cast_eq,Option.some.injEq]at hs
        subst hs
        simp only[Rep]at hr
        rcases hr with⟨h0,_⟩|⟨b',cap',arr',e',G,g1,g2,g3,g4,g5,g6,g7⟩
        ·rw[h0]at hx;simp at hx
        ·rw[he1]at g1
         simp only[List.cons.injEq,Value.slice.injEq,Option.some.injEq,Addr.mk.injEq,and_true]at g1
         obtain⟨rfl,rfl,rfl⟩:=g1
         rw[he2]at g2
         simp only[Option.some.injEq,Obj.cells.injEq,and_true]at g2
         obtain⟨rfl,rfl⟩:=g2
         obtain⟨G1,Gx,G2,hG,hb,r0,hre⟩:=g7.focus hx
         subst g6
         subst hG
         have nd:=hnd
         simp only[List.nodup_cons,List.mem_append,List.nodup_append,not_or]at nd
         obtain⟨⟨⟨nb1,nbx⟩,nb2⟩,⟨_,ndx,nd1x⟩,_,nd2⟩:=nd
         obtain⟨c1,c2,c3,H1,H0,H2,f0,x0',hH,rr,hgd,hin,hb'⟩:=ih (l:=some (b1,i*mt.cells)) r0 ndx
          (by intro q hq;simp only[Option.some.injEq]at hq;subst hq;exact⟨arr1,e1,he2,rfl,by simpa using hb⟩)
          (by intro q hq;simp only[Option.some.injEq]at hq;subst hq;exact nbx) ha hm
         have hbF:b=b1∨b∈H1++H2:=by
          rcases hin with h|⟨o,h⟩
          ·exact .inr h
          ·simp only[Option.some.injEq,Prod.mk.injEq]at h;exact .inl h.1.symm
         have hbF':b∈b1::(G1++Gx++G2):=by
          rcases hbF with h|h
          ·simp[h]
          ·rw[hH];simp only[List.mem_cons,List.mem_append]at h ⊢;rcases h with h|h<;>simp[h]
         refine⟨rfl,c2,fun o ho=>absurd hbF' (hl _ ho),b1::(G1++H1),H0,H2++G2,f0,x0',by rw[hH];simp,rr,by simp only[getD,getP,hx,Option.bind_some];exact hgd, ?_, ?_⟩
         ·left
          rcases hbF with h|h
          ·simp[h]
          ·simp only[List.mem_cons,List.mem_append]at h ⊢;rcases h with h|h<;>simp[h]
         intro w' N' F0' arr arr' e e' seg cs' h1 h2 h3 h3' h4 h5 h6 h7 h8 h9 h10
         have hcs:cs'=cs:=by
          cases l with
          | none=>exact h9 rfl
          | some q =>
           have hq:q.1≠b:=fun h=>hl q rfl (h▸hbF')
           obtain⟨a1,t1,u1,u2,_⟩:=h10 q rfl
           obtain⟨a2,t2,v1,v2,_⟩:=hseg q rfl
           rw[h8 q rfl hq,v1]at u1
           simp only[Option.some.injEq,Obj.cells.injEq,and_true]at u1
           rw[u2,v2,u1.1]
         obtain⟨arr1',e1',k1,k2,k3,k4⟩:∃arr1' e1',w'.heap[b1]? = some (.cells arr1' e1' (0,0))∧arr1'.toList.length=arr1.toList.length∧arr1'.toList.take (i*mt.cells)=arr1.toList.take (i*mt.cells) ∧
           arr1'.toList.drop (i*mt.cells+mt.cells)=arr1.toList.drop (i*mt.cells+mt.cells):=by
          by_cases hbb:b=b1
          ·subst hbb
           rw[he2]at h1
           simp only[Option.some.injEq,Obj.cells.injEq,and_true]at h1
           obtain⟨rfl,rfl⟩:=h1
           obtain⟨ra,rb⟩:=c3 _ rfl
           exact⟨arr',e',h2,jfa h3 h3',jei h3 h3' ra,jeh h3 h3' (by rw[h4,c2];exact rb)⟩
          ·exact⟨arr1,e1,(h6 b1 (by simp) (fun h=>hbb h.symm)).trans he2,rfl,rfl,rfl⟩
         have hel:i*mt.cells+mt.cells≤arr1'.toList.length:=by rw[k2];exact hb
         have hrep:=hb' w' N' F0' arr arr' e e' seg ((arr1'.toList.drop (i*mt.cells)).take mt.cells) h1 h2 h3 h3' h4 h5
          (fun c hc=>h6 c (by simp only[List.mem_cons,List.mem_append]at hc ⊢;rcases hc with h|h<;>simp[h])) h7
          (by intro q hq hqb;simp only[Option.some.injEq]at hq;subst hq;exact h6 _ (by simp) hqb)
          (by intro h;cases h)
          (by intro q hq;simp only[Option.some.injEq]at hq;subst hq;exact⟨arr1',e1',k1,rfl,by simpa using hel⟩)
         have hfin:=hre (Rep w' N' mt mf) mz (H1++F0'++H2) ((arr1'.toList.drop (i*mt.cells)).take mt.cells) (by simp only[List.length_take,List.length_drop];omega) hrep
          (fun yy ds G hG hf=>Rep.mono h7 hf fun c hc=>by
           have hcG:=hG c hc
           refine h6 c ?_ ?_
           ·simp only[List.mem_cons,List.mem_append]at hcG ⊢;rcases hcG with h|h<;>simp[h]
           ·rintro rfl
            rcases hbF with h|h
            ·subst h
             simp only[List.mem_append]at hcG
             rcases hcG with h|h
             ·exact nb1 h
             ·exact nb2 h
            ·have hx':c∈Gx:=by rw[hH];simp only[List.mem_append]at h ⊢;rcases h with h|h<;>simp[h]
             simp only[List.mem_append]at hcG
             rcases hcG with h'|h'
             ·exact nd1x c h' c hx' rfl
             ·exact nd2 c (.inr hx') c h' rfl)
         rw[←k3,←k4,seg_eq]at hfin
         simp only[Rep]
         refine .inr ⟨b1,cap,arr1',e1',G1++(H1++F0'++H2)++G2, ?_,k1, ?_, ?_,g5,by simp,hfin⟩
         ·rw[hcs,he1];simp
         ·have:=k2;simp only[Array.length_toList]at this;rw[this];exact g3
         ·simpa using g4
       ·cases hs
      ·cases hs
  ·rename_i te
   obtain⟨b1,arr1,e1,he1,he2,he3,ha⟩:=ha
   cases f with
   | i=>simp[setD,setP]at hs
   | p _ _=>simp[setD,setP]at hs
   | o g =>
    simp only[setD,setP]at hs
    rw[vn]at hs
    cases hm:setD te g x p t' f' y with
    | none=>rw[hm]at hs;cases hs
    | some m =>
     rw[hm]at hs
     simp only[Option.bind_some,Option.some.injEq]at hs
     obtain⟨mt,mf,mz⟩:=m
     simp only at hs
     subst hs
     simp only[Rep]at hr
     obtain⟨b',arr',e',G,g1,g2,g3,g4⟩:=hr
     rw[he1]at g1
     simp only[List.cons.injEq,Value.pointer.injEq,Option.some.injEq,Addr.mk.injEq,and_true]at g1
     subst g1
     rw[he2]at g2
     simp only[Option.some.injEq,Obj.cells.injEq,and_true]at g2
     obtain⟨rfl,rfl⟩:=g2
     subst g3
     have nd:=hnd
     simp only[List.nodup_cons]at nd
     obtain⟨nbx,ndx⟩:=nd
     obtain⟨c1,c2,c3,H1,H0,H2,f0,x0',hH,rr,hgd,hin,hb'⟩:=ih (l:=some (b1,0)) g4 ndx
      (by intro q hq;simp only[Option.some.injEq]at hq;subst hq;exact⟨arr1,e1,he2,by simp only[List.drop_zero];rw[List.take_of_length_le (by simp[he3])],by simp[he3]⟩)
      (by intro q hq;simp only[Option.some.injEq]at hq;subst hq;exact nbx) ha hm
     have hbF:b=b1∨b∈H1++H2:=by
      rcases hin with h|⟨o,h⟩
      ·exact .inr h
      ·simp only[Option.some.injEq,Prod.mk.injEq]at h;exact .inl h.1.symm
     have hbF':b∈b1::G:=by
      rcases hbF with h|h
      ·simp[h]
      ·rw[hH];simp only[List.mem_cons,List.mem_append]at h ⊢;rcases h with h|h<;>simp[h]
     refine⟨rfl,c2,fun o ho=>absurd hbF' (hl _ ho),b1::H1,H0,H2,f0,x0',by rw[hH];simp,rr,hgd, ?_, ?_⟩
     ·left
      rcases hbF with h|h
      ·simp[h]
      ·simp only[List.mem_cons,List.mem_append,List.cons_append]at h ⊢;rcases h with h|h<;>simp[h]
     intro w' N' F0' arr arr' e e' seg cs' h1 h2 h3 h3' h4 h5 h6 h7 h8 h9 h10
     have hcs:cs'=cs:=by
      cases l with
      | none=>exact h9 rfl
      | some q =>
       have hq:q.1≠b:=fun h=>hl q rfl (h▸hbF')
       obtain⟨a1,t1,u1,u2,_⟩:=h10 q rfl
       obtain⟨a2,t2,v1,v2,_⟩:=hseg q rfl
       rw[h8 q rfl hq,v1]at u1
       simp only[Option.some.injEq,Obj.cells.injEq,and_true]at u1
       rw[u2,v2,u1.1]
     obtain⟨arr1',e1',k1,k2⟩:∃arr1' e1',w'.heap[b1]? = some (.cells arr1' e1' (0,0))∧arr1'.toList.length=arr1.toList.length:=by
      by_cases hbb:b=b1
      ·subst hbb
       rw[he2]at h1
       simp only[Option.some.injEq,Obj.cells.injEq,and_true]at h1
       obtain⟨rfl,rfl⟩:=h1
       exact⟨arr',e',h2,jfa h3 h3'⟩
      ·exact⟨arr1,e1,(h6 b1 (by simp) (fun h=>hbb h.symm)).trans he2,rfl⟩
     simp only[Array.length_toList]at k2
     have hrep:=hb' w' N' F0' arr arr' e e' seg arr1'.toList h1 h2 h3 h3' h4 h5
      (fun c hc=>h6 c (by simp only[List.mem_cons,List.mem_append,List.cons_append]at hc ⊢;rcases hc with h|h<;>simp[h])) h7
      (by intro q hq hqb;simp only[Option.some.injEq]at hq;subst hq;exact h6 _ (by simp) hqb)
      (by intro h;cases h)
      (by intro q hq;simp only[Option.some.injEq]at hq;subst hq;exact⟨arr1',e1',k1,by simp only[List.drop_zero];rw[List.take_of_length_le (by simp[k2,he3])],by simp[k2,he3]⟩)
     simp only[Rep]
     exact⟨b1,arr1',e1',H1++F0'++H2,by rw[hcs,he1],k1,by simp,hrep⟩
  ·rename_i a c
   simp only[setD,setP]at hs
   rw[vn]at hs
   cases hm:setD a f.l x.1 p t' f' y with
   | none=>rw[hm]at hs;cases hs
   | some m =>
    rw[hm]at hs
    simp only[Option.bind_some,Option.some.injEq]at hs
    obtain⟨mt,mf,mz⟩:=m
    simp only at hs
    subst hs
    simp only[Rep]at hr
    obtain⟨Fa,Fb,hF,hlen,r1,r2⟩:=hr
    subst hF
    rw[List.nodup_append]at hnd
    obtain⟨nda,ndb,ndab⟩:=hnd
    obtain⟨c1,c2,c3,H1,H0,H2,f0,x0',hH,rr,hgd,hin,hb'⟩:=ih r1 nda
     (by intro q hq;obtain⟨arr,e,u1,u2,u3⟩:=hseg q hq;simp only[Ty.cells]at u2 u3;exact⟨arr,e,u1,by rw[u2,List.take_take];congr 1;omega,by omega⟩)
     (by intro q hq h;exact hl q hq (List.mem_append_left _ h)) ha hm
    simp only at c1
    refine⟨by simp only[Ty.cells];omega,c2,fun o ho=>by have:=c3 o ho;simp only[Ty.cells];omega,H1,H0,H2++Fb,f0,x0',by rw[hH];simp,rr,hgd, ?_, ?_⟩
    ·rcases hin with h|h
     ·left;simp only[List.mem_append]at h ⊢;rcases h with h|h<;>simp[h]
     ·exact .inr h
    intro w' N' F0' arr arr' e e' seg cs' h1 h2 h3 h3' h4 h5 h6 h7 h8 h9 h10
    have hrep:=hb' w' N' F0' arr arr' e e' seg (cs'.take a.cells) h1 h2 h3 h3' h4 h5
     (fun c hc=>h6 c (by simp only[List.mem_append]at hc ⊢;rcases hc with h|h<;>simp[h])) h7 h8 (fun h=>by rw[h9 h])
     (by intro q hq;obtain⟨arr,e,u1,u2,u3⟩:=h10 q hq;simp only[Ty.cells]at u2 u3;exact⟨arr,e,u1,by rw[u2,List.take_take];congr 1;omega,by omega⟩)
    have hdrop:cs'.drop a.cells=cs.drop a.cells:=by
     cases l with
     | none=>rw[h9 rfl]
     | some q =>
      obtain⟨a1,t1,u1,u2,u3⟩:=h10 q rfl
      obtain⟨a2,t2,v1,v2,v3⟩:=hseg q rfl
      simp only[Ty.cells]at u2 u3 v2 v3
      by_cases hq:q.1=b
      ·rw[hq,h2]at u1
       rw[hq,h1]at v1
       simp only[Option.some.injEq,Obj.cells.injEq,and_true]at u1 v1
       obtain⟨rfl,rfl⟩:=u1
       obtain⟨rfl,rfl⟩:=v1
       have hr3:=c3 q.2 (by rw[←hq])
       rw[u2,v2,List.drop_take,List.drop_take,List.drop_drop,List.drop_drop,jeh h3 h3' (by omega)]
      ·rw[h8 q rfl hq,v1]at u1
       simp only[Option.some.injEq,Obj.cells.injEq,and_true]at u1
       rw[u2,v2,u1.1]
    have hl2:a.cells≤cs'.length:=by
     have:=hrep.len
     simp only[List.length_take]at this
     omega
    refine Rep.mkP.2 ⟨H1++F0'++H2,Fb,by simp,by rw[c1];exact hl2,by rw[c1];exact hrep, ?_⟩
    rw[c1,hdrop]
    refine Rep.mono h7 r2 fun c hc=>h6 c (by simp[hc]) ?_
    rintro rfl
    rcases hin with h|⟨o,h⟩
    ·exact ndab c (by rw[hH];simp only[List.mem_append]at h ⊢;rcases h with h|h<;>simp[h]) c hc rfl
    ·exact hl _ h (List.mem_append_right _ hc)
  ·rename_i a c
   simp only[setD,setP]at hs
   rw[vn]at hs
   cases hm:setD c f.r x.2 p t' f' y with
   | none=>rw[hm]at hs;cases hs
   | some m =>
    rw[hm]at hs
    simp only[Option.bind_some,Option.some.injEq]at hs
    obtain⟨mt,mf,mz⟩:=m
    simp only at hs
    subst hs
    simp only[Rep]at hr
    obtain⟨Fa,Fb,hF,hlen,r1,r2⟩:=hr
    subst hF
    rw[List.nodup_append]at hnd
    obtain⟨nda,ndb,ndab⟩:=hnd
    have hsg:∀(v:World) (ds:List Value),Seg v l (Ty.pair a c).cells ds→Seg v (l.map fun q=>(q.1,q.2+a.cells)) c.cells (ds.drop a.cells):=by
     intro v ds h q hq
     cases l with
     | none=>cases hq
     | some q0 =>
      simp only[Option.map_some,Option.some.injEq]at hq
      subst hq
      obtain⟨arr,e,u1,u2,u3⟩:=h q0 rfl
      simp only[Ty.cells]at u2 u3
      refine⟨arr,e,u1, ?_,by simp only;omega⟩
      rw[u2,List.drop_take,List.drop_drop]
      congr 1;omega
    obtain⟨c1,c2,c3,H1,H0,H2,f0,x0',hH,rr,hgd,hin,hb'⟩:=ih r2 ndb (hsg w cs hseg)
     (by
      intro q hq h
      cases l with
      | none=>cases hq
      | some q0 =>
       simp only[Option.map_some,Option.some.injEq]at hq
       subst hq
       exact hl q0 rfl (List.mem_append_right _ h)) ha hm
    simp only at c1
    have hin':b∈H1++H2∨∃o,l=some (b,o):=by
     rcases hin with h|⟨o,h⟩
     ·exact .inl h
     ·cases l with
      | none=>cases h
      | some q0 =>
       simp only[Option.map_some,Option.some.injEq,Prod.mk.injEq]at h
       exact .inr ⟨q0.2,by rw[←h.1]⟩
    have c3':∀o,l=some (b,o)→o+a.cells≤off∧off+t0.cells≤o+a.cells+c.cells:=by
     intro o ho
     exact c3 (o+a.cells) (by rw[ho];rfl)
    refine⟨by simp only[Ty.cells];omega,c2,fun o ho=>by have:=c3' o ho;simp only[Ty.cells];omega,Fa++H1,H0,H2,f0,x0',by rw[hH];simp,rr,hgd, ?_, ?_⟩
    ·rcases hin' with h|h
     ·left;simp only[List.mem_append]at h ⊢;rcases h with h|h<;>simp[h]
     ·exact .inr h
    intro w' N' F0' arr arr' e e' seg cs' h1 h2 h3 h3' h4 h5 h6 h7 h8 h9 h10
    have hrep:=hb' w' N' F0' arr arr' e e' seg (cs'.drop a.cells) h1 h2 h3 h3' h4 h5
     (fun c hc=>h6 c (by simp only[List.mem_append]at hc ⊢;rcases hc with h|h<;>simp[h])) h7
     (by
      intro q hq hqb
      cases l with
      | none=>cases hq
      | some q0 =>
       simp only[Option.map_some,Option.some.injEq]at hq
       subst hq
       exact h8 q0 rfl hqb)
     (fun h=>by
      cases l with
      | none=>rw[h9 rfl]
      | some q0=>cases h) (hsg w' cs' h10)
    have htake:cs'.take a.cells=cs.take a.cells:=by
     cases l with
     | none=>rw[h9 rfl]
     | some q =>
      obtain⟨a1,t1,u1,u2,u3⟩:=h10 q rfl
      obtain⟨a2,t2,v1,v2,v3⟩:=hseg q rfl
      simp only[Ty.cells]at u2 u3 v2 v3
      by_cases hq:q.1=b
      ·rw[hq,h2]at u1
       rw[hq,h1]at v1
       simp only[Option.some.injEq,Obj.cells.injEq,and_true]at u1 v1
       obtain⟨rfl,rfl⟩:=u1
       obtain⟨rfl,rfl⟩:=v1
       have hr3:=c3' q.2 (by rw[←hq])
       have ht:=jei h3 h3' hr3.1
       have:∀zs:List Value,((zs.drop q.2).take (a.cells+c.cells)).take a.cells=(zs.take (q.2+a.cells)).drop q.2:=by
        intro zs
        rw[List.take_take,List.drop_take]
        congr 1;omega
       rw[u2,v2,this,this,ht]
      ·rw[h8 q rfl hq,v1]at u1
       simp only[Option.some.injEq,Obj.cells.injEq,and_true]at u1
       rw[u2,v2,u1.1]
    have hl2:a.cells≤cs'.length:=by
     have:=congrArg List.length htake
     simp only[List.length_take]at this
     omega
    refine Rep.mkP.2 ⟨Fa,H1++F0'++H2,by simp,hl2, ?_,hrep⟩
    rw[htake]
    refine Rep.mono h7 r1 fun c hc=>h6 c (by simp[hc]) ?_
    rintro rfl
    rcases hin' with h|⟨o,h⟩
    ·exact ndab c hc c (by rw[hH];simp only[List.mem_append]at h ⊢;rcases h with h|h<;>simp[h]) rfl
    ·exact hl _ h (List.mem_append_left _ hc)
end Go.Gx
