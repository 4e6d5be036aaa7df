import Derived.Test.YtnolmlelfmadkaaGxOps6
set_option linter.unusedSimpArgs false
set_option linter.unusedVariables false
namespace Go.Gx
open Go
section
variable {P:Program} {A:Cfg} {c:Ctx} {own:Nat→List Nat} {st:St} {a:Act} {w:World} {ρ:Type}
theorem jes {b:Nat}{es:Array MapEntry}{ck:Nat}(hb:w.heap[b]? = some (.map es ck)):(getObj b).run P w = .ok (.map es ck) w:=by
 simp[getObj,Sem.run,hb]
theorem jhp {b:Nat}{es:Array MapEntry}{ck:Nat}(o:Obj) (hb:w.heap[b]? = some (.map es ck)):(setObj b o).run P w = .ok () { w with heap:=w.heap.setIfInBounds b o }:=by
 simp[setObj,Sem.run,hb]
theorem heapSet {r:Nat}{o o':Obj}(hb:w.heap[r]? = some o):(w.heap.setIfInBounds r o')[r]? = some o'∧∀r',r'≠r→(w.heap.setIfInBounds r o')[r']? = w.heap[r']? := by
 have hlt:r<w.heap.size:=(Array.getElem?_eq_some_iff.1 hb).1
 exact⟨by simp[hlt],fun r' hne=>by simp[Ne.symm hne]⟩
theorem jfw {k v:Ty}{a:k.den}:∀{m:List (k.den×v.den)}(i:Nat),mget k v m a=(mfind k a m i).map (·.2)
 | [],_=>rfl
 | (x,y)::m,i=>by
  simp only[mget,mfind]
  cases eqD k a x
  ·simp only[cond_false];exact jfw (i+1)
  ·rfl
theorem jfx {k v:Ty}{a:k.den}{y:v.den}:∀{m:List (k.den×v.den)}{i:Nat},mfind k a m i=none→mput k v m a y=m++[(a,y)]
 | [],_,_=>rfl
 | (x,z)::m,i,h=>by
  simp only[mfind]at h
  simp only[mput]
  cases hx:eqD k a x
  ·rw[hx,cond_false]at h
   simp only[cond_false,List.cons_append,jfx h]
  ·rw[hx]at h;cases h
theorem jfy {k v:Ty}{a:k.den}{y z:v.den}:∀{m:List (k.den×v.den)}{i j:Nat},mfind k a m i=some (j,z)→∃n p,j=i+n∧m[n]? = some p∧eqD k a p.1=true∧mput k v m a y=m.set n (a,y)
 | [],_,_,h=>by cases h
 | (x,u)::m,i,j,h=>by
  simp only[mfind]at h
  simp only[mput]
  cases hx:eqD k a x
  ·rw[hx,cond_false]at h
   obtain⟨n,p,h1,h2,h3,h4⟩:=jfy (y:=y) h
   exact⟨n+1,p,by omega,by simpa using h2,h3,by simp only[cond_false,List.set_cons_succ,h4]⟩
  ·rw[hx,cond_true]at h
   simp only[Option.some.injEq,Prod.mk.injEq]at h
   exact⟨0,(x,u),by omega,rfl,hx,by simp⟩
theorem jel {E:List Nat}(h:Inv c own E st a w){x:Operand}{t:Ty}(hf:t.flat=true){k:t.den→Option ρ}{r:ρ}(hk:fetchAs st (opd st x) t k=some r):∃y,k y=some r∧a.eval x=one t y:=by
 obtain⟨y,cs,hk,hx⟩:=ja1 h (jt h x) hk
 obtain⟨h1,h2⟩:=hx (fun _=>True) (fun _ _=>trivial) fun _ _ _ _=>trivial
 exact⟨y,hk,jc2 hf h1 h2⟩
theorem MapR.keys {k v:Ty}{es:Array MapEntry}{m:List (k.den×v.den)}(h:MapR k v es m):es.toList.map (fun e=>(e.key,e.val))=(m.map fun p=>(p.1,one v p.2)).map fun p=>(one k p.1,p.2):=by
 rw[h,List.map_map]
 rfl
theorem jds {β γ:Type}{k:Ty}{a:k.den}(g:β→γ):∀(m:List (k.den×β)) (i:Nat),mfind k a (m.map fun p=>(p.1,g p.2)) i=(mfind k a m i).map fun q=>(q.1,g q.2)
 | [],_=>rfl
 | (x,y)::m,i=>by
  simp only[List.map_cons,mfind]
  cases eqD k a x
  ·simp only[cond_false];exact jds g m (i+1)
  ·rfl
theorem ji8 {T K E:TypeId}{k v:Ty}{i:TypeInfo}(hT:P.underlying T=some (.map K E)) (hK:KeyOk P K k) (hi:P.info? E=some i) (hz:i.zero=some (one v (zeroTy v))){b:Nat}{es:Array MapEntry}{ck:Nat}{m:List (k.den×v.den)}
  (hb:w.heap[b]? = some (.map es ck)) (hm:MapR k v es m) (x:k.den) (ok:Bool) :
  (Instr.lookup T (.map (some b)) (one k x) ok).run P w = .ok (if ok then .tuple #[one v ((mget k v m x).getD (zeroTy v)),.bool (mget k v m x).isSome] else one v ((mget k v m x).getD (zeroTy v))) w:=by
 have h1:=hK.1 es.isEmpty x w
 have h2:=hK.2.1 x _ es.toList w hm.keys
 rw[jds]at h2
 have h3:(zeroValue E).run P w = .ok (one v (zeroTy v)) w:=by simp[zeroValue,typeInfo,hi,hz,Sem.run_bind,run_program,Result.andThen_ok,Sem.run_pure]
 unfold Instr.lookup
 simp only[Sem.run_bind,run_underlying hT,Result.andThen_ok,jes hb,Sem.run_pure,h1,h2]
 rw[jfw 0]
 cases mfind k x m 0 with
 | none=>simp only[Option.map_none,Sem.run_bind,h3,Result.andThen_ok,Sem.run_pure,Option.getD_none,Option.isSome_none]
 | some q=>simp only[Option.map_some,Sem.run_bind,Sem.run_pure,Result.andThen_ok,Option.getD_some,Option.isSome_some]
theorem ji9 {T K E:TypeId}{k v:Ty}(hT:P.underlying T=some (.map K E)) (hK:KeyOk P K k){b:Nat}{es:Array MapEntry}{ck:Nat}{m:List (k.den×v.den)}
  (hb:w.heap[b]? = some (.map es ck)) (hm:MapR k v es m) (x:k.den) (y:v.den) :
  ∃es' ck',(Instr.mapUpdate T (.map (some b)) (one k x) (one v y)).run P w = .ok () { w with heap:=w.heap.setIfInBounds b (.map es' ck') }∧MapR k v es' (mput k v m x y):=by
 have h1:=hK.1 false x w
 have h2:=hK.2.1 x _ es.toList w hm.keys
 rw[jds]at h2
 cases hf:mfind k x m 0 with
 | none =>
  rw[hf,Option.map_none]at h2
  refine⟨es.push { key:=one k x,val:=one v y,born:=ck },ck+1, ?_, ?_⟩
  ·unfold Instr.mapUpdate
   simp only[Sem.run_bind,run_underlying hT,Result.andThen_ok,jes hb,h1,h2,jhp _ hb]
  ·rw[jfx hf]
   unfold MapR at hm ⊢
   simp[hm]
 | some q =>
  obtain⟨j,z⟩:=q
  rw[hf,Option.map_some]at h2
  obtain⟨n,p,h3,h4,h5,h6⟩:=jfy (y:=y) hf
  have h3:j=n:=by omega
  subst h3
  have hke:(es[j]?).map (·.key)=some (one k x):=by
   have:=congrArg (fun l:List (Value×Value)=>l[j]?.map (·.1)) hm
   simp only[List.getElem?_map,h4,Option.map_some,Option.map_map]at this
   rw[hK.2.2.1 x p.1 h5]at this
   rw[←this,Array.getElem?_toList]
   rfl
  refine⟨es.modify j fun e=>{ e with key:=one k x,val:=one v y },ck, ?_, ?_⟩
  ·unfold Instr.mapUpdate
   simp only[Sem.run_bind,run_underlying hT,Result.andThen_ok,jes hb,h1,h2]
   rw[hke,Option.getD_some,hK.2.2.2]
   simp only[Result.andThen_ok,jhp _ hb]
  ·rw[h6]
   unfold MapR at hm ⊢
   rw[List.map_set,←hm]
   apply List.ext_getElem?
   intro i
   simp only[List.getElem?_map,List.getElem?_set,Array.getElem?_toList,Array.getElem?_modify,List.length_map,Array.length_toList]
   by_cases hij:j=i
   ·subst hij
    by_cases hl:j<es.size
    ·simp[hl]
    ·simp[hl,Array.getElem?_eq_none (Nat.not_lt.1 hl)]
   ·simp[hij]
theorem jl3 {N:Nat→Prop}{k v:Ty}{f:Fl}{m:List (k.den×v.den)}{cs:List Value}{F:List Nat}(h:Rep w N (.map k v) f m cs F):∃b es ck,cs=[.map (some b)]∧w.heap[b]? = some (.map es ck)∧MapR k v es m:=by
 simp only[Rep]at h
 split at h
 ·obtain⟨b,es,ck,h1,h2,_,h3⟩:=h;exact⟨b,es,ck,h1,h2,h3⟩
 ·obtain⟨_,b,es,ck,h1,_,h2,h3⟩:=h;exact⟨b,es,ck,h1,h2,h3⟩
theorem ji4 (hA:CfgOk P A){o:Oper}{T:TypeId}{kt vt:Ty}{k:St→Option ρ}{r:ρ}(ho:o.op = .makeMap T none) (hT:A.maps T=some (kt,vt)) (h:Inv c own [] st a w)
  (hk:k (st.putO o.dst (.val (.map kt vt) (.o .i) []))=some r):OpGoal P c o k r a w:=by
 have e0:(w.alloc (.map #[] 0)).heap=w.heap.push (.map #[] 0):=rfl
 have e1:(w.alloc (.map #[] 0)).heap[w.heap.size]? = some (.map #[] 0):=by rw[e0,Array.getElem?_push,if_pos rfl]
 have e2:∀b,b≠w.heap.size→(w.alloc (.map #[] 0)).heap[b]? = w.heap[b]? := fun b hb=>by rw[e0,Array.getElem?_push,if_neg hb]
 have e3:(w.alloc (.map #[] 0)).heap.size=w.heap.size+1:=by rw[e0,Array.size_push]
 have hg:=h.grown (w':=w.alloc (.map #[] 0)) (E':=[w.heap.size]) (fun b hb _=>e2 b (Nat.ne_of_lt hb)) (by omega) rfl rfl rfl trivial (by simp) (by intro b hb;simp at hb;subst hb;omega)
 rw[List.append_nil]at hg
 refine qq hg (v := .val (.map kt vt) (.o .i) []) (value := .map (some w.heap.size)) ?_ (.inl ⟨_,rfl, ?_⟩) hk
 ·unfold execOp
  simp[ho,Instr.makeMap,newObj]
  rfl
 ·simp only[Rep]
  exact⟨w.heap.size, #[],0,rfl,e1,rfl,rfl⟩
theorem jju (hA:CfgOk P A){o:Oper}{T:TypeId}{x i:Operand}{ok:Bool}{k:St→Option ρ}{r:ρ}(ho:o.op = .lookup T x i ok) (h:Inv c own [] st a w)
  (hk:lookupK A T st x i ok (fun v=>k (st.putO o.dst v))=some r):OpGoal P c o k r a w:=by
 unfold lookupK at hk
 split at hk
 case h_2=>cases hk
 rename_i kt vt hT
 obtain⟨K,E,inf,hu,hK,hkf,hvf,hi,hz⟩:=hA.maps T kt vt hT
 obtain⟨t,f,m,hk,hm⟩:=jb0 h (jt h x) hk
 split at hk
 case isFalse=>cases hk
 rename_i he
 subst he
 obtain⟨y,hk,hy⟩:=jel h hkf hk
 simp only[cast_eq]at hk
 rcases hm with⟨u,e⟩|⟨cs,F0,hh,hr,_⟩
 ·cases e
 simp only[Holds]at hh
 subst hh
 obtain⟨b,es,ck,h1,h2,h3⟩:=jl3 hr
 simp only[List.cons.injEq,and_true]at h1
 have hrun:=ji8 hu hK hi hz h2 h3 y ok
 cases ok with
 | true =>
  simp only[if_true]at hk hrun
  refine ji h (v := .val (.tup (.pair vt (.pair .bool .unit))) .i _) (value := .tuple #[one vt ((mget kt vt m y).getD (zeroTy vt)),.bool (mget kt vt m y).isSome]) ?_ (.inr ⟨_,_,_,rfl,HEq.rfl,rfl, ?_⟩) hk
  ·unfold execOp
   simp only[ho,h1,hy,Sem.run_bind,hrun,Result.andThen_ok,Sem.run_pure]
  ·exact⟨_,_,[],[],rfl,rfl,jfl hvf,_,_,[],[],rfl,rfl,⟨_,rfl,rfl,rfl⟩,rfl,rfl⟩
 | false =>
  simp only[Bool.false_eq_true,if_false]at hk hrun
  refine ji h (v := .val vt .i _) (value:=one vt _) ?_ (.inl (jfl hvf)) hk
  unfold execOp
  simp only[ho,h1,hy,Sem.run_bind,hrun,Result.andThen_ok,Sem.run_pure]
theorem map_set {N:Nat→Prop}{k v:Ty}{m m':List (k.den×v.den)}:∀{p:List Stp}{t:Ty}{f:Fl}{x:t.den}{cs:List Value}{F:List Nat}{n:Node},Rep w N t f x cs F→F.Nodup→p.all Stp.static=true →
  getD t f x p=some ⟨.map k v,.o .i,m⟩→setD t f x p (.map k v) (.o .i) m'=some n →
  ∃b es ck,b∈F∧w.heap[b]? = some (.map es ck)∧MapR k v es m∧(∀l t1 c1 l1,At w t cs l p t1 c1 l1→c1=[.map (some b)]) ∧
   ∀(w':World) (N':Nat→Prop) es' ck',w'.heap[b]? = some (.map es' ck')→MapR k v es' m'→(∀b',b'≠b→b'∈F→w'.heap[b']? = w.heap[b']?)→(∀b',N b'→N' b'∧w'.heap[b']? = w.heap[b']?)→Rep w' N' n.1 n.2.1 n.2.2 cs F:=by
 intro p
 induction p with
 | nil =>
  intro t f x cs F n hr hnd _ hg hs
  simp only[getD,getP,Option.some.injEq]at hg
  cases hg
  simp only[setD,setP,if_true,Option.some.injEq]at hs
  subst hs
  simp only[Rep]at hr
  obtain⟨b,es,ck,h1,h2,h3,h4⟩:=hr
  refine⟨b,es,ck,by simp[h3],h2,h4,fun l t1 c1 l1 hat => ?_,fun w' N' es' ck' q1 q2 _ _ => ?_⟩
  ·simp only[At]at hat
   rw[hat.2.1,h1]
  ·simp only[Rep]
   exact⟨b,es',ck',h1,q1,h3,q2⟩
 | cons s p ih =>
  intro t f x cs F n hr hnd hp hg hs
  simp only[List.all_cons,Bool.and_eq_true]at hp
  cases t<;>cases s<;>simp only[getD,getP,reduceCtorEq]at hg<;>simp only[setD,setP,reduceCtorEq]at hs
  ·simp[Stp.static]at hp
  ·rename_i t
   cases f with
   | i=>cases hs
   | p _ _=>cases hs
   | o f =>
    simp only[Fl.inn]at hg
    simp only[setP]at hs
    rw[jdc]at hs
    obtain⟨n',hn',hs⟩:=Option.bind_eq_some_iff.1 hs
    simp only[Option.some.injEq]at hs
    subst hs
    simp only[Rep]at hr
    obtain⟨b0,arr,e,G,h1,h2,h3,h4⟩:=hr
    subst h3
    rw[List.nodup_cons]at hnd
    obtain⟨b,es,ck,i1,i2,i3,i4,i5⟩:=ih h4 hnd.2 hp.2 hg hn'
    refine⟨b,es,ck,List.mem_cons_of_mem _ i1,i2,i3,fun l t1 c1 l1 hat => ?_,fun w' N' es' ck' q1 q2 q3 q4 => ?_⟩
    ·simp only[At]at hat
     obtain⟨b1,arr1,e1,g1,g2,g3,hat⟩:=hat
     rw[h1]at g1
     simp only[List.cons.injEq,Value.pointer.injEq,Option.some.injEq,Addr.mk.injEq,and_true]at g1
     subst g1
     rw[h2]at g2
     simp only[Option.some.injEq,Obj.cells.injEq,and_true]at g2
     obtain⟨rfl,rfl⟩:=g2
     exact i4 _ _ _ _ hat
    ·simp only[Rep]
     refine⟨b0,arr,e,G,h1, ?_,rfl,i5 w' N' es' ck' q1 q2 (fun b' hb' hG=>q3 b' hb' (List.mem_cons_of_mem _ hG)) q4⟩
     rw[q3 b0 (by rintro rfl;exact hnd.1 i1) List.mem_cons_self]
     exact h2
  ·rename_i t1 t2
   rw[jdc]at hs
   obtain⟨n',hn',hs⟩:=Option.bind_eq_some_iff.1 hs
   simp only[Option.some.injEq]at hs
   subst hs
   simp only[Rep]at hr
   obtain⟨F1,F2,e0,hl,h1,h2⟩:=hr
   subst e0
   have hnd':=List.nodup_append.1 hnd
   obtain⟨b,es,ck,i1,i2,i3,i4,i5⟩:=ih h1 hnd'.1 hp.2 hg hn'
   refine⟨b,es,ck,List.mem_append_left _ i1,i2,i3,fun l t1 c1 l1 hat => ?_,fun w' N' es' ck' q1 q2 q3 q4 => ?_⟩
   ·simp only[At]at hat
    exact i4 _ _ _ _ hat
   ·have r1:=i5 w' N' es' ck' q1 q2 (fun b' hb' hG=>q3 b' hb' (List.mem_append_left _ hG)) q4
    have r2:=h2.mono q4 fun c hc=>q3 c (by rintro rfl;exact hnd'.2.2 c i1 c hc rfl) (List.mem_append_right _ hc)
    have l1:=r1.len
    have l2:=h1.len
    have hc:n'.1.cells=t1.cells:=l1.symm.trans l2
    rw[Rep.mkP,hc]
    exact⟨F1,F2,rfl,hl,r1,r2⟩
  ·rename_i t1 t2
   rw[jdc]at hs
   obtain⟨n',hn',hs⟩:=Option.bind_eq_some_iff.1 hs
   simp only[Option.some.injEq]at hs
   subst hs
   simp only[Rep]at hr
   obtain⟨F1,F2,e0,hl,h1,h2⟩:=hr
   subst e0
   have hnd':=List.nodup_append.1 hnd
   obtain⟨b,es,ck,i1,i2,i3,i4,i5⟩:=ih h2 hnd'.2.1 hp.2 hg hn'
   refine⟨b,es,ck,List.mem_append_right _ i1,i2,i3,fun l t1 c1 l1 hat => ?_,fun w' N' es' ck' q1 q2 q3 q4 => ?_⟩
   ·simp only[At]at hat
    exact i4 _ _ _ _ hat
   ·have r2:=i5 w' N' es' ck' q1 q2 (fun b' hb' hG=>q3 b' hb' (List.mem_append_right _ hG)) q4
    have r1:=h1.mono q4 fun c hc=>q3 c (by rintro rfl;exact hnd'.2.2 c hc c i1 rfl) (List.mem_append_left _ hc)
    rw[Rep.mkP]
    exact⟨F1,F2,rfl,hl,r1,r2⟩
theorem jiz {b:Nat}{es:Array MapEntry}{ck:Nat}(hb:w.heap[b]? = some (.map es ck)) (es':Array MapEntry) (ck':Nat) (ad:Addr):World.frozen? { w with heap:=w.heap.setIfInBounds b (.map es' ck') } ad=w.frozen? ad:=by
 unfold World.frozen?
 by_cases h:ad.block=b
 ·subst h
  rw[(heapSet hb).1,hb]
 ·rw[(heapSet hb).2 _ h]
theorem jfu (hA:CfgOk P A){o:Oper}{T:TypeId}{m x y:Operand}{k:St→Option ρ}{r:ρ}(ho:o.op = .mapUpdate T m x y∨o.op = .insert T m x y) (h:Inv c own [] st a w)
  (hk:mapSetK A T st m x y (fun st'=>k (st'.putO o.dst .u))=some r):OpGoal P c o k r a w:=by
 unfold mapSetK at hk
 split at hk
 case h_2=>cases hk
 rename_i kt vt hT
 obtain⟨K,E,inf,hu,hK,hkf,hvf,hi,hz⟩:=hA.maps T kt vt hT
 obtain⟨kx,hk,hx⟩:=jel h hkf hk
 obtain⟨vy,hk,hy⟩:=jel h hvf hk
 have hmv:=jt h m
 split at hk
 case h_2=>cases hk
 rename_i s p hm
 rw[hm]at hmv
 split at hk
 case h_2=>cases hk
 rename_i τ h0 z hs
 obtain⟨⟨nt,nf,nx⟩,hgn,hk⟩:=qx hk
 simp only at hk
 split at hk
 case isFalse=>cases hk
 rename_i he
 subst he
 split at hk
 case isFalse=>cases hk
 rename_i hf
 subst hf
 split at hk
 case isFalse=>cases hk
 rename_i hst
 simp only[cast_eq]at hk
 obtain⟨n,hset,hk⟩:=jch hk
 split at hk
 case isFalse=>cases hk
 rename_i hno
 have hr:=hmv.ref
 obtain⟨cs,cs',l',hh,hrep,hat,hnm,hwh,F0,hsub,r0⟩:=jcf h hr hs hgn (fun u hu=>by cases hu)
 simp only[Named,Holds]at hnm
 obtain⟨b,es,ck,hb,hheap,hmr,hcell,hfin⟩:=map_set hrep (h.nd s) hst hgn hset
 have hc:=hcell _ _ _ _ hat
 rw[hc]at hnm
 simp only[List.cons.injEq,and_true]at hnm
 obtain⟨es',ck',hrun,hmr'⟩:=ji9 hu hK hheap hmr kx vy
 have hhs:=heapSet (o' := .map es' ck') hheap
 have hnew:=Inv.rewrite (E:=[]) (F:=[]) (G:=own s) (n:=n) (w':={ w with heap:=w.heap.setIfInBounds b (.map es' ck') }) (by simpa using h) hr.1 hno (fun c' hc'=>hhs.2 c' (by rintro rfl;exact hc' hb)) (by simp) rfl rfl rfl (jiz hheap es' ck') (fun b hb => .inl hb) (h.nd s) (fun N' hN' => ?_)
 ·unfold OpGoal
  intro hfx Kc Q hKc
  obtain⟨own2,h2⟩:=Inv.putO (F:=[]) (E:=[]) (v := .u) (value:=undef) o.dst (by simpa using hnew) rfl (vp hfx)
  refine jhw ?_ (hKc _ _ _ _ hk h2)
  unfold execOp
  rcases ho with ho|ho<;>simp only[ho,hx,hy,←hnm,Sem.run_bind,hrun,Result.andThen_ok,Sem.run_pure]
 ·refine .inl ⟨cs, ?_,hfin _ N' es' ck' hhs.1 hmr' (fun b' hb' _=>hhs.2 b' hb') fun b' hb'=>⟨hN' b' (by simpa using hb'),hhs.2 b' (by rintro rfl;exact hb'.2.1 s hb)⟩⟩
  by_cases hp:p=[]
  ·subst hp
   simp only[getD,getP,Option.some.injEq]at hgn
   cases hgn
   simp only[setD,setP,if_true,Option.some.injEq]at hset
   subst hset
   exact hh
  ·exact setD_holds hp hset hh
end
end Go.Gx
