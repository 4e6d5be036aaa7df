import Derived.Test.YtnolmlelfmadkaaGxOps3
set_option linter.unusedSimpArgs false
set_option linter.unusedVariables false
namespace Go.Gx
open Go
theorem ja2 (w:World) (cs:Array Value) (t:TypeId) (a:Addr):(w.alloc (.cells cs t)).frozen? a=w.frozen? a:=by
 have e:(w.alloc (.cells cs t)).heap[a.block]? = (w.heap.push (.cells cs t))[a.block]? := rfl
 unfold World.frozen?
 rw[e,Array.getElem?_push]
 by_cases h:a.block=w.heap.size
 ·rw[if_pos h,h,Array.getElem?_eq_none (Nat.le_refl _)]
  simp
 ·rw[if_neg h]
theorem jde {w:World}{g:Nat}{old:Array Value}{t:TypeId}{fr:Nat×Nat}(hg:w.heap[g]? = some (.cells old t fr)) (cs:Array Value) (a:Addr):(w.setRow g cs).frozen? a=w.frozen? a:=by
 unfold World.frozen?
 by_cases h:a.block=g
 ·rw[h,setRow_heap w g old cs t fr hg,hg]
 ·rw[setRow_other w g _ cs h]
theorem RepL.of_seg {α:Type}{f:α→List Value→List Nat→Prop}{sz:Nat}:∀{xs:List α}{cs:List Value},xs.length*sz≤cs.length→(∀i x,xs[i]? = some x→f x ((cs.drop (i*sz)).take sz) [])→RepL f sz xs cs []
 | [],_,_,_=>rfl
 | x::xs,cs,hl,h=>by
  simp only[List.length_cons,Nat.succ_mul]at hl
  refine⟨[],[],rfl,by omega,by simpa using h 0 x rfl,RepL.of_seg (by simp only[List.length_drop];omega) fun i y hy => ?_⟩
  rw[List.drop_drop]
  have:=h (i+1) y (by simpa using hy)
  rw[Nat.succ_mul,Nat.add_comm (i*sz)]at this
  exact this
theorem RepL.seg {α:Type}{f:α→List Value→List Nat→Prop}{sz:Nat}{xs:List α}{cs:List Value}(h:RepL f sz xs cs []) (i:Nat) (x:α) (hx:xs[i]? = some x):f x ((cs.drop (i*sz)).take sz) []:=by
 obtain⟨F0,m,_,h⟩:=h.nth hx
 have:F0=[]:=List.eq_nil_iff_forall_not_mem.2 fun b hb=>by cases m b hb
 rw[this]at h;exact h
theorem RepL.append {α:Type}{f:α→List Value→List Nat→Prop}{sz:Nat}:∀{xs ys:List α}{cs ds es:List Value},RepL f sz xs cs []→cs.length=xs.length*sz→RepL f sz ys ds []→RepL f sz (xs++ys) (cs++ds++es) []
 | [],ys,cs,ds,es,_,hl,h=>by
  have:cs=[]:=List.eq_nil_of_length_eq_zero (by simpa using hl)
  subst this
  have key:∀{ys:List α} {ds:List Value},RepL f sz ys ds []→RepL f sz ys (ds++es) []:=by
   intro ys
   induction ys with
   | nil=>intro ds _;rfl
   | cons y ys ih =>
    intro ds h
    obtain⟨F1,F2,e,hl,hx,hr⟩:=h
    have e':=List.append_eq_nil_iff.1 e.symm
    rw[e'.1]at hx
    rw[e'.2]at hr
    refine⟨[],[],rfl,by simp;omega, ?_, ?_⟩
    ·rw[List.take_append_of_le_length hl];exact hx
    ·rw[List.drop_append_of_le_length hl];exact ih hr
  simpa using key h
 | x::xs,ys,cs,ds,es,⟨F1,F2,e,hc,hx,hr⟩,hl,h=>by
  have e':=List.append_eq_nil_iff.1 e.symm
  rw[e'.1]at hx
  rw[e'.2]at hr
  simp only[List.length_cons,Nat.succ_mul]at hl
  refine⟨[],[],rfl,by simp;omega, ?_, ?_⟩
  ·rw[List.append_assoc,List.take_append_of_le_length hc];exact hx
  ·have:=RepL.append (es:=es) hr (by simp only[List.length_drop];omega) h
   rw[List.append_assoc,List.drop_append_of_le_length hc,←List.append_assoc]
   exact this
theorem jdd (z:Array Value) (c j:Nat) (hj:j<c):((madeCells z (c*z.size)).toList.drop (j*z.size)).take z.size=z.toList:=by
 apply List.ext_getElem?
 intro i
 by_cases hi:i<z.size
 ·have h1:j*z.size+i<c*z.size:=by
   have:(j+1)*z.size≤c*z.size:=Nat.mul_le_mul_right _ hj
   rw[Nat.succ_mul]at this;omega
  rw[List.getElem?_take,if_pos hi,List.getElem?_drop]
  simp only[madeCells,Array.toList_map,Array.toList_range,List.getElem?_map,List.getElem?_range h1,Option.map_some]
  have:(j*z.size+i) % z.size=i:=by rw[Nat.add_comm,Nat.add_mul_mod_self_right];exact Nat.mod_eq_of_lt hi
  rw[this]
  simp[hi]
 ·rw[List.getElem?_take,if_neg hi]
  simp[Nat.le_of_not_lt hi]
section
variable {P:Program} {A:Cfg} {c:Ctx} {own:Nat→List Nat} {st:St} {a:Act} {w:World} {ρ:Type}
theorem jbc {N:Nat→Prop}:∀{t:Ty}{f:Fl},t.hasZero=true→Rep w N t f (zeroTy t) (zc t) []
 | .int _,_,_=>⟨rfl,rfl⟩
 | .bool,_,_=>⟨rfl,rfl⟩
 | .str,_,_=>⟨rfl,rfl⟩
 | .unit,_,_=>⟨rfl,rfl⟩
 | .any _,_,h=>by simp[Ty.hasZero]at h
 | .tup _,_,h=>by simp[Ty.hasZero]at h
 | .clo _ _ _,_,h=>by simp[Ty.hasZero]at h
 | .ptr _,_,h=>by simp[Ty.hasZero]at h
 | .opt _,f,_=>by cases f<;>simp[Rep,zeroTy,zc]
 | .map _ _,_,h=>by simp[Ty.hasZero]at h
 | .ns _,_,h=>by simp[Ty.hasZero]at h
 | .sl t,f,_=>by
  simp only[Rep,zeroTy,zc]
  split
  ·exact .inl ⟨trivial,trivial,trivial⟩
  ·exact⟨trivial,none,0,rfl,Nat.le_refl _,Nat.zero_le _,fun h=>absurd rfl h⟩
 | .pair a b,f,h=>by
  simp only[Ty.hasZero,Bool.and_eq_true]at h
  have h1:=jbc (N:=N) (f:=f.l) h.1
  have h2:=jbc (N:=N) (f:=f.r) h.2
  have l1:=h1.len
  simp only[Rep,zeroTy,zc]
  refine⟨[],[],rfl,by simp;omega, ?_, ?_⟩
  ·rw[←l1,List.take_left']
   ·exact h1
   ·rfl
  ·rw[←l1,List.drop_left']
   ·exact h2
   ·rfl
theorem jhb {α:Type}{x:α}{n:Int}{l:List α}(h:mkI x n=some l):0≤n∧n≤4294967296∧l=List.replicate n.toNat x:=by
 unfold mkI at h
 split at h
 ·rename_i h0
  simp only[Option.some.injEq]at h
  exact⟨h0.1,h0.2,h.symm⟩
 ·cases h
theorem qq {o:Oper}{k:St→Option ρ}{r:ρ}{v:V}{value:Value}{w':World}{own2:Nat→List Nat}{st2:St}{F:List Nat}(h:Inv c own2 F st2 a w') (hr:(execOp a.eval o).run P w = .ok (.value value) w') (hv:SlotOk w' (NB c own2 F w') st2 a F value v) (hk:k (st2.putO o.dst v)=some r):OpGoal P c o k r a w:=by
 intro hfx K Q hK
 have h2:Inv c own2 (F++[]) st2 a w':=by simpa using h
 obtain⟨own',h'⟩:=Inv.putO (F:=F) (E:=[]) o.dst h2 (by simpa using hv) (vp hfx)
 exact qp hr (hK _ _ _ _ hk h')
theorem jha (hA:CfgOk P A){o:Oper}{T:TypeId}{l cc:Operand}{t:Ty}{f f1 f2:Fl}{k1 k2:IntKind}{m n:Int}{k:St→Option ρ}{r:ρ}(ho:o.op = .makeSlice T l cc) (hT:A.elem T=some (t,f)) (hz:t.hasZero=true) (h:Inv c own [] st a w)
  (hl:opd st l = .val (.int k1) f1 m) (hc:opd st cc = .val (.int k2) f2 n) (hk:((mkI (zeroTy t) n).bind fun _=>(mkI (zeroTy t) m).bind fun xs=>cond (decide (m≤n)) (k (st.putO o.dst (.val (.sl t) (.o f) xs))) none)=some r):OpGoal P c o k r a w:=by
 have hlv:=jt h l
 have hcv:=jt h cc
 rw[hl]at hlv
 rw[hc]at hcv
 obtain⟨e,i,hu,hty,hi,hb,hpos,_⟩:=hA.elem T t f hT
 obtain⟨i',z,d,h1,h2,h3,h4,h5,_⟩:=hty
 rw[hi]at h1
 simp only[Option.some.injEq]at h1
 subst h1
 cases hn:mkI (zeroTy t) n with
 | none=>rw[hn]at hk;cases hk
 | some ys =>
  cases hm:mkI (zeroTy t) m with
  | none=>rw[hn,hm]at hk;cases hk
  | some xs =>
   rw[hn,hm]at hk
   simp only[Option.bind_some]at hk
   obtain⟨n0,n1,_⟩:=jhb hn
   obtain⟨m0,m1,hxs⟩:=jhb hm
   by_cases hle:m≤n
   ·simp only[hle,decide_true,cond_true]at hk
    have hbytes:(i.bytes:Int)*n≤281474976710656:=by
     have:(i.bytes:Int)*n≤32768*4294967296:=by
      apply Int.mul_le_mul<;>omega
     omega
    have hrun:=run_make (P:=P) w T e i z hu hi h3 k1 k2 m n m0 hle hbytes (by omega)
    have hinv:=h.grown (w':=w.alloc (.cells (madeCells z.cells (n.toNat*i.size)) e)) (E':=[w.heap.size]) (fun b hb _=>heap_alloc_old w _ hb) (by simp) rfl rfl rfl trivial (by simp) (by intro b hb;simp at hb;subst hb;simp)
    refine qq hinv (v := .val (.sl t) (.o f) xs) (value := .slice (some ⟨w.heap.size,0,none⟩) m.toNat n.toNat) ?_ ?_ hk
    ·unfold execOp
     simp only[ho,hlv.int,hcv.int,Sem.run_bind,hrun,Result.andThen_ok,Sem.run_pure]
    ·refine .inl ⟨_,rfl, ?_⟩
     have hzs:z.cells.size=i.size:=by
      have:=congrArg List.length (h4.1 hz)
      have hl:=(jbc (N:=fun _=>True) (w:=w) (f := .i) hz).len
      simp only[Array.length_toList]at this
      omega
     simp only[Rep]
     refine .inr ⟨w.heap.size,n.toNat,_,e,[], ?_,heap_alloc_new w _, ?_, ?_, ?_,by simp, ?_⟩
     ·rw[hxs];simp
     ·rw[size_madeCells,h2];exact Nat.le_refl _
     ·rw[hxs];simp;omega
     ·simp only[maxLen];omega
     ·rw[hxs]
      refine RepL.of_seg ?_ fun j x hx => ?_
      ·simp only[List.length_replicate,Array.length_toList,size_madeCells,←h2]
       exact Nat.mul_le_mul_right _ (by omega)
      ·rw[List.getElem?_replicate]at hx
       split at hx
       case isFalse=>cases hx
       rename_i hj
       simp only[Option.some.injEq]at hx
       subst hx
       rw[←h2,←hzs,jdd _ _ _ (by omega),h4.1 hz]
       exact jbc hz
   ·simp[hle]at hk
theorem NB.hand {c:Ctx}{own:Nat→List Nat}{E E':List Nat}{w:World}{b:Nat}(hs:∀b∈E',b∈E) (h:NB c own E w b):NB c own E' w b:=⟨h.1,h.2.1,fun h'=>h.2.2.1 (hs b h'),h.2.2.2⟩
theorem Inv.hand {c:Ctx}{own:Nat→List Nat}{E E':List Nat}{st:St}{a:Act}{w:World}(h:Inv c own E st a w) (hs:∀b∈E',b∈E) (hnd:E'.Nodup):Inv c own E' st a w:=by
 have hN:∀b,NB c own E w b→NB c own E' w b∧w.heap[b]? = w.heap[b]? := fun b hb=>⟨hb.hand hs,rfl⟩
 refine⟨h.size,h.defers,fun i => ?_,h.nd,hnd,h.dj,fun i b hb hE=>h.djE i b hb (hs b hE),fun b hb=>h.ltE b (hs b hb),h.bnd,fun b hb=>h.bndE b (hs b hb),h.frame,h.grow,h.os,h.tape,h.output,h.frozen,h.fixed⟩
 have hs:=h.slot i
 cases hv:st.get i with
 | val t f x=>rw[hv]at hs;exact RepV.mono hN hs fun b _=>rfl
 | u=>rw[hv]at hs;exact hs
 | nilS=>rw[hv]at hs;exact hs
 | nilP=>rw[hv]at hs;exact hs
 | ref _ _ _=>rw[hv]at hs;exact hs
 | win _ _ _ _=>rw[hv]at hs;exact hs
theorem Holds.inj {t:Ty}{u v:Value}{cs:List Value}(ht:∀n,t ≠ .any n) (h:Holds t u cs) (h':Holds t v cs):u=v:=by
 cases t<;>simp only[Holds]at h h'<;>(try (rw[h,h']))<;>(try (rw[h]at h';simpa using h'))
 exact absurd rfl (ht _)
theorem RefOk.whole {s:Nat}{v:Value}(h:RefOk w st a s [] .val v):v=Act.at_ a s:=by
 obtain⟨_,⟨_,_,rfl⟩|⟨t1,f1,x1,cs,t',cs',l',e1,e5,e2,e3,e4⟩⟩:=h
 ·rfl
 ·simp only[At]at e3
  obtain⟨rfl,rfl,rfl⟩:=e3
  exact Holds.inj e5.1 e4 e2
theorem jb3 (a:Act) (d:Nat):a.put (some d) (Act.at_ a d)=a:=by
 cases a with
 | mk tmps defers =>
  simp only[Act.put,Act.at_,Act.mk.injEq,and_true]
  apply Array.ext_getElem?
  intro i
  rw[Array.getElem?_setIfInBounds]
  split
  ·rename_i e
   subst e
   split
   ·rename_i hlt;simp[hlt]
   ·rename_i hge;simp[Nat.le_of_not_lt hge]
  ·rfl
theorem At.lsome:∀{p:List Stp}{t:Ty}{cs:List Value}{q:Nat×Nat}{t1:Ty}{c1:List Value}{l1:Option (Nat×Nat)},At w t cs (some q) p t1 c1 l1→∃q',l1=some q':=by
 intro p
 induction p with
 | nil=>intro t cs q t1 c1 l1 h;simp only[At]at h;exact⟨q,h.2.2⟩
 | cons s p ih =>
  intro t cs q t1 c1 l1 h
  cases t<;>cases s<;>simp only[At]at h
  ·obtain⟨b,len,cap,arr,e,_,_,h⟩:=h;exact ih h
  ·obtain⟨b,arr,e,_,_,_,h⟩:=h;exact ih h
  ·exact ih h
  ·simp only[Option.map_some]at h;exact ih h
theorem At.psome {p:List Stp}{t:Ty}{cs:List Value}{l:Option (Nat×Nat)}{t1:Ty}{c1:List Value}{l1:Option (Nat×Nat)}(hp:pathOk p=true) (hne:p≠[]) (h:At w t cs l p t1 c1 l1):∃q',l1=some q':=by
 cases p with
 | nil=>exact absurd rfl hne
 | cons s p =>
  cases s<;>simp only[pathOk,reduceCtorEq]at hp
  ·cases t<;>simp only[At]at h
   obtain⟨b,len,cap,arr,e,_,_,h⟩:=h
   exact h.lsome
  ·cases t<;>simp only[At]at h
   obtain⟨b,arr,e,_,_,_,h⟩:=h
   exact h.lsome
theorem jcb {t:Ty}(h:okMut t=true):∀u,t ≠ .tup u:=by rintro u rfl;simp[okMut]at h
theorem jj0 {t:Ty}(h:okMut t=true):∀m,t ≠ .any m:=by rintro u rfl;simp[okMut]at h
theorem jf1 {t:Ty}(h:okMut t=true):0<t.cells:=by
 cases t<;>simp only[okMut,decide_eq_true_eq,reduceCtorEq]at h
 ·simp[Ty.cells]
 ·simp[Ty.cells]
 ·exact h
theorem setD_holds {p:List Stp}{τ:Ty}{g:Fl}{y:τ.den}{t:Ty}{f:Fl}{x:t.den}{n:Node}{v:Value}{cs:List Value}(hne:p≠[]) (hset:setD τ g y p t f x=some n) (hh:Holds τ v cs):Holds n.1 v cs:=by
 cases p with
 | nil=>exact absurd rfl hne
 | cons s p =>
  cases s
  ·cases τ<;>cases g<;>simp only[setD,setP,reduceCtorEq]at hset
   rename_i i te g
   cases hx:(show List te.den from y)[i]? with
   | none=>rw[hx]at hset;cases hset
   | some x0 =>
    rw[hx]at hset
    simp only[Option.bind_some]at hset
    rw[vn]at hset
    cases hm:setD te g x0 p t f x with
    | none=>rw[hm]at hset;cases hset
    | some m =>
     rw[hm]at hset
     simp only[Option.bind_some]at hset
     split at hset
     ·split at hset
      ·simp only[Option.some.injEq]at hset
       subst hset
       exact hh
      ·cases hset
     ·cases hset
  ·cases τ<;>simp only[setD,setP,reduceCtorEq]at hset
   rename_i ta tb
   rw[vn]at hset
   cases hm:setD ta g.l y.1 p t f x with
   | none=>rw[hm]at hset;cases hset
   | some m =>
    rw[hm]at hset
    simp only[Option.bind_some,Option.some.injEq]at hset
    subst hset
    exact hh
  ·cases τ<;>simp only[setD,setP,reduceCtorEq]at hset
   rename_i ta tb
   rw[vn]at hset
   cases hm:setD tb g.r y.2 p t f x with
   | none=>rw[hm]at hset;cases hset
   | some m =>
    rw[hm]at hset
    simp only[Option.bind_some,Option.some.injEq]at hset
    subst hset
    exact hh
  ·cases τ<;>cases g<;>simp only[setD,setP,reduceCtorEq]at hset
   rename_i te g
   rw[vn]at hset
   cases hm:setD te g y p t f x with
   | none=>rw[hm]at hset;cases hset
   | some m =>
    rw[hm]at hset
    simp only[Option.bind_some,Option.some.injEq]at hset
    subst hset
    exact hh
theorem jcf {E:List Nat}(h:Inv c own E st a w){s:Nat}{p:List Stp}{k:RK}{v:Value}{τ:Ty}{f:Fl}{x:τ.den}{n:Node}(hr:RefOk w st a s p k v) (hs:st.get s = .val τ f x) (hg:getD τ f x p=some n) (hn:∀u,n.1 ≠ .tup u) :
  ∃cs cs' l',Holds τ (Act.at_ a s) cs∧Rep w (NB c own E w) τ f x cs (own s)∧At w τ cs none p n.1 cs' l'∧Named k n.1 v cs' l'∧(p=[]→k = .val→v=Act.at_ a s)∧∃F0,F0.Sublist (own s)∧Rep w (NB c own E w) n.1 n.2.1 n.2.2 cs' F0:=by
 have hslot:=h.slot s
 rw[hs]at hslot
 simp only[SlotOk]at hslot
 rcases hslot with⟨cs,hh,hrep⟩|⟨u,_,_,h1,_⟩
 ·have hw:p=[]→k = .val→v=Act.at_ a s:=by rintro rfl rfl;exact hr.whole
  obtain⟨_,⟨rfl,rfl,rfl⟩|⟨t1,f1,x1,cs1,t',cs',l',e1,e5,e2,e3,e4⟩⟩:=hr
  ·simp only[getD,getP,Option.some.injEq]at hg
   subst hg
   exact⟨cs,cs,none,hh,hrep,by simp only[At];exact⟨trivial,trivial,trivial⟩,hh,fun _ _=>rfl,own s,List.Sublist.refl _,hrep⟩
  ·rw[hs]at e1
   cases e1
   obtain rfl:=Holds.uniq e5.1 hh e2
   obtain⟨rfl,F0,m,r0⟩:=nav2 hrep e3 hg
   exact⟨cs,cs',l',hh,hrep,e3,e4,hw,F0,m,r0⟩
 ·subst h1
  obtain⟨_,h3⟩:=jg4 hg
  exact absurd h3 (hn u)
theorem Inv.realias {own2:Nat→List Nat}{E E2:List Nat}{s:Nat}{t:Ty}{f:Fl}{x:t.den}(h0:Inv c own E st a w) (ho:(st.get s).isOwner=true) (h:Inv c own2 E2 (St.put ((dropRefs s st).set s .u) s (.val t f x)) a w):Inv c own2 E2 (reput st s (.val t f x)) a w:=by
 have hs:s<st.length:=by
  rcases Nat.lt_or_ge s st.length with hlt|hge
  ·exact hlt
  ·rw[qe st s hge]at ho;cases ho
 have hX:∀i,St.get (St.put ((dropRefs s st).set s .u) s (.val t f x)) i=if i=s then .val t f x else V.drop s (st.get i):=by
  intro i
  have hu:St.get ((dropRefs s st).set s .u) s = .u:=by rw[qg];simp[dropRefs,hs]
  simp only[St.put,hu,V.isOwner,Bool.false_eq_true,if_false]
  rw[qg,qg]
  unfold dropRefs
  rw[qy _ _ rfl]
  by_cases hi:i=s<;>simp[hi,hs]
 have hY:∀i,St.get (reput st s (.val t f x)) i=if i=s then .val t f x else V.reIn s (.val t f x) (st.get i):=by
  intro i
  unfold reput
  rw[qg,qy _ _ rfl]
  by_cases hi:i=s<;>simp[hi,hs]
 refine⟨?_,h.defers,fun i => ?_,h.nd,h.ndE,h.dj,h.djE,h.ltE,h.bnd,h.bndE,h.frame,h.grow,h.os,h.tape,h.output,h.frozen,h.fixed⟩
 ·rw[h0.size];simp[reput]
 ·have hsl:=h.slot i
  rw[hX]at hsl
  rw[hY]
  by_cases hi:i=s
  ·simp only[hi,if_true]at hsl ⊢
   exact hsl
  ·simp only[hi,if_false]at hsl ⊢
   have h0s:=h0.slot i
   cases hv:st.get i with
   | val t' f' x'=>rw[hv]at hsl;exact hsl
   | u=>rw[hv]at hsl;exact hsl
   | nilS=>rw[hv]at hsl;exact hsl
   | nilP=>rw[hv]at hsl;exact hsl
   | win q lo hi tt =>
    rw[hv]at hsl
    by_cases hq:q=s
    ·subst hq
     simp only[V.drop,if_true,SlotOk]at hsl
     simp only[V.reIn,if_true]
     exact hsl
    ·simp only[V.drop,hq,if_false,SlotOk]at hsl
     simp only[V.reIn,hq,if_false,SlotOk]
     refine⟨hsl.1,hsl.2.congr ?_ rfl⟩
     have hqo:=hsl.2.owner
     rw[hX,if_neg hq]at hqo
     rw[hX,hY,if_neg hq,if_neg hq]
     cases hvq:st.get q<;>rw[hvq]at hqo<;>simp only[V.drop]at hqo ⊢<;>(try (simp only[V.reIn]))<;>(split at hqo<;>simp[V.isOwner]at hqo)
   | ref q p k =>
    rw[hv]at hsl h0s
    by_cases hq:q=s
    ·subst hq
     simp only[V.drop,if_true,SlotOk]at hsl
     simp only[V.reIn,if_true]
     cases p with
     | cons _ _=>exact hsl
     | nil =>
      cases k with
      | addr=>exact hsl
      | val =>
       have hw:Act.at_ a i=Act.at_ a q:=h0s.2.whole
       simp only
       split
       ·rename_i hno
        refine⟨hsl, ?_,.inl ⟨rfl,rfl,hw⟩⟩
        rw[hY,if_pos rfl]
        exact hno
       ·rename_i hno
        have hfi:f = .i:=by cases f<;>simp_all [V.isOwner]
        subst hfi
        have hs2:=h.slot q
        rw[hX,if_pos rfl]at hs2
        have h0:=RepV.plain hs2
        simp only[SlotOk]at hs2 ⊢
        rw[h0]at hs2
        rw[hsl,hw]
        exact hs2
    ·simp only[V.drop,hq,if_false,SlotOk]at hsl
     simp only[V.reIn,hq,if_false,SlotOk]
     refine⟨hsl.1,hsl.2.congr ?_ rfl⟩
     have hqo:=hsl.2.1
     rw[hX,if_neg hq]at hqo
     rw[hX,hY,if_neg hq,if_neg hq]
     cases hvq:st.get q<;>rw[hvq]at hqo<;>simp only[V.drop]at hqo ⊢<;>(try (simp only[V.reIn]))<;>(split at hqo<;>simp[V.isOwner]at hqo)
theorem jbr {E:List Nat}(h:Inv c own E st a w){v:V}{value:Value}{k:St→(t:Ty)→Fl→t.den→Option ρ}{r:ρ}(hv:VOk w (NB c own E w) st a v value) (hk:consume st v k=some r) :
  ∃own' F st' t f x,k st' t f x=some r∧Inv c own' (F++E) st' a w∧RepV w (NB c own' (F++E) w) t f x value F∧(∀b,NB c own E w b→NB c own' (F++E) w b):=by
 unfold consume at hk
 split at hk
 ·rename_i t f x
  exact⟨own,[],st,t,f,x,hk,by simpa using h,by simpa using hv.val,fun b hb=>by simpa using hb⟩
 ·rename_i s
  split at hk
  ·rename_i t f x hs
   have hr:=hv.ref
   obtain⟨hinv,hget,hN⟩:=h.takeSlot hr.1
   have hsl:=h.slot s
   rw[hs]at hsl
   have hval:RepV w (NB c own E w) t f x value (own s):=by
    obtain⟨_,⟨_,_,rfl⟩|⟨t1,f1,x1,cs,t',cs',l',e1,e5,e2,e3,e4⟩⟩:=hr
    ·exact hsl
    ·rw[hs]at e1
     cases e1
     simp only[At]at e3
     obtain⟨rfl,rfl,rfl⟩:=e3
     rcases hsl with⟨cs0,g1,g2⟩|⟨u,_,_,g1,_⟩
     ·obtain rfl:=Holds.uniq e5.1 g1 e2
      exact .inl ⟨cs0,e4,g2⟩
     ·subst g1;exact e2.elim
   exact⟨_,own s,_,t,f,x,hk,hinv,hval.mono (fun b hb=>⟨hN b hb,rfl⟩) (fun b _=>rfl),hN⟩
  ·cases hk
 ·rename_i s q p
  split at hk
  case h_2=>cases hk
  rename_i τ g y hs
  obtain⟨⟨nt,nf,nx⟩,hg,hk⟩:=qx hk
  simp only at hk
  split at hk
  case isFalse=>cases hk
  rename_i hc
  simp only[Bool.and_eq_true]at hc
  obtain⟨n,hset,hk⟩:=jch hk
  have hr:=hv.ref
  obtain⟨cs,cs',l',hh,hrep,hat,hnm,_,F0,hsub,r0⟩:=jcf h hr hs hg (jcb hc.1)
  simp only[Named]at hnm
  obtain⟨⟨b1,off⟩,rfl⟩:=At.psome hc.2 (by simp) hat
  obtain⟨g1,g2,_,F1,F0',F2,f0,x0,hown,r0',hgd,hbF,hfin⟩:=jfg (.any nt.cells) .i () (N:=NB c own E w) hrep (h.nd s) (fun q hq=>by cases hq) (fun q hq=>by cases hq) hat hset
  rw[hg]at hgd
  cases hgd
  obtain rfl:=Rep.uniq r0 r0'
  obtain⟨arr,e,q1,q2⟩:=hat.seg (fun q hq=>by cases hq) _ rfl
  have hl:=r0.len
  have hpos:=jf1 hc.1
  have hlen:off+cs'.length≤arr.toList.length:=by
   rw[q2]at hl ⊢
   simp only[List.length_take,List.length_drop]at hl ⊢
   omega
  have hsg:arr.toList=arr.toList.take off++cs'++arr.toList.drop (off+cs'.length):=by
   rw[hl]
   conv=>rhs;rw[q2]
   exact seg_eq.symm
  obtain⟨hinv,hget,hN⟩:=h.takeSlot hr.1
  have nd:=h.nd s
  have hsubG:∀b∈(F1++F2)++(F0++E),b∈own s++E:=by
   intro b hb
   rw[hown]
   simp only[List.mem_append]at hb ⊢
   rcases hb with(hb|hb)|hb|hb<;>simp[hb]
  have ndG:((F1++F2)++(F0++E)).Nodup:=by
   have h0:=hinv.ndE
   rw[hown]at h0
   refine List.Perm.nodup ?_ h0
   rw[List.append_assoc,List.append_assoc,List.append_assoc]
   refine List.Perm.append_left F1 ?_
   rw[←List.append_assoc,←List.append_assoc]
   exact List.Perm.append_right E List.perm_append_comm
  have hh2:=hinv.hand hsubG ndG
  have hN2:∀b,NB c own E w b→NB c (fun i=>if i=s then [] else own i) ((F1++F2)++(F0++E)) w b:=fun b hb=>(hN b hb).hand hsubG
  have hnew:Rep w (NB c (fun i=>if i=s then [] else own i) ((F1++F2)++(F0++E)) w) n.1 n.2.1 n.2.2 cs (F1++F2):=by
   have:=hfin w (NB c (fun i=>if i=s then [] else own i) ((F1++F2)++(F0++E)) w) [] arr arr e e cs' cs q1 q1 hsg hlen hl ⟨⟨hl,r0.one⟩,rfl⟩ (fun _ _ _=>rfl) (fun c' hc'=>⟨hN2 c' hc',rfl⟩) (fun q hq=>by cases hq) (fun _=>rfl) (fun q hq=>by cases hq)
   simpa using this
  obtain⟨own2,h2,hN3⟩:=Inv.put (F:=F1++F2) (E:=F0++E) (v := .val n.1 n.2.1 n.2.2) (value:=Act.at_ a s) s hh2 (.inl ⟨cs,setD_holds (by simp) hset hh,hnew⟩) (fun u hu=>(h.fixed s u hu).symm)
  rw[jb3]at h2
  exact⟨own2,F0,_,nt,nf,nx,hk,h.realias hr.1 h2,.inl ⟨cs',hnm,r0.mono (fun b hb=>⟨hN3 b (hN2 b hb),rfl⟩) fun _ _=>rfl⟩,fun b hb=>hN3 b (hN2 b hb)⟩
 ·cases hk
end
end Go.Gx
