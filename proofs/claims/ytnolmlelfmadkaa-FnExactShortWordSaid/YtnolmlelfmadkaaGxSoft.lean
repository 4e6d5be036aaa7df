import Derived.Test.YtnolmlelfmadkaaGxClean
set_option linter.unusedSimpArgs false
set_option linter.unusedVariables false
namespace Go.Gx
open Go
def clr (Q:List Nat) (st:St):St:=Q.foldl (fun s q=>s.set q .u) st
def NoRef (PV:List Nat) (st:St):Prop:=∀q∈PV,∀i,¬(st.get i).names q
theorem jbq:∀(Q:List Nat) (st:St),(clr Q st).length=st.length
 | [],_=>rfl
 | q::Q,st=>by
  simp only[clr,List.foldl_cons]
  have:=jbq Q (st.set q .u)
  simp only[clr,List.length_set]at this
  exact this
theorem jjq (st:St) (q i:Nat):St.get (st.set q .u) i=if i=q then .u else st.get i:=by
 rw[qg]
 by_cases h:i=q
 ·subst h
  by_cases h2:i<st.length
  ·simp[h2]
  ·simp only[h2,and_false,if_false,if_true]
   exact qe st i (by omega)
 ·simp[h]
theorem qn:∀(Q:List Nat) (st:St) (i:Nat),St.get (clr Q st) i=if i∈Q then .u else st.get i
 | [],st,i=>by simp[clr]
 | q::Q,st,i=>by
  have:clr (q::Q) st=clr Q (st.set q .u):=rfl
  rw[this,qn Q,jjq]
  by_cases h:i∈Q
  ·simp[h]
  ·by_cases h2:i=q<;>simp[h,h2]
theorem jaj (Q R:List Nat) (st:St):clr (Q++R) st=clr R (clr Q st):=by simp[clr,List.foldl_append]
theorem jb5 {a b:St}(hl:a.length=b.length) (h:∀i,a.get i=b.get i):a=b:=by
 refine List.ext_getElem? fun i => ?_
 have:=h i
 simp only[St.get,List.getD_eq_getElem?_getD]at this
 by_cases hi:i<a.length
 ·rw[List.getElem?_eq_getElem hi,List.getElem?_eq_getElem (by omega)]at this ⊢
  simpa using this
 ·rw[List.getElem?_eq_none (by omega),List.getElem?_eq_none (by omega)]
theorem jay {PV Q:List Nat}{st:St}(h:NoRef PV st):NoRef PV (clr Q st):=by
 intro q hq i
 rw[qn]
 split
 ·exact fun h=>h
 ·exact h q hq i
theorem ur {q:Nat}{st:St}(h:∀i,¬(st.get i).names q):dropRefs q st=st:=by
 refine jb5 (by simp[dropRefs]) fun i => ?_
 unfold dropRefs
 rw[qy _ _ rfl]
 have:=h i
 cases hv:st.get i with
 | ref r p k=>rw[hv]at this;simp only[V.names]at this;simp only[V.drop,if_neg this]
 | win r a b t=>rw[hv]at this;simp only[V.names]at this;simp only[V.drop,if_neg this]
 | _=>rfl
section
variable {A:Cfg} {st:St} {ρ:Type} {PV:List Nat}
theorem vd {x:Operand}(h:okV PV st x=true):(opd st x).noRef=true∨∃q,x = .tmp q∧q∈PV∧∃t f e,st.get q = .val t f e∧f ≠ .i∧opd st x = .ref q [] .val:=by
 unfold okV at h
 simp only[Bool.or_eq_true]at h
 rcases h with h|h
 ·exact .inl h
 ·right
  cases x with
  | tmp q =>
   simp only[Bool.and_eq_true,List.contains_eq_mem,decide_eq_true_eq]at h
   refine⟨q,rfl,h.1, ?_⟩
   have h2:=h.2
   cases hv:st.get q with
   | val t f e =>
    rw[hv]at h2
    have hf:f ≠ .i:=by rintro rfl;simp[V.isOwner]at h2
    refine⟨t,f,e,rfl,hf, ?_⟩
    simp only[opd,hv]
   | _=>rw[hv]at h2;simp[V.isOwner]at h2
  | _=>simp at h
theorem jg8 {s:Ty}{g:Fl}{x:s.den}{t:Ty}{k:Fl→t.den→Option ρ}{r:ρ}(h:into s g x t k=some r):∃g' y,k g' y=some r∧∀{σ:Type}(k':Fl→t.den→Option σ),into s g x t k'=k' g' y:=by
 unfold into at h
 split at h
 ·rename_i t2 k2
  rw[ul]at h
  obtain⟨y,hy,h⟩:=Option.bind_eq_some_iff.1 h
  refine⟨.i,y,h,fun k' => ?_⟩
  simp only[into]
  rw[ul,hy]
  rfl
 ·rename_i hno
  split at h
  case isFalse=>cases h
  rename_i he
  refine⟨g,_,h,fun k' => ?_⟩
  unfold into
  split
  ·exact(hno _ k rfl HEq.rfl).elim
  ·rw[dif_pos he]
def OAgree (st st2:St) (x:Operand):Prop:=(∀t,x = .tmp t→st2.get t=st.get t)∧VAgree st st2 (opd st x)
theorem OAgree.opd {st2:St}{x:Operand}(h:OAgree st st2 x):opd st2 x=opd st x:=jbl h.1
theorem vw {x:Operand}{t:Ty}{f:Fl}{k:St→Fl→t.den→Option ρ}{r:ρ}(hok:okV PV st x=true) (hn:NoRef PV st) (h:consumeAs st (opd st x) t f k=some r) :
  ∃Q g y,(∀q∈Q,q∈PV∧x = .tmp q)∧k (clr Q st) g y=some r∧∀{σ:Type} (k':St→Fl→t.den→Option σ) (st2:St),OAgree st st2 x→NoRef PV st2→consumeAs st2 (opd st2 x) t f k'=k' (clr Q st2) g y:=by
 unfold consumeAs at h
 split at h
 ·rename_i hf
  obtain⟨e,h,hd⟩:=jap h
  refine⟨[],.i,e,by simp,h,fun k' st2 ha _ => ?_⟩
  rw[ha.opd]
  unfold consumeAs
  rw[if_pos hf,hd _ st2 ha.2]
  rfl
 ·rename_i hf
  split at h
  ·rename_i hv
   unfold emptyOf at h
   split at h
   ·rename_i t2 k2
    refine⟨[],f,[],by simp,h,fun k' st2 ha _ => ?_⟩
    rw[ha.opd,hv]
    unfold consumeAs
    rw[if_neg hf]
    rfl
   ·rename_i t2 k2
    refine⟨[],f,none,by simp,h,fun k' st2 ha _ => ?_⟩
    rw[ha.opd,hv]
    unfold consumeAs
    rw[if_neg hf]
    rfl
   ·cases h
  ·rename_i hv
   unfold noneOf at h
   split at h
   ·rename_i t2 k2
    refine⟨[],.i,none,by simp,h,fun k' st2 ha _ => ?_⟩
    rw[ha.opd,hv]
    unfold consumeAs
    rw[if_neg hf]
    rfl
   ·cases h
  ·rename_i hv1 hv2
   rcases vd hok with hnr|⟨q,rfl,hq,τ,g,e,hg,hgi,hopd⟩
   ·cases hv:opd st x with
    | val τ g e =>
     rw[hv]at h
     simp only[consume]at h
     obtain⟨g',y,h,hd⟩:=jg8 h
     refine⟨[],g',y,by simp,h,fun k' st2 ha _ => ?_⟩
     rw[ha.opd,hv]
     unfold consumeAs
     rw[if_neg hf]
     simp only[consume]
     exact hd _
    | u=>rw[hv]at h;simp[consume]at h
    | nilS=>exact absurd hv hv1
    | nilP=>exact absurd hv hv2
    | ref _ _ _=>rw[hv]at hnr;simp[V.noRef]at hnr
    | win _ _ _ _=>rw[hv]at hnr;simp[V.noRef]at hnr
   ·rw[hopd]at h
    simp only[consume,hg]at h
    obtain⟨g',y,h,hd⟩:=jg8 h
    have e1:(dropRefs q st).set q .u=clr [q] st:=by rw[ur (hn q hq)];rfl
    rw[e1]at h
    refine⟨[q],g',y,fun q' hq'=>by simp at hq';subst hq';exact⟨hq,rfl⟩,h,fun k' st2 ha hn2 => ?_⟩
    rw[ha.opd,hopd]
    unfold consumeAs
    rw[if_neg hf]
    simp only[consume,ha.1 q rfl,hg]
    rw[ur (hn2 q hq)]
    exact hd _
theorem jcm {t:Ty}{f:Fl}{k:St→Fl→t.den→Option ρ}:consumeAs st .u t f k=none:=by
 unfold consumeAs
 split<;>rfl
theorem jfh {Q:List Nat}{x:Operand}(h:okV PV st x=true∨opd st x = .u):okV PV (clr Q st) x=true∨opd (clr Q st) x = .u:=by
 cases x with
 | tmp t =>
  by_cases ht:t∈Q
  ·right;simp only[opd,qn,ht,if_true]
  ·have e:St.get (clr Q st) t=st.get t:=by rw[qn,if_neg ht]
   have eo:opd (clr Q st) (.tmp t)=opd st (.tmp t):=by simp only[opd,e]
   unfold okV at *
   rw[eo]
   simp only[e]
   exact h
 | _=>exact h
theorem vc {Q:List Nat}{st2:St}{x:Operand}(h:OAgree st st2 x):OAgree (clr Q st) (clr Q st2) x:=by
 refine⟨fun t ht => ?_, ?_⟩
 ·rw[qn,qn,h.1 t ht]
 ·have key:opd (Gx.clr Q st) x=opd st x∨opd (Gx.clr Q st) x = .u:=by
   cases x with
   | tmp t =>
    by_cases ht:t∈Q
    ·right;simp only[Gx.opd,qn,ht,if_true]
    ·left;simp only[Gx.opd,qn,ht,if_false]
   | _=>exact .inl rfl
  rcases key with key|key
  ·rw[key]
   have h2:=h.2
   cases hv:opd st x with
   | ref s p k=>rw[hv]at h2;simp only[VAgree]at h2 ⊢;rw[qn,qn,h2]
   | win s a b t=>rw[hv]at h2;simp only[VAgree]at h2 ⊢;rw[qn,qn,h2]
   | _=>trivial
  ·rw[key];trivial
theorem je5 {t:Ty}{f:Fl}:∀{ps:List (Nat×Operand)}{st:St}{n:Nat}{k:St→List Fl→List t.den→Option ρ}{r:ρ},(∀p∈ps,okV PV st p.2=true∨opd st p.2 = .u)→NoRef PV st→partsK t f st ps n k=some r →
  ∃Q gs xs,(∀q∈Q,q∈PV∧∃p∈ps,p.2 = .tmp q)∧k (clr Q st) gs xs=some r∧∀{σ:Type} (k':St→List Fl→List t.den→Option σ) (st2:St),(∀p∈ps,OAgree st st2 p.2)→NoRef PV st2→partsK t f st2 ps n k'=k' (clr Q st2) gs xs
 | [],st,n,k,r,_,_,h=>by
  simp only[partsK]at h
  exact⟨[],_,_,by simp,h,fun k' st2 _ _=>rfl⟩
 | (i,o)::ps,st,n,k,r,hok,hn,h=>by
  simp only[partsK]at h
  split at h
  case isFalse=>cases h
  rename_i hi
  have ho:okV PV st o=true:=by
   rcases hok (i,o) List.mem_cons_self with h'|h'
   ·exact h'
   ·simp only at h';rw[h',jcm]at h;cases h
  obtain⟨Q,g,y,hQ,h,hd⟩:=vw ho hn h
  obtain⟨Q2,gs,xs,hQ2,h,hd2⟩:=je5 (fun p hp=>jfh (hok p (List.mem_cons_of_mem _ hp))) (jay hn) h
  refine⟨Q++Q2,g::gs,y::xs,fun q hq => ?_,by rw[jaj];exact h,fun k' st2 ha hn2 => ?_⟩
  ·rcases List.mem_append.1 hq with hq|hq
   ·exact⟨(hQ q hq).1,(i,o),List.mem_cons_self,(hQ q hq).2⟩
   ·obtain⟨h1,p,hp,h2⟩:=hQ2 q hq
    exact⟨h1,p,List.mem_cons_of_mem _ hp,h2⟩
  ·simp only[partsK,if_pos hi]
   rw[hd _ st2 (ha (i,o) List.mem_cons_self) hn2,hd2 _ _ (fun p hp=>vc (ha p (List.mem_cons_of_mem _ hp))) (jay hn2),jaj]
theorem jaq:∀{ts:List (Ty×Fl)}{ps:List (Nat×Operand)}{st:St}{n:Nat}{k:St→(t:Ty)→Fl→t.den→Option ρ}{r:ρ},(∀p∈ps,okV PV st p.2=true∨opd st p.2 = .u)→NoRef PV st→fieldsK st ps ts n k=some r →
  ∃Q u g x,(∀q∈Q,q∈PV∧∃p∈ps,p.2 = .tmp q)∧k (clr Q st) u g x=some r∧∀{σ:Type} (k':St→(t:Ty)→Fl→t.den→Option σ) (st2:St),(∀p∈ps,OAgree st st2 p.2)→NoRef PV st2→fieldsK st2 ps ts n k'=k' (clr Q st2) u g x
 | [],[],st,n,k,r,_,_,h=>⟨[],_,_,_,by simp,h,fun k' st2 _ _=>by simp only[fieldsK];rfl⟩
 | [],p::ps,st,n,k,r,_,_,h=>by simp[fieldsK]at h
 | (t,f)::ts,[],st,n,k,r,hok,hn,h=>by
  simp only[fieldsK]at h
  split at h
  case isFalse=>cases h
  rename_i hz
  obtain⟨Q,u,g,x,hQ,h,hd⟩:=jaq hok hn h
  refine⟨Q,_,_,_,hQ,h,fun k' st2 ha hn2 => ?_⟩
  simp only[fieldsK,hz,if_true]
  exact hd _ st2 ha hn2
 | (t,f)::ts,(i,o)::ps,st,n,k,r,hok,hn,h=>by
  simp only[fieldsK]at h
  split at h
  ·rename_i hi
   have ho:okV PV st o=true:=by
    rcases hok (i,o) List.mem_cons_self with h'|h'
    ·exact h'
    ·simp only at h';rw[h',jcm]at h;cases h
   obtain⟨Q,g,y,hQ,h,hd⟩:=vw ho hn h
   obtain⟨Q2,u,g2,x,hQ2,h,hd2⟩:=jaq (fun p hp=>jfh (hok p (List.mem_cons_of_mem _ hp))) (jay hn) h
   refine⟨Q++Q2,_,_,_,fun q hq => ?_,by rw[jaj];exact h,fun k' st2 ha hn2 => ?_⟩
   ·rcases List.mem_append.1 hq with hq|hq
    ·exact⟨(hQ q hq).1,(i,o),List.mem_cons_self,(hQ q hq).2⟩
    ·obtain⟨h1,p,hp,h2⟩:=hQ2 q hq
     exact⟨h1,p,List.mem_cons_of_mem _ hp,h2⟩
   ·simp only[fieldsK,if_pos hi]
    rw[hd _ st2 (ha (i,o) List.mem_cons_self) hn2,hd2 _ _ (fun p hp=>vc (ha p (List.mem_cons_of_mem _ hp))) (jay hn2),jaj]
  ·rename_i hi
   split at h
   case isFalse=>cases h
   rename_i hz
   obtain⟨Q,u,g,x,hQ,h,hd⟩:=jaq hok hn h
   refine⟨Q,_,_,_,hQ,h,fun k' st2 ha hn2 => ?_⟩
   simp only[fieldsK,if_neg hi,hz,if_true]
   exact hd _ st2 ha hn2
theorem jk8 {Q:List Nat}{q:Nat}(h:q∈Q):opd (clr Q st) (.tmp q) = .u:=by simp only[opd,qn,h,if_true]
theorem jjg {x:Operand}{t:Ty}{f:Fl}{k:St→Fl→List t.den→Option ρ}{r:ρ}(hok:okV PV st x=true) (hn:NoRef PV st) (h:baseK st (opd st x) t f k=some r) :
  ∃Q g y,(∀q∈Q,q∈PV∧x = .tmp q)∧k (clr Q st) g y=some r∧∀{σ:Type} (k':St→Fl→List t.den→Option σ) (st2:St),OAgree st st2 x→NoRef PV st2→baseK st2 (opd st2 x) t f k'=k' (clr Q st2) g y:=by
 unfold baseK at h
 split at h
 ·rename_i hv
  refine⟨[],f,[],by simp,h,fun k' st2 ha _ => ?_⟩
  rw[ha.opd,hv]
  rfl
 ·rename_i s p hv
  rcases vd hok with hnr|⟨q,rfl,hq,τ,g,e,hg,hgi,hopd⟩
  ·rw[hv]at hnr;simp[V.noRef]at hnr
  ·rw[hopd]at hv
   injection hv with e1 e2 e3
   subst e1 e2
   simp only[consume,hg]at h
   rw[ur (hn q hq)]at h
   split at h
   case h_2=>cases h
   rename_i τ' g' xs
   split at h
   case isFalse=>cases h
   rename_i he
   refine⟨[q],g',_,fun q' hq'=>by simp at hq';subst hq';exact⟨hq,rfl⟩,h,fun k' st2 ha hn2 => ?_⟩
   rw[ha.opd,hopd]
   simp only[baseK,consume,ha.1 q rfl,hg,ur (hn2 q hq)]
   rw[dif_pos he]
   rfl
 ·rename_i q hi tg hv
  rcases vd hok with hnr|⟨q,rfl,hq,τ,g,e,hg,hgi,hopd⟩
  ·rw[hv]at hnr;simp[V.noRef]at hnr
  ·rw[hopd]at hv;cases hv
 ·cases h
theorem jbi {x:Operand}{t:Ty}{st2:St}(hok:okV PV st x=true):winSrc st2 (opd st x) t=none:=by
 rcases vd hok with hnr|⟨q,rfl,hq,τ,g,e,hg,hgi,hopd⟩
 ·cases hv:opd st x<;>rw[hv]at hnr<;>simp_all [V.noRef,winSrc]
 ·rw[hopd];rfl
theorem jbu {s:V}{x:Operand}{t:Ty}{st2:St}(hok:okV PV st x=true):winMv st2 s (opd st x) t=none:=by
 have hw:∀q a b tt,opd st x ≠ .win q a b tt:=by
  intro q a b tt e
  rcases vd hok with hnr|⟨q',rfl,hq,τ,g,e',hg,hgi,hopd⟩
  ·rw[e]at hnr;simp[V.noRef]at hnr
  ·rw[hopd]at e;cases e
 unfold winMv
 split
 ·rename_i q m tt q2 lo hi tt2 hx
  exact absurd hx (hw _ _ _ _)
 ·rfl
theorem jhx {s x:Operand}{t:Ty}{f:Fl}{k:St→V→Option ρ}{r:ρ}(hs:okV PV st s=true) (hx:okV PV st x=true) (hn:NoRef PV st) (h:appendK st s x t f k=some r) :
  ∃Q v,(∀q∈Q,q∈PV∧(s = .tmp q∨x = .tmp q))∧k (clr Q st) v=some r∧(∀s,¬v.names s)∧∀{σ:Type} (k':St→V→Option σ) (st2:St),OAgree st st2 s→OAgree st st2 x→NoRef PV st2→appendK st2 s x t f k'=k' (clr Q st2) v:=by
 unfold appendK at h
 rw[jbi hx,jbu hx]at h
 dsimp only at h
 obtain⟨Q,g,xs,hQ,h,hd⟩:=jjg hs hn h
 have hx1:okV PV (clr Q st) x=true∨opd (clr Q st) x = .u:=jfh (.inl hx)
 split at h
 ·cases h
 ·rename_i t2 f2 ys hv
  split at h
  case h_2=>cases h
  rename_i t3 ys' _ _
  split at h
  case isFalse=>cases h
  rename_i he
  obtain⟨zs,hz,h⟩:=Option.bind_eq_some_iff.1 h
  refine⟨Q,_,fun q hq=>⟨(hQ q hq).1,.inl (hQ q hq).2⟩,h,fun s hs=>hs.elim,fun k' st2 ha1 ha2 hn2 => ?_⟩
  unfold appendK
  rw[ha2.opd,jbi hx,jbu hx]
  dsimp only
  rw[hd _ st2 ha1 hn2]
  simp only[(vc (Q:=Q) ha2).opd,hv]
  rw[dif_pos he,hz]
  rfl
 ·rename_i hv1 hv2
  split at h
  ·rename_i hf
   obtain⟨t2,f2,e,h,hd2⟩:=jbj h
   split at h
   case h_2=>cases h
   rename_i t3 ys' _ _
   split at h
   case isFalse=>cases h
   rename_i he
   obtain⟨zs,hz,h⟩:=Option.bind_eq_some_iff.1 h
   refine⟨Q,_,fun q hq=>⟨(hQ q hq).1,.inl (hQ q hq).2⟩,h,fun s hs=>hs.elim,fun k' st2 ha1 ha2 hn2 => ?_⟩
   unfold appendK
   rw[ha2.opd,jbi hx,jbu hx]
   dsimp only
   rw[hd _ st2 ha1 hn2]
   have ho:=(vc (Q:=Q) ha2).opd
   split
   ·rename_i hv;rw[ho]at hv;exact absurd hv hv1
   ·rename_i hv;rw[ho]at hv;exact absurd hv (hv2 _ _ _)
   ·rw[ho,if_pos hf,hd2 _ _ (vc (Q:=Q) ha2).2]
    simp only
    rw[dif_pos he,hz]
    rfl
  ·rename_i hf
   have hx2:okV PV (clr Q st) x=true:=by
    rcases hx1 with hx1|hx1
    ·exact hx1
    ·rw[hx1,jcm]at h;cases h
   obtain⟨Q2,g2,ys,hQ2,h,hd2⟩:=vw hx2 (jay hn) h
   split at h
   case h_2=>cases h
   rename_i g3
   obtain⟨zs,hz,h⟩:=Option.bind_eq_some_iff.1 h
   refine⟨Q++Q2,.val (.sl t) (.o (if g3=g then g else .i)) zs,fun q hq => ?_,by rw[jaj];exact h,fun s hs=>hs.elim,fun k' st2 ha1 ha2 hn2 => ?_⟩
   ·rcases List.mem_append.1 hq with hq|hq
    ·exact⟨(hQ q hq).1,.inl (hQ q hq).2⟩
    ·exact⟨(hQ2 q hq).1,.inr (hQ2 q hq).2⟩
   ·unfold appendK
    rw[ha2.opd,jbi hx,jbu hx]
    dsimp only
    rw[hd _ st2 ha1 hn2]
    have ho:=(vc (Q:=Q) ha2).opd
    split
    ·rename_i hv;rw[ho]at hv;exact absurd hv hv1
    ·rename_i hv;rw[ho]at hv;exact absurd hv (hv2 _ _ _)
    ·rw[if_neg hf,hd2 _ _ (vc ha2) (jay hn2)]
     simp only
     rw[hz,jaj]
     rfl
end
end Go.Gx
