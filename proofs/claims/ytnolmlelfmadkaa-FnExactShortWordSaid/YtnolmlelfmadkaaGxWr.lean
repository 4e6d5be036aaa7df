import Derived.Test.YtnolmlelfmadkaaGxSwap
set_option linter.unusedSimpArgs false
set_option linter.unusedVariables false
namespace Go.Gx
open Go
section
variable {A:Cfg} {st:St} {ρ:Type} {PV:List Nat}
theorem jdt:∀{ms:List Nat}{vs:List V}{s:Nat},mutW ms vs=some s→mutSlots ms vs=[s]∧(.ref s [] .val)∈vs∧∀(st:St),takeMut ms vs st=(dropRefs s st).set s .u
 | [],vs,s,h=>by cases vs<;>simp[mutW]at h
 | m::ms,[],s,h=>by simp[mutW]at h
 | 0::ms,v::vs,s,h=>by
  simp only[mutW]at h
  obtain⟨h1,h2,h3⟩:=jdt h
  exact⟨by simpa [mutSlots] using h1,List.mem_cons_of_mem _ h2,fun st=>by simp only[takeMut];exact h3 st⟩
 | 1::ms,v::vs,s,h=>by
  unfold mutW at h
  split at h
  ·rename_i e1 e2
   split at h
   ·cases h
   rename_i hc
   simp only[Bool.or_eq_true,not_or,Bool.not_eq_true,bne_eq_false_iff_eq]at hc
   simp only[Option.some.injEq]at h
   subst h
   simp only[List.cons.injEq]at e1 e2
   obtain⟨_,rfl⟩:=e1
   obtain⟨rfl,rfl⟩:=e2
   have z:∀{ms:List Nat} {vs:List V},ms.any (· != 0)=false→mutSlots ms vs=[]∧∀st,takeMut ms vs st=st:=by
    intro ms
    induction ms with
    | nil=>intro vs _;exact⟨rfl,fun st=>rfl⟩
    | cons m ms ih =>
     intro vs hm
     simp only[List.any_cons,Bool.or_eq_false_iff,bne_eq_false_iff_eq]at hm
     obtain⟨rfl,hm⟩:=hm
     cases vs with
     | nil=>exact⟨rfl,fun st=>rfl⟩
     | cons v vs=>exact⟨by simp only[mutSlots];exact(ih hm).1,fun st=>by simp only[takeMut];exact(ih hm).2 st⟩
   obtain⟨z1,z2⟩:=z (vs:=vs) hc.1
   exact⟨by simp only[mutSlots,z1],List.mem_cons_self,fun st=>by simp only[takeMut];exact z2 _⟩
  ·rename_i e1 e2;simp at e1
  ·cases h
 | (n+2)::ms,v::vs,s,h=>by simp[mutW]at h
theorem jcw:∀{ms:List Nat}{ty:Ty}{fs:List Fl}{vs:List V}{k:ty.den→Option ρ}{r:ρ},argsK st ty ms fs vs k=some r →
  ∃e,k e=some r∧∀{σ:Type} (k':ty.den→Option σ) (st2:St),(∀v∈vs,VAgree st st2 v)→argsK st2 ty ms fs vs k'=k' e
 | [],ty,fs,vs,k,r,h=>by
  cases ty<;>cases vs<;>simp only[argsK,reduceCtorEq]at h
  exact⟨_,h,fun k' st2 _=>rfl⟩
 | 0::ms,ty,fs,vs,k,r,h=>by
  cases ty<;>cases vs<;>simp only[argsK,reduceCtorEq]at h
  rename_i t b v vs
  obtain⟨e,h,hd⟩:=jap h
  obtain⟨e2,h,hd2⟩:=jcw h
  refine⟨(e,e2),h,fun k' st2 ha => ?_⟩
  simp only[argsK]
  rw[hd _ st2 (ha v (by simp)),hd2 _ st2 fun v' hv'=>ha v' (by simp[hv'])]
 | 1::ms,ty,fs,vs,k,r,h=>by
  cases ty<;>cases vs<;>cases fs<;>try (simp[argsK]at h;done)
  rename_i t b v vs f fs
  cases v<;>try (simp[argsK]at h;done)
  rename_i s p kd
  cases kd<;>try (simp[argsK]at h;done)
  simp only[argsK]at h
  split at h
  case h_2=>cases h
  rename_i τ g y hs
  split at h
  case isFalse=>cases h
  rename_i hok
  rw[ja9]at h
  obtain⟨n,hn,h⟩:=Option.bind_eq_some_iff.1 h
  split at h
  case isFalse=>cases h
  rename_i ht
  split at h
  case isFalse=>cases h
  rename_i hf
  obtain⟨e2,h,hd2⟩:=jcw h
  refine⟨_,h,fun k'' st2 ha => ?_⟩
  have hs2:st2.get s = .val τ g y:=by rw[show st2.get s=st.get s from ha (.ref s p .val) (by simp),hs]
  simp only[argsK,hs2,hok,if_true]
  rw[ja9,hn]
  simp only[Option.bind_some]
  rw[dif_pos ht,if_pos hf]
  exact hd2 _ st2 fun v' hv'=>ha v' (by simp[hv'])
 | (n+2)::ms,ty,fs,vs,k,r,h=>by
  cases ty<;>cases vs<;>simp[argsK]at h
theorem ja6 {st0:St}{u:Unit}:∀{ms:List Nat}{vs:List V}{st1:St}{k:St→Option ρ},ms.any (· != 0)=false→ms.length=vs.length→outsK st0 .unit u ms [] vs st1 k=k st1
 | [],[],st1,k,_,_=>by simp only[outsK]
 | m::ms,v::vs,st1,k,hm,hl=>by
  simp only[List.any_cons,Bool.or_eq_false_iff,bne_eq_false_iff_eq]at hm
  obtain⟨rfl,hm⟩:=hm
  simp only[outsK]
  exact ja6 hm (by simpa using hl)
 | [],_::_,_,_,_,hl=>by simp at hl
 | _::_,[],_,_,_,hl=>by simp at hl
theorem jhf {t:Ty}{f:Fl}{st0:St}{x:(Ty.pair t .unit).den}{k:St→Option ρ}{r:ρ}:∀{ms:List Nat}{vs:List V}{s:Nat}{st1:St},mutW ms vs=some s→outsK st0 (.pair t .unit) x ms [f] vs st1 k=some r →
  k (if t = .any 1 then st1 else st1.set s (.val t f x.1))=some r∧∀{σ:Type} (k':St→Option σ) (st02 st12:St),st02.get s=st0.get s→outsK st02 (.pair t .unit) x ms [f] vs st12 k'=k' (if t = .any 1 then st12 else st12.set s (.val t f x.1))
 | [],vs,s,st1,h,hk=>by cases vs<;>simp[mutW]at h
 | m::ms,[],s,st1,h,hk=>by simp[mutW]at h
 | 0::ms,v::vs,s,st1,h,hk=>by
  simp only[mutW]at h
  simp only[outsK]at hk ⊢
  exact jhf h hk
 | 1::ms,v::vs,s,st1,h,hk=>by
  unfold mutW at h
  split at h
  ·rename_i e1 e2
   split at h
   ·cases h
   rename_i hc
   simp only[Bool.or_eq_true,not_or,Bool.not_eq_true,bne_eq_false_iff_eq]at hc
   simp only[Option.some.injEq]at h
   subst h
   simp only[List.cons.injEq]at e1 e2
   obtain⟨_,rfl⟩:=e1
   obtain⟨rfl,rfl⟩:=e2
   by_cases hany:t = .any 1
   ·simp only[outsK,if_pos hany]at hk ⊢
    rw[ja6 hc.1 hc.2]at hk
    exact⟨hk,fun k' st02 st12 _=>ja6 hc.1 hc.2⟩
   simp only[outsK,if_neg hany]at hk ⊢
   split at hk
   case h_2=>cases hk
   rename_i τ g y hs
   split at hk
   case isFalse=>cases hk
   rename_i hok
   simp only[getP,setP]at hk ⊢
   split at hk
   case isFalse=>cases hk
   rename_i ht
   split at hk
   case isFalse=>cases hk
   rename_i hcl
   rw[ja6 hc.1 hc.2]at hk
   refine⟨hk,fun k' st02 st12 h2 => ?_⟩
   rw[h2,hs]
   simp only[hok,if_true,if_pos ht,if_pos hcl]
   exact ja6 hc.1 hc.2
  ·rename_i e1 e2;simp at e1
  ·cases h
 | (n+2)::ms,v::vs,s,st1,h,hk=>by simp[mutW]at h
def V.dropW (nv:V) (s:Nat) (v:V):V:=if nv.isOwner then V.dropIn s v else V.drop s v
def wrS (s:Nat) (nv:V) (st:St):St:=(st.map (V.dropW nv s)).set s nv
theorem jdi {nv:V}{s:Nat}{v:V}(h:nv.isOwner=true):V.dropW nv s v=V.dropIn s v:=by simp[V.dropW,h]
theorem jis {nv:V}{s:Nat}(h:nv.isOwner=true):wrS s nv st=(dropInner s st).set s nv:=by
 unfold wrS dropInner
 rw[show V.dropW nv s=V.dropIn s from funext fun v=>jdi h]
theorem jmy {s:Nat}:wrS s .u st=(dropRefs s st).set s .u:=rfl
theorem jd5 {s:Nat}{nv:V}{i:Nat}(hs:s<st.length):(wrS s nv st).get i=if i=s then nv else V.dropW nv s (st.get i):=by
 unfold wrS
 rw[qg,List.length_map]
 by_cases h:i=s
 ·simp[h,hs]
 ·rw[if_neg (fun e=>h e.1),if_neg h]
  exact qy _ _ (by unfold V.dropW;split<;>rfl) i
theorem jbw {s:Nat}{nv:V}:(wrS s nv st).length=st.length:=by simp[wrS]
theorem jf5 {s:Nat}:realias st [s] ((dropRefs s st).set s .u)=wrS s .u st:=by
 rw[jmy]
 refine jb5 (by unfold realias;simp) fun i => ?_
 unfold realias
 by_cases hi:i<((dropRefs s st).set s .u).length
 ·conv=>lhs;unfold St.get
  rw[List.getD_eq_getElem?_getD,List.getElem?_mapIdx,List.getElem?_eq_getElem hi]
  simp only[Option.map_some,Option.getD_some]
  have:∀j,St.get ((dropRefs s st).set s .u) j=if j=s then .u else V.drop s (st.get j):=by
   intro j
   rw[qg]
   unfold dropRefs
   rw[List.length_map]
   by_cases h:j=s
   ·by_cases hl:s<st.length
    ·simp[h,hl]
    ·rw[if_neg (fun e=>hl e.2),if_pos h,qe _ j (by rw[List.length_map];omega)]
   ·rw[if_neg (fun e=>h e.1),if_neg h]
    exact qy _ _ rfl j
  have e1:((dropRefs s st).set s .u)[i]=St.get ((dropRefs s st).set s .u) i:=by
   unfold St.get
   rw[List.getD_eq_getElem?_getD,List.getElem?_eq_getElem hi];rfl
  rw[e1,this i]
  split
  ·rename_i s' e2 e3
   split
   ·rename_i hc
    simp only[Bool.and_eq_true,List.contains_eq_mem,List.mem_singleton,decide_eq_true_eq]at hc
    obtain⟨rfl,hc⟩:=hc
    rw[show((dropRefs s' st).set s' .u).getD s' V.u=V.u from(this s').trans (if_pos rfl)]at hc
    cases hc
   ·exact e2.symm
  ·rfl
 ·rw[qe _ i (by rw[List.length_mapIdx];omega),qe _ i (by omega)]
theorem je6 {s:Nat}{nv:V}(ho:nv.isOwner=true) (hs:s<st.length) (hso:(st.get s).isOwner=true):realias st [s] ((((dropRefs s st).set s .u)).set s nv)=wrS s nv st:=by
 have e0:(((dropRefs s st).set s .u)).set s nv=(dropRefs s st).set s nv:=by simp
 rw[e0]
 have hget1:∀i,St.get ((dropRefs s st).set s nv) i=if i=s then nv else V.drop s (st.get i):=by
  intro i
  rw[qg]
  unfold dropRefs
  rw[List.length_map]
  by_cases h:i=s
  ·simp[h,hs]
  ·rw[if_neg (fun e=>h e.1),if_neg h]
   exact qy _ _ rfl i
 have hl1:((dropRefs s st).set s nv).length=st.length:=by simp[dropRefs]
 refine jb5 (by rw[jbw];unfold realias;rw[List.length_mapIdx,hl1]) fun i => ?_
 rw[jd5 hs,jdi ho]
 have key:St.get (realias st [s] ((dropRefs s st).set s nv)) i=(match St.get ((dropRefs s st).set s nv) i,st.get i with
   | .u,.ref q [] .val=>if [s].contains q&&(St.get ((dropRefs s st).set s nv) q).isOwner then .ref q [] .val else .u
   | v,_=>v):=by
  by_cases hi:i<st.length
  ·unfold realias
   conv=>lhs;unfold St.get
   rw[List.getD_eq_getElem?_getD,List.getElem?_mapIdx,List.getElem?_eq_getElem (by rw[hl1];exact hi)]
   simp only[Option.map_some,Option.getD_some]
   have:St.get ((dropRefs s st).set s nv) i=((dropRefs s st).set s nv)[i]'(by rw[hl1];exact hi):=by
    unfold St.get
    rw[List.getD_eq_getElem?_getD,List.getElem?_eq_getElem (by rw[hl1];exact hi)];rfl
   rw[this];rfl
  ·rw[qe _ i (by unfold realias;rw[List.length_mapIdx,hl1];omega),qe _ i (by rw[hl1];omega),qe st i (by omega)]
 rw[key,hget1 i]
 by_cases h:i=s
 ·subst h
  simp only[if_true]
  cases nv<;>simp_all [V.isOwner]
 ·rw[if_neg h,if_neg h]
  cases hv:st.get i with
  | ref r p k =>
   by_cases hr:r=s
   ·subst hr
    simp only[V.drop,if_true,V.dropIn]
    cases p with
    | nil =>
     cases k with
     | val =>
      show(if([r].contains r&&(St.get ((dropRefs r st).set r nv) r).isOwner)=true then V.ref r [] .val else V.u)=V.ref r [] .val
      rw[hget1 r,if_pos rfl]
      simp[ho]
     | addr=>rfl
    | cons a p=>rfl
   ·simp only[V.drop,if_neg hr,V.dropIn]
  | win r a b t=>by_cases hr:r=s<;>simp[V.drop,V.dropIn,hr]
  | _=>rfl
theorem jks {f:Nat}{vs:List V}{dst:Option Nat}{k:St→Option ρ}{r:ρ}{S:Sig}{s:Nat}(hS:A.sig f=some S) (h1:S.md.any (· != 0)=true) (h2:((closed S.r S.rf&&mutClosed S.m S.mf)||(readVs S.md vs).all V.noRef)=true) (h4:oneM S=true) (h5:mutW S.md vs=some s)
  (hso:(st.get s).isOwner=true) (h:callK A f vs dst st k=some r) :
  ∃nv v,(nv.isOwner=true∨nv = .u∧conB S=true)∧k ((wrS s nv st).putO dst v)=some r∧(∀q,¬v.names q) ∧
   ∀{σ:Type} (k':St→Option σ) (st2:St),(∀v∈vs,VAgree st st2 v)→callK A f vs dst st2 k'=k' ((wrS s nv st2).putO dst v):=by
 obtain⟨m1,m2,m3⟩:=jdt h5
 have len:∀{st2:St},(st2.get s).isOwner=true→s<st2.length:=fun {st2} ho=>by
  by_cases hl:s<st2.length
  ·exact hl
  ·rw[qe st2 s (by omega)]at ho;cases ho
 obtain⟨Sa,md,mf,m,Sr,rf,Sf⟩:=S
 simp only at h1 h2 h5 m1 m3
 unfold oneM at h4
 simp only at h4
 split at h4
 case h_2=>cases h4
 rename_i t fl
 simp only[decide_eq_true_eq]at h4
 unfold callK at h
 rw[hS]at h
 simp only[h1,if_true,h2,Bool.and_true,m1,m3]at h
 split at h
 case isFalse=>cases h
 rename_i hsep
 obtain⟨x,h,hd⟩:=jcw h
 obtain⟨rr,hr,h⟩:=Option.bind_eq_some_iff.1 h
 obtain⟨h,hd2⟩:=jhf h5 h
 by_cases hany:t = .any 1
 ·rw[if_pos hany,jf5]at h
  refine⟨_,_,.inr ⟨rfl,by simp[conB,hany]⟩,h,fun q hq=>hq,fun k' st2 ha => ?_⟩
  have hs2:st2.get s=st.get s:=ha _ m2
  unfold callK
  rw[hS]
  simp only[h1,if_true,h2,Bool.and_true,m1,m3]
  rw[if_pos hsep,hd _ st2 ha,hr]
  simp only[Option.bind_some]
  rw[hd2 _ st2 _ hs2,if_pos hany,jf5]
 have ho:(V.val t fl rr.2.1).isOwner=true:=by cases fl<;>simp_all [V.isOwner]
 rw[if_neg hany,je6 ho (len hso) hso]at h
 refine⟨_,_,.inl ho,h,fun q hq=>hq,fun k' st2 ha => ?_⟩
 have hs2:st2.get s=st.get s:=ha _ m2
 unfold callK
 rw[hS]
 simp only[h1,if_true,h2,Bool.and_true,m1,m3]
 rw[if_pos hsep,hd _ st2 ha,hr]
 simp only[Option.bind_some]
 rw[hd2 _ st2 _ hs2,if_neg hany,je6 ho (len (by rw[hs2];exact hso)) (by rw[hs2];exact hso)]
def V.plainOf:V→V
 | .val t _ x => .val t .i x
 | .u => .u | .ref r p k => .ref r p k | .win r a b t => .win r a b t | .nilS => .nilS | .nilP => .nilP
def frzQ:List Nat→St→St
 | [],st=>st
 | q::Q,st=>frzQ Q (st.set q (st.get q).plainOf)
theorem jbe:∀{Q:List Nat}{st:St},(frzQ Q st).length=st.length
 | [],_=>rfl
 | q::Q,st=>by simp only[frzQ];rw[jbe,List.length_set]
theorem jhh (v:V):v.plainOf.plainOf=v.plainOf:=by cases v<;>rfl
theorem jdf {v:V}{q:Nat}(h:v.plainOf.names q):v.names q:=by cases v<;>exact h
theorem jgg {q i:Nat}:St.get (st.set q (st.get q).plainOf) i=if i=q then(st.get i).plainOf else st.get i:=by
 rw[qg]
 by_cases h:i=q
 ·subst h
  by_cases hl:i<st.length
  ·rw[if_pos ⟨rfl,hl⟩,if_pos rfl]
  ·rw[if_neg (fun e=>hl e.2),if_pos rfl,qe st i (by omega)];rfl
 ·rw[if_neg (fun e=>h e.1),if_neg h]
theorem uh:∀{Q:List Nat}{st:St}{i:Nat},(frzQ Q st).get i=if i∈Q then(st.get i).plainOf else st.get i
 | [],st,i=>by simp[frzQ]
 | q::Q,st,i=>by
  simp only[frzQ]
  rw[uh,jgg]
  by_cases h1:i∈Q<;>by_cases h2:i=q<;>simp[h1,h2,jhh]
theorem jh7 {q:Nat}{t:Ty}{x:t.den}{v:V}(h:¬v.names q):V.plain q t x v=v:=by
 cases v with
 | ref r p k=>simp only[V.names]at h;simp only[V.plain,if_neg h]
 | win r a b t'=>simp only[V.names]at h;simp only[V.plain,if_neg h]
 | _=>rfl
theorem jg2 {q:Nat}(h:∀i,¬(st.get i).names q):freeze st q=frzQ [q] st:=by
 unfold freeze
 split
 ·rename_i t f x hv
  simp only[frzQ,hv,V.plainOf]
  congr 1
  refine jb5 (by simp) fun i => ?_
  rw[qy _ _ rfl]
  exact jh7 (h i)
 ·rename_i hv
  refine jb5 (by rw[jbe]) fun i => ?_
  rw[uh]
  split
  ·rename_i hi
   simp only[List.mem_singleton]at hi
   subst hi
   cases hg:st.get i with
   | val t f x=>exact absurd hg (hv t f x)
   | _=>rfl
  ·rfl
theorem ji5 {Q PV:List Nat}{st:St}(h:NoRef PV st):NoRef PV (frzQ Q st):=by
 intro q hq i
 rw[uh]
 split
 ·exact fun hn=>h q hq i (jdf hn)
 ·exact h q hq i
def readQ (st:St):List Nat→List Operand→List Nat
 | 0::ms,x::xs=>match opd st x with
  | .ref q [] .val=>q::readQ st ms xs
  | _=>readQ st ms xs
 | _::ms,_::xs=>readQ st ms xs
 | _,_=>[]
theorem jfc {v:V}{vs:List V}{st1:St}(h:v.noRef=true):freezeAll st1 (v::vs)=freezeAll st1 vs:=by
 cases v<;>first|rfl|(simp[V.noRef]at h)
theorem ux:∀{ms:List Nat}{xs:List Operand}{st1:St},NoRef PV st1→readsOk PV st ms xs=true→freezeAll st1 (readVs ms (xs.map (opd st)))=frzQ (readQ st ms xs) st1
 | [],xs,st1,_,_=>by cases xs<;>rfl
 | m::ms,[],st1,_,_=>by cases m<;>rfl
 | 0::ms,x::xs,st1,hn,h=>by
  simp only[readsOk,Bool.and_eq_true]at h
  simp only[List.map_cons,readVs,readQ]
  rcases vd h.1 with hnr|⟨q,rfl,hq,τ,g,e,hg,hgi,hopd⟩
  ·rw[jfc hnr,ux hn h.2]
   cases hv:opd st x<;>first|rfl|(rw[hv]at hnr;simp[V.noRef]at hnr)
  ·rw[hopd]
   simp only[freezeAll,frzQ]
   rw[jg2 (hn q hq)]
   exact ux (ji5 hn) h.2
 | (m+1)::ms,x::xs,st1,hn,h=>by
  simp only[readsOk]at h
  simp only[List.map_cons,readVs,readQ]
  exact ux hn h
theorem jdv:∀{ms:List Nat}{xs:List Operand},readsOk PV st ms xs=true→∀q∈readQ st ms xs,q∈PV∧(.tmp q:Operand)∈xs
 | [],xs,_,q,hq=>by cases xs<;>simp[readQ]at hq
 | m::ms,[],_,q,hq=>by cases m<;>simp[readQ]at hq
 | 0::ms,x::xs,h,q,hq=>by
  simp only[readsOk,Bool.and_eq_true]at h
  have ih:=fun hq=>jdv (ms:=ms) (xs:=xs) h.2 q hq
  simp only[readQ]at hq
  rcases vd h.1 with hnr|⟨q',rfl,hq',τ,g,e,hg,hgi,hopd⟩
  ·have:q∈readQ st ms xs:=by
    cases hv:opd st x<;>rw[hv]at hq hnr<;>first|exact hq|(simp[V.noRef]at hnr)
   exact⟨(ih this).1,List.mem_cons_of_mem _ (ih this).2⟩
  ·rw[hopd]at hq
   rcases List.mem_cons.1 hq with rfl|hq
   ·exact⟨hq',List.mem_cons_self⟩
   ·exact⟨(ih hq).1,List.mem_cons_of_mem _ (ih hq).2⟩
 | (m+1)::ms,x::xs,h,q,hq=>by
  simp only[readsOk]at h
  simp only[readQ]at hq
  have:=jdv h q hq
  exact⟨this.1,List.mem_cons_of_mem _ this.2⟩
def opV (t:Nat) (v:V):V:=match v with
 | .val τ f x=>match f with
  | .i => .val τ .i x
  | _ => .ref t [] .val
 | v=>v
theorem jal {t:Nat}:opd st (.tmp t)=opV t (st.get t):=rfl
theorem jfi {Q:List Nat}{t:Nat}:opd (frzQ Q st) (.tmp t)=if t∈Q then opV t (st.get t).plainOf else opV t (st.get t):=by
 rw[jal,uh];split<;>rfl
theorem je4 {t q:Nat}{v:V}(h:(opV t v.plainOf).names q):(opV t v).names q∧v.isOwner=false:=by
 cases v with
 | val τ f x=>exact h.elim
 | _=>exact⟨h,rfl⟩
theorem jjz {Q:List Nat}{x:Operand}(h:(opd st x).noRef=true):(opd (frzQ Q st) x).noRef=true:=by
 cases x with
 | tmp t =>
  rw[jfi]
  rw[jal]at h
  split
  ·cases hv:st.get t with
   | val τ f y=>rfl
   | _=>rw[hv]at h;exact h
  ·exact h
 | _=>exact h
theorem jbf {Q:List Nat}:∀{ms:List Nat}{xs:List Operand},readsOk PV st ms xs=true→(∀q∈readQ st ms xs,q∈Q)→(readVs ms (xs.map (opd (frzQ Q st)))).all V.noRef=true
 | [],xs,_,_=>by cases xs<;>rfl
 | m::ms,[],_,_=>by cases m<;>rfl
 | 0::ms,x::xs,h,hQ=>by
  simp only[readsOk,Bool.and_eq_true]at h
  simp only[List.map_cons,readVs,List.all_cons,Bool.and_eq_true]
  simp only[readQ]at hQ
  rcases vd h.1 with hnr|⟨q,rfl,hq,τ,g,e,hg,hgi,hopd⟩
  ·refine⟨jjz hnr,jbf h.2 fun q hq=>hQ q ?_⟩
   cases hv:opd st x<;>rw[hv]at hnr<;>first|exact hq|(simp[V.noRef]at hnr)
  ·rw[hopd]at hQ
   refine⟨?_,jbf h.2 fun q' hq'=>hQ q' (List.mem_cons_of_mem _ hq')⟩
   simp only[opd]
   rw[uh,if_pos (hQ q List.mem_cons_self),hg]
   simp[V.plainOf,V.noRef]
 | (m+1)::ms,x::xs,h,hQ=>by
  simp only[readsOk]at h
  simp only[readQ]at hQ
  simp only[List.map_cons,readVs]
  exact jbf h hQ
theorem je2 {g g':Operand→V}{s:Nat}:∀{ms:List Nat}{xs:List Operand},mutW ms (xs.map g)=some s→(∀x∈xs,g x = .ref s [] .val→g' x = .ref s [] .val)→mutW ms (xs.map g')=some s
 | [],xs,h,_=>by cases xs<;>simp[mutW]at h
 | m::ms,[],h,_=>by simp[mutW]at h
 | 0::ms,x::xs,h,hg=>by
  simp only[List.map_cons,mutW]at h ⊢
  exact je2 h fun y hy=>hg y (List.mem_cons_of_mem _ hy)
 | 1::ms,x::xs,h,hg=>by
  have hx:g x = .ref s [] .val:=by
   simp only[List.map_cons]at h
   unfold mutW at h
   split at h
   ·rename_i e1 e2
    simp only[List.cons.injEq]at e1 e2
    split at h
    ·cases h
    ·simp only[Option.some.injEq]at h
     subst h
     exact e2.1
   ·rename_i e1 e2;simp at e1
   ·cases h
  have hx':=hg x List.mem_cons_self hx
  simp only[List.map_cons,hx,hx',mutW,List.length_map]at h ⊢
  exact h
 | (n+2)::ms,x::xs,h,_=>by simp[mutW]at h
theorem jl8 {f:Nat}{S:Sig}{xs:List Operand}{s:Nat}(hS:A.sig f=some S) (h1:S.md.any (· != 0)=true) (hr:(closed S.r S.rf&&mutClosed S.m S.mf||readsOk PV st S.md xs)=true) (hm:mutW S.md (xs.map (opd st))=some s) (hs:s ∉ PV) (hn:NoRef PV st) :
  ∃Q,(∀q∈Q,q∈PV∧(.tmp q:Operand)∈xs)∧preK A f (xs.map (opd st)) st=frzQ Q st∧mutW S.md (xs.map (opd (frzQ Q st)))=some s ∧
   ((closed S.r S.rf&&mutClosed S.m S.mf)||(readVs S.md (xs.map (opd (frzQ Q st)))).all V.noRef)=true ∧
   ∀(st2:St),xs.map (opd st2)=xs.map (opd st)→NoRef PV st2→preK A f (xs.map (opd st2)) st2=frzQ Q st2:=by
 by_cases hc:(closed S.r S.rf&&mutClosed S.m S.mf)=true
 ·exact⟨[],by simp,by unfold preK;rw[hS];simp[hc];rfl,hm,by rw[hc];rfl,fun st2 _ _=>by unfold preK;rw[hS];simp[hc];rfl⟩
 ·have hc':(closed S.r S.rf&&mutClosed S.m S.mf)=false:=by simpa using hc
  rw[hc',Bool.false_or]at hr
  have hmem:=jdv hr
  refine⟨readQ st S.md xs,hmem, ?_, ?_, ?_,fun st2 he hn2 => ?_⟩
  ·unfold preK
   rw[hS]
   simp only[h1,hc',Bool.not_false,Bool.and_self,if_true]
   exact ux hn hr
  ·refine je2 hm fun x hx hv => ?_
   cases x with
   | tmp t =>
    rw[jfi]
    rw[jal]at hv
    split
    ·rename_i hq
     cases hg:st.get t with
     | val τ f y =>
      rw[hg]at hv
      cases f with
      | i=>cases hv
      | _=>injection hv with e;rw[←e]at hs;exact absurd (hmem t hq).1 hs
     | _=>rw[hg]at hv;exact hv
    ·exact hv
   | _=>exact hv
  ·rw[jbf hr fun q hq=>hq,Bool.or_true]
  ·unfold preK
   rw[hS]
   simp only[h1,hc',Bool.not_false,Bool.and_self,if_true]
   rw[he]
   exact ux hn2 hr
theorem jkf {T s:Nat}{a v:Operand}{p:List Stp}{k:St→Option ρ}{r:ρ}(hok:okV PV st v=true) (hn:NoRef PV st) (hs:s ∉ PV) (ha:asAddr st (opd st a)=some (s,p)) (h:storeK A T st a v k=some r) :
  ∃Q nv,(∀q∈Q,q∈PV∧v = .tmp q)∧nv.isOwner=true∧k (wrS s nv (clr Q st))=some r ∧
   ∀{σ:Type} (k':St→Option σ) (st2:St),OAgree st st2 v→OAgree st st2 a→NoRef PV st2→storeK A T st2 a v k'=k' (wrS s nv (clr Q st2)):=by
 unfold storeK at h
 split at h
 case h_2=>cases h
 rename_i t f hT
 obtain⟨Q,g,y,hQ,h,hd⟩:=vw hok hn h
 split at h
 case h_2=>cases h
 rename_i s' p' ha'
 have hsQ:s ∉ Q:=fun hm=>hs (hQ s hm).1
 have hss:s'=s:=by
  cases a with
  | tmp x =>
   by_cases hx:x∈Q
   ·rw[jk8 hx]at ha';simp[asAddr]at ha'
   ·have e:opd (clr Q st) (.tmp x)=opd st (.tmp x):=by rw[jal,jal,qn,if_neg hx]
    rw[e]at ha'
    have e2:asAddr (clr Q st) (opd st (.tmp x))=asAddr st (opd st (.tmp x)):=by
     cases hv:opd st (.tmp x) with
     | ref q p k =>
      rw[hv]at ha
      cases k with
      | addr=>rfl
      | val =>
       cases p with
       | cons _ _=>rfl
       | nil =>
        simp only[asAddr]at ha ⊢
        have hq:q=s:=by
         split at ha
         ·simp only[Option.some.injEq,Prod.mk.injEq]at ha;exact ha.1
         ·cases ha
        rw[qn,if_neg (hq▸hsQ)]
     | _=>rfl
    rw[e2,ha]at ha'
    simp only[Option.some.injEq,Prod.mk.injEq]at ha'
    exact ha'.1.symm
  | const c=>simp only[opd]at ha;cases c<;>simp only[constV]at ha<;>first|(simp[asAddr]at ha;done)|(split at ha<;>simp[asAddr]at ha)
  | global g=>simp[opd,asAddr]at ha
  | func f=>simp[opd,asAddr]at ha
 subst hss
 split at h
 case h_2=>cases h
 rename_i τ h' z hz
 rw[vn]at h
 obtain⟨n,hnd,h⟩:=Option.bind_eq_some_iff.1 h
 split at h
 case isFalse=>cases h
 rename_i hcond
 simp only[Bool.and_eq_true]at hcond
 refine⟨Q,.val n.1 n.2.1 n.2.2,hQ,hcond.1,by rw[jis hcond.1];exact h,fun k' st2 hv2 ha2 hn2 => ?_⟩
 rw[jis hcond.1]
 unfold storeK
 rw[hT]
 simp only
 rw[hd _ st2 hv2 hn2]
 have hoa:=vc (Q:=Q) ha2
 rw[hoa.opd,jae hoa.2,ha']
 have hz2:(clr Q st2).get s'=(clr Q st).get s':=by
  have:=hoa.2
  cases hv:opd (clr Q st) a with
  | ref q p k =>
   rw[hv]at this ha'
   simp only[VAgree]at this
   have hq:q=s':=by
    cases k with
    | addr=>simp only[asAddr,Option.some.injEq,Prod.mk.injEq]at ha';exact ha'.1
    | val =>
     cases p with
     | cons _ _=>simp[asAddr]at ha'
     | nil =>
      simp only[asAddr]at ha'
      split at ha'
      ·simp only[Option.some.injEq,Prod.mk.injEq]at ha';exact ha'.1
      ·cases ha'
   rw[←hq];exact this
  | _=>rw[hv]at ha';simp[asAddr]at ha'
 simp only
 rw[hz2,hz]
 simp only
 rw[vn,hnd]
 simp only[Option.bind_some,hcond.1,hcond.2,Bool.and_self,if_true]
end
end Go.Gx
