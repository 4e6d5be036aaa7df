import Derived.Test.YtnolmlelfmadkaaGxMem3
set_option linter.unusedSimpArgs false
set_option linter.unusedVariables false
namespace Go.Gx
open Go
section
variable {P:Program} {A:Cfg} {c:Ctx} {own:Nat→List Nat} {st:St} {a:Act} {w:World} {ρ:Type}
def ArgsR (w:World) (N:Nat→Prop):(m:Ty)→List Nat→List Fl→m.den→List Value→List Nat→Prop
 | .unit,[],_,_,[],M=>M=[]
 | .pair t b,0::ms,fs,x,v::vs,M=>RepS w N t .i x.1 v []∧ArgsR w N b ms fs x.2 vs M
 | .pair t b,1::ms,f::fs,x,v::vs,M=>∃M1 M2,M=M1++M2∧RepS w N t f x.1 v M1∧ArgsR w N b ms fs x.2 vs M2
 | _,_,_,_,_,_=>False
def MutsR (w:World) (N:Nat→Prop):(m:Ty)→List Nat→List Fl→m.den→List Value→List Nat→Prop
 | m,0::ms,fs,y,_::vs,M=>MutsR w N m ms fs y vs M
 | .unit,[],_,_,[],M=>M=[]
 | .pair t b,1::ms,f::fs,y,v::vs,M=>∃M1 M2,M=M1++M2∧RepS w N t f y.1 v M1∧MutsR w N b ms fs y.2 vs M2
 | _,_,_,_,_,_=>False
def Left (S:Sig) (w:World) (N:Nat→Prop) (args:List Value) (M:List Nat) (r:S.r.den×S.m.den) (v:Value) (w':World):Prop :=
 ∃F M',(F++M').Nodup∧RepV w' (fun b=>b<w'.heap.size∧b ∉ F∧b ∉ M'∧(b<w.heap.size→N b∨b∈M)) S.r S.rf r.1 v F ∧
  MutsR w' (fun b=>b<w'.heap.size∧b ∉ F∧b ∉ M'∧(b<w.heap.size→N b∨b∈M)) S.m S.md S.mf r.2 args M'∧(∀b∈F++M',b∈M∨w.heap.size≤b)∧(∀b∈F++M',b<w'.heap.size) ∧
  (∀b,b<w.heap.size→b ∉ M→w'.heap[b]? = w.heap[b]?)∧w.heap.size≤w'.heap.size∧w'.os=w.os∧w'.tape=w.tape∧w'.output=w.output∧True
def Good (P:Program) (f:FuncId) (S:Sig):Prop :=
 ∀x r,S.f x=some r→∀(w:World) (N:Nat→Prop) (args:Array Value) (M:List Nat),ArgsR w N S.a S.md S.mf x args.toList M→M.Nodup→(∀b∈M,¬N b∧b<w.heap.size)→(∀b,N b→b<w.heap.size) →
  Calls P f args w fun e w'=>match e with
   | .returned v=>Left S w N args.toList M r v w'
   | _=>False
theorem Rep.shut {N N2:Nat→Prop}:∀{t:Ty}{f:Fl}{x:t.den}{cs:List Value}{F:List Nat},closed t f=true→Rep w N t f x cs F→Rep w N2 t f x cs F
 | .int _,_,_,_,_,_,h=>h
 | .bool,_,_,_,_,_,h=>h
 | .str,_,_,_,_,_,h=>h
 | .unit,_,_,_,_,_,h=>h
 | .any _,_,_,_,_,_,h=>h
 | .tup _,_,_,_,_,_,h=>h.elim
 | .clo _ _ _,_,_,_,_,hc,_=>by simp[closed]at hc
 | .opt t,.o g,x,cs,F,hc,h=>by
  simp only[closed,Fl.isO,Bool.true_and]at hc
  simp only[Rep]at h ⊢
  split at h
  ·exact h
  ·obtain⟨b,arr,e,G,h1,h2,h3,h4⟩:=h
   exact⟨b,arr,e,G,h1,h2,h3,Rep.shut hc h4⟩
 | .opt t,.i,_,_,_,hc,_=>by simp[closed,Fl.isO]at hc
 | .opt t,.p _ _,_,_,_,hc,_=>by simp[closed,Fl.isO]at hc
 | .ns t,.o g,x,cs,F,hc,h=>by
  simp only[closed,Fl.isO,Bool.true_and]at hc
  simp only[Rep]at h ⊢
  split at h
  ·exact h
  ·obtain⟨hne,b,cap,arr,e,G,h1,h2,h3,h4,h5,h6,h7⟩:=h
   exact⟨hne,b,cap,arr,e,G,h1,h2,h3,h4,h5,h6,h7.mono fun x ds G' _ hr=>Rep.shut hc hr⟩
 | .ns t,.i,_,_,_,hc,_=>by simp[closed,Fl.isO]at hc
 | .ns t,.p _ _,_,_,_,hc,_=>by simp[closed,Fl.isO]at hc
 | .map _ _,.o _,_,_,_,_,h=>by simpa only [Rep] using h
 | .map _ _,.i,_,_,_,hc,_=>by simp[closed,Fl.isO]at hc
 | .map _ _,.p _ _,_,_,_,hc,_=>by simp[closed,Fl.isO]at hc
 | .sl t,.o g,x,cs,F,hc,h=>by
  simp only[closed,Fl.isO,Bool.true_and]at hc
  simp only[Rep]at h ⊢
  rcases h with h|⟨b,cap,arr,e,G,h1,h2,h3,h4,h5,h6,h7⟩
  ·exact .inl h
  ·exact .inr ⟨b,cap,arr,e,G,h1,h2,h3,h4,h5,h6,h7.mono fun x ds G' _ hr=>Rep.shut hc hr⟩
 | .sl t,.i,_,_,_,hc,_=>by simp[closed,Fl.isO]at hc
 | .sl t,.p _ _,_,_,_,hc,_=>by simp[closed,Fl.isO]at hc
 | .ptr t,.o g,x,cs,F,hc,h=>by
  simp only[closed,Fl.isO,Bool.true_and]at hc
  simp only[Rep]at h ⊢
  obtain⟨b,arr,e,G,h1,h2,h3,h4⟩:=h
  exact⟨b,arr,e,G,h1,h2,h3,Rep.shut hc h4⟩
 | .ptr t,.i,_,_,_,hc,_=>by simp[closed,Fl.isO]at hc
 | .ptr t,.p _ _,_,_,_,hc,_=>by simp[closed,Fl.isO]at hc
 | .pair a b,f,x,cs,F,hc,h=>by
  simp only[closed,Bool.and_eq_true]at hc
  simp only[Rep]at h ⊢
  obtain⟨F1,F2,e,hl,h1,h2⟩:=h
  exact⟨F1,F2,e,hl,Rep.shut hc.1 h1,Rep.shut hc.2 h2⟩
theorem RepT.shut {N N2:Nat→Prop}:∀{u:Ty}{f:Fl}{x:u.den}{vs:List Value}{F:List Nat},closed u f=true→RepT w N u f x vs F→RepT w N2 u f x vs F
 | .unit,_,_,_,_,_,h=>h
 | .pair a b,f,_,_,_,hc,⟨v,vs',F1,F2,h1,h2,⟨cs,hh,h3⟩,h4⟩=>by
  simp only[closed,Bool.and_eq_true]at hc
  exact⟨v,vs',F1,F2,h1,h2,⟨cs,hh,h3.shut hc.1⟩,RepT.shut hc.2 h4⟩
 | .int _,_,_,_,_,_,h=>h.elim
 | .bool,_,_,_,_,_,h=>h.elim
 | .str,_,_,_,_,_,h=>h.elim
 | .any _,_,_,_,_,_,h=>h.elim
 | .sl _,_,_,_,_,_,h=>h.elim
 | .ptr _,_,_,_,_,_,h=>h.elim
 | .opt _,_,_,_,_,_,h=>h.elim
 | .ns _,_,_,_,_,_,h=>h.elim
 | .map _ _,_,_,_,_,_,h=>h.elim
 | .tup _,_,_,_,_,_,h=>h.elim
 | .clo _ _ _,_,_,_,_,_,h=>h.elim
theorem RepV.shut {N N2:Nat→Prop}{t:Ty}{f:Fl}{x:t.den}{v:Value}{F:List Nat}(hc:closed t f=true) (h:RepV w N t f x v F):RepV w N2 t f x v F:=by
 rcases h with⟨cs,h0,h⟩|⟨u,y,vs,h1,h2,h3,h4⟩
 ·exact .inl ⟨cs,h0,h.shut hc⟩
 ·subst h1
  exact .inr ⟨u,y,vs,rfl,h2,h3,h4.shut hc⟩
def namedBy (vs:List V) (b:Nat) (own:Nat→List Nat):Prop:=∃v∈vs,∃s,v.names s∧b∈own s
theorem jkm {E:List Nat}(h:Inv c own E st a w):∀{ty:Ty}{ms:List Nat}{fs:List Fl}{os:List Operand}{k:ty.den→Option ρ}{r:ρ},ms.any (· != 0)=false →
  argsK st ty ms fs (os.map (opd st)) k=some r →
  ∃x,k x=some r∧∀N2:Nat→Prop,(∀b,NB c own E w b→N2 b)→(∀b,namedBy (os.map (opd st)) b own→N2 b)→ArgsR w N2 ty ms fs x (os.map a.eval) []:=by
 intro ty ms
 induction ms generalizing ty with
 | nil =>
  intro fs os k r _ hk
  cases ty<;>cases os<;>simp only[argsK,List.map_nil,List.map_cons,reduceCtorEq]at hk
  exact⟨_,hk,fun _ _ _=>rfl⟩
 | cons m ms ih =>
  intro fs os k r hm hk
  simp only[List.any_cons,Bool.or_eq_false_iff,bne_eq_false_iff_eq]at hm
  obtain⟨rfl,hm⟩:=hm
  cases ty<;>cases os<;>simp only[argsK,List.map_nil,List.map_cons,reduceCtorEq]at hk
  rename_i t b o os
  obtain⟨x,cs,hk,hx⟩:=ja1 h (jt h o) hk
  obtain⟨y,hk,hy⟩:=ih hm hk
  refine⟨(x,y),hk,fun N2 h1 h2=>⟨⟨cs,hx N2 h1 fun s hs b hb=>h2 b ⟨_,List.mem_cons_self,s,hs,hb⟩⟩,hy N2 h1 fun b ⟨v',hv',s,hs,hb⟩=>h2 b ⟨v',List.mem_cons_of_mem _ hv',s,hs,hb⟩⟩⟩
theorem jbk {E:List Nat}(h:Inv c own E st a w) (s:Nat) :
  ∃own',Inv c own' E (freeze st s) a w∧(∀b,NB c own E w b→NB c own' E w b)∧(∀b∈own s,NB c own' E w b)∧(∀i b,b∈own' i→b∈own i)∧(∀i,i≠s→own' i=own i):=by
 unfold freeze
 split
 case h_2 =>
  rename_i hno
  have hs:=h.slot s
  have h0:own s=[]:=by
   cases hv:st.get s with
   | val t f x=>exact absurd hv (hno _ _ _)
   | u=>rw[hv]at hs;exact hs
   | nilS=>rw[hv]at hs;exact hs.1
   | nilP=>rw[hv]at hs;exact hs.1
   | ref _ _ _=>rw[hv]at hs;exact hs.1
   | win _ _ _ _=>rw[hv]at hs;exact hs.1
  refine⟨own,h,fun _ h=>h, ?_,fun _ _ h=>h,fun _ _=>rfl⟩
  intro b hb;rw[h0]at hb;cases hb
 case h_1 t f x hsv =>
  have hs:s<st.length:=by
   rcases Nat.lt_or_ge s st.length with hlt|hge
   ·exact hlt
   ·rw[qe st s hge]at hsv;cases hsv
  have hget:∀i,St.get ((st.map (V.plain s t x)).set s (.val t .i x)) i=if i=s then .val t .i x else V.plain s t x (st.get i):=by
   intro i
   rw[qg,qy _ _ rfl]
   simp[hs]
  have hN:∀b,NB c own E w b→NB c (fun i=>if i=s then [] else own i) E w b:=by
   intro b hb
   refine⟨hb.1,fun i => ?_,hb.2.2.1,hb.2.2.2⟩
   show b ∉ (if i=s then [] else own i)
   split
   ·simp
   ·exact hb.2.1 i
  have hown:∀b∈own s,NB c (fun i=>if i=s then [] else own i) E w b:=by
   intro b hb
   refine⟨h.lt s b hb,fun i => ?_,h.djE s b hb,fun hlt => ?_⟩
   ·show b ∉ (if i=s then [] else own i)
    split
    ·simp
    ·rename_i hne
     exact fun hb'=>hne (h.dj i s b hb' hb)
   ·rcases h.bnd s b hb with h0|h0
    ·exact c.mn b h0
    ·omega
  have hsl:=h.slot s
  rw[hsv]at hsl
  have hpl:RepV w (NB c (fun i=>if i=s then [] else own i) E w) t .i x (Act.at_ a s) []:=RepV.toPlain hN hsl hown
  refine⟨fun i=>if i=s then [] else own i,⟨?_,h.defers,fun i => ?_,fun i => ?_,h.ndE,fun i j b hb hb' => ?_,fun i b hb => ?_,h.ltE,fun i b hb => ?_,h.bndE,h.frame,h.grow,h.os,h.tape,h.output,h.frozen,h.fixed⟩,hN,hown,fun i b hb => ?_,fun i hi => ?_⟩
  ·simpa using h.size
  ·rw[hget]
   by_cases hi:i=s
   ·subst hi;simp only[if_true];exact hpl
   ·simp only[hi,if_false]
    have hsi:=h.slot i
    cases hv:st.get i with
    | val t' f' x'=>rw[hv]at hsi;exact RepV.mono (fun b hb=>⟨hN b hb,rfl⟩) hsi fun b _=>rfl
    | u=>rw[hv]at hsi;exact hsi
    | nilS=>rw[hv]at hsi;exact hsi
    | nilP=>rw[hv]at hsi;exact hsi
    | win s' lo hi tt =>
     rw[hv]at hsi
     simp only[V.plain]
     by_cases hs':s'=s
     ·subst hs'
      simp only[if_true]
      exact hsi.1
     ·simp only[hs',if_false]
      refine⟨hsi.1,hsi.2.congr ?_ rfl⟩
      rw[hget,if_neg hs']
      have:=hsi.2.owner
      cases hv':st.get s'<;>rw[hv']at this<;>simp_all [V.isOwner,V.plain]
    | ref s' p k =>
     rw[hv]at hsi
     simp only[V.plain]
     by_cases hs':s'=s
     ·subst hs'
      simp only[if_true]
      split
      ·obtain⟨h0,hr⟩:=hsi
       rw[h0]
       show RepV w _ t .i x (Act.at_ a i) []
       obtain⟨_,⟨_,_,e⟩|⟨t1,f1,x1,cs,t',cs',l',e1,e5,e2,e3,e4⟩⟩:=hr
       ·rw[e];exact hpl
       ·rw[hsv]at e1
        cases e1
        simp only[At]at e3
        obtain⟨rfl,rfl,rfl⟩:=e3
        rcases hpl with⟨cs0,g1,g2⟩|⟨u,_,_,g1,_⟩
        ·obtain rfl:=Holds.uniq e5.1 g1 e2
         exact .inl ⟨cs0,e4,g2⟩
        ·subst g1;exact e2.elim
      ·exact hsi.1
     ·simp only[hs',if_false]
      refine⟨hsi.1,hsi.2.congr ?_ rfl⟩
      rw[hget,if_neg hs']
      have:=hsi.2.1
      cases hv':st.get s'<;>rw[hv']at this<;>simp_all [V.isOwner,V.plain]
  ·try simp only
   split
   ·simp
   ·exact h.nd i
  ·try simp only at hb hb'
   split at hb
   ·cases hb
   ·split at hb'
    ·cases hb'
    ·exact h.dj i j b hb hb'
  ·try simp only at hb
   split at hb
   ·cases hb
   ·exact h.djE i b hb
  ·try simp only at hb
   split at hb
   ·cases hb
   ·exact h.bnd i b hb
  ·try simp only at hb
   split at hb
   ·cases hb
   ·exact hb
  ·simp[hi]
theorem uc {E:List Nat}:∀{vs:List V}{own:Nat→List Nat}{st:St},Inv c own E st a w →
  ∃own',Inv c own' E (freezeAll st vs) a w∧(∀b,NB c own E w b→NB c own' E w b)∧(∀b,namedBy vs b own→NB c own' E w b)
 | [],own,st,h=>⟨own,h,fun _ h=>h,fun b ⟨v,hv,_⟩=>by cases hv⟩
 | .ref s p k::vs,own,st,h=>by
  obtain⟨own1,h1,hN1,hs1,hsub,hoth⟩:=jbk h s
  obtain⟨own2,h2,hN2,hs2⟩:=uc (vs:=vs) h1
  refine⟨own2,h2,fun b hb=>hN2 b (hN1 b hb),fun b ⟨v,hv,s',hs',hb⟩ => ?_⟩
  rcases List.mem_cons.1 hv with rfl|hv
  ·simp only[V.names]at hs'
   subst hs'
   exact hN2 b (hs1 b hb)
  ·by_cases e:s'=s
   ·subst e;exact hN2 b (hs1 b hb)
   ·exact hs2 b ⟨v,hv,s',hs',by rw[hoth s' e];exact hb⟩
 | .win s l u t::vs,own,st,h=>by
  obtain⟨own1,h1,hN1,hs1,hsub,hoth⟩:=jbk h s
  obtain⟨own2,h2,hN2,hs2⟩:=uc (vs:=vs) h1
  refine⟨own2,h2,fun b hb=>hN2 b (hN1 b hb),fun b ⟨v,hv,s',hs',hb⟩ => ?_⟩
  rcases List.mem_cons.1 hv with rfl|hv
  ·simp only[V.names]at hs'
   subst hs'
   exact hN2 b (hs1 b hb)
  ·by_cases e:s'=s
   ·subst e;exact hN2 b (hs1 b hb)
   ·exact hs2 b ⟨v,hv,s',hs',by rw[hoth s' e];exact hb⟩
 | .u::vs,own,st,h=>by
  obtain⟨own2,h2,hN2,hs2⟩:=uc (vs:=vs) h
  refine⟨own2,h2,hN2,fun b ⟨v,hv,s',hs',hb⟩ => ?_⟩
  rcases List.mem_cons.1 hv with rfl|hv
  ·exact hs'.elim
  ·exact hs2 b ⟨v,hv,s',hs',hb⟩
 | .val _ _ _::vs,own,st,h=>by
  obtain⟨own2,h2,hN2,hs2⟩:=uc (vs:=vs) h
  refine⟨own2,h2,hN2,fun b ⟨v,hv,s',hs',hb⟩ => ?_⟩
  rcases List.mem_cons.1 hv with rfl|hv
  ·exact hs'.elim
  ·exact hs2 b ⟨v,hv,s',hs',hb⟩
 | .nilS::vs,own,st,h=>by
  obtain⟨own2,h2,hN2,hs2⟩:=uc (vs:=vs) h
  refine⟨own2,h2,hN2,fun b ⟨v,hv,s',hs',hb⟩ => ?_⟩
  rcases List.mem_cons.1 hv with rfl|hv
  ·exact hs'.elim
  ·exact hs2 b ⟨v,hv,s',hs',hb⟩
 | .nilP::vs,own,st,h=>by
  obtain⟨own2,h2,hN2,hs2⟩:=uc (vs:=vs) h
  refine⟨own2,h2,hN2,fun b ⟨v,hv,s',hs',hb⟩ => ?_⟩
  rcases List.mem_cons.1 hv with rfl|hv
  ·exact hs'.elim
  ·exact hs2 b ⟨v,hv,s',hs',hb⟩
structure SigOk (P:Program) (A:Cfg):Prop where
 sig : ∀ f S, A.sig f = some S → (∃ fn, P.funcs[f]? = some fn ∧ fn.body.isNone = false ∧ (fn.name == "runtime.NumGoroutine") = false) ∧ Good P f S
theorem jcq {s:Nat}{l:List Nat}(h:nodupB (s::l)=true):s ∉ l∧nodupB l=true:=by
 simpa [nodupB] using h
def mutRefs:List Nat→List V→List (Nat×List Stp)
 | 1::ms,.ref s p _::vs=>(s,p)::mutRefs ms vs
 | _::ms,_::vs=>mutRefs ms vs
 | _,_=>[]
theorem jgh:∀{ms:List Nat}{vs:List V}{q:Nat×List Stp},q∈mutRefs ms vs→q.1∈mutSlots ms vs:=by
 intro ms
 induction ms with
 | nil=>intro vs q h;cases vs<;>simp[mutRefs]at h
 | cons m ms ih =>
  intro vs q h
  cases vs with
  | nil=>simp[mutRefs]at h
  | cons v vs =>
   by_cases hm:m=1
   ·subst hm
    cases v with
    | ref s p k =>
     simp only[mutRefs,List.mem_cons]at h
     simp only[mutSlots,List.mem_cons]
     rcases h with rfl|h
     ·exact .inl rfl
     ·exact .inr (ih h)
    | _=>simp only[mutRefs]at h;simp only[mutSlots];exact ih h
   ·have e1:mutRefs (m::ms) (v::vs)=mutRefs ms vs:=by
     match m,hm with
     | 0,_=>rfl
     | 1,hm=>exact absurd rfl hm
     | n+2,_=>rfl
    have e2:mutSlots (m::ms) (v::vs)=mutSlots ms vs:=by
     match m,hm with
     | 0,_=>rfl
     | 1,hm=>exact absurd rfl hm
     | n+2,_=>rfl
    rw[e1]at h
    rw[e2]
    exact ih h
def FootOf (w:World) (st:St) (a:Act) (own:Nat→List Nat) (M:List Nat) (s:Nat) (p:List Stp):Prop :=
 ∀τ g y n cs cs' l' N F0,st.get s = .val τ g y→getD τ g y p=some n→(∀m,τ ≠ .any m)→Holds τ (Act.at_ a s) cs→At w τ cs none p n.1 cs' l'→Rep w N n.1 n.2.1 n.2.2 cs' F0→∀b∈own s,(b∈M↔b∈F0)
theorem jkn {E:List Nat}(h:Inv c own E st a w):∀{ms:List Nat}{ty:Ty}{fs:List Fl}{os:List Operand}{k:ty.den→Option ρ}{r:ρ},mutShape ms (os.map (opd st))=true→nodupB (mutSlots ms (os.map (opd st)))=true →
  argsK st ty ms fs (os.map (opd st)) k=some r →
  ∃x M,k x=some r∧M.Nodup∧(∀b∈M,∃s∈mutSlots ms (os.map (opd st)),b∈own s)∧(∀q∈mutRefs ms (os.map (opd st)),FootOf w st a own M q.1 q.2) ∧
   ∀N2:Nat→Prop,(∀b,NB c own E w b→N2 b)→(∀v∈readVs ms (os.map (opd st)),∀s,v.names s→∀b∈own s,N2 b)→ArgsR w N2 ty ms fs x (os.map a.eval) M:=by
 intro ms
 induction ms with
 | nil =>
  intro ty fs os k r _ _ hk
  cases ty<;>cases os<;>simp only[argsK,List.map_nil,List.map_cons,reduceCtorEq]at hk
  exact⟨_,[],hk,by simp,by simp,by simp[mutRefs],fun _ _ _=>rfl⟩
 | cons m ms ih =>
  intro ty fs os k r hsh hnd hk
  match m,os with
  | 0,[]=>cases ty<;>simp only[argsK,List.map_nil,reduceCtorEq]at hk
  | 0,o::os =>
   cases ty<;>simp only[argsK,List.map_cons,reduceCtorEq]at hk
   rename_i t b
   simp only[List.map_cons,mutShape]at hsh
   simp only[List.map_cons,mutSlots]at hnd
   obtain⟨x,cs,hk,hx⟩:=ja1 h (jt h o) hk
   obtain⟨y,M,hk,h1,h2,h3,hy⟩:=ih hsh hnd hk
   refine⟨(x,y),M,hk,h1,by simpa only [List.map_cons,mutSlots] using h2,by simpa only [List.map_cons,mutRefs] using h3,fun N2 n1 n2 => ?_⟩
   simp only[List.map_cons,readVs,List.mem_cons,forall_eq_or_imp]at n2
   exact⟨⟨cs,hx N2 n1 n2.1⟩,hy N2 n1 n2.2⟩
  | 1,[]=>cases ty<;>cases fs<;>simp only[argsK,List.map_nil,reduceCtorEq]at hk
  | 1,o::os =>
   have hv0:=jt h o
   simp only[List.map_cons]at hsh hnd hk ⊢
   generalize hov:opd st o=v at hsh hnd hk hv0
   cases v with
   | ref s p kk =>
    cases kk with
    | addr=>simp[mutShape]at hsh
    | val =>
     cases ty<;>cases fs<;>simp only[argsK,reduceCtorEq]at hk
     rename_i t b f fs
     simp only[mutShape,Bool.and_eq_true]at hsh
     simp only[mutSlots]at hnd
     obtain⟨hs0,hnd⟩:=jcq hnd
     split at hk
     case h_2=>cases hk
     rename_i τ g y hs
     split at hk
     case isFalse=>cases hk
     rename_i hokm
     obtain⟨⟨nt,nf,nx⟩,hg,hk2⟩:=qx hk
     clear hk
     simp only at hk2
     split at hk2
     case isFalse=>cases hk2
     rename_i ht
     subst ht
     split at hk2
     case isFalse=>cases hk2
     rename_i hf
     subst hf
     simp only[cast_eq]at hk2
     have hr:=hv0.ref
     obtain⟨cs,cs',l',hh,hrep,hat,hnm,_,F0,hsub,r0⟩:=jcf h hr hs hg (jcb hokm)
     obtain⟨z,M,hk,h1,h2,h3,hy⟩:=ih hsh.2 hnd hk2
     have hdis:∀b∈own s,b ∉ M:=by
      intro b hb hm
      obtain⟨s',hs',hb'⟩:=h2 b hm
      have:=h.dj s s' b hb hb'
      subst this
      exact hs0 hs'
     refine⟨(nx,z),F0++M,hk, ?_, ?_, ?_,fun N2 n1 n2 => ?_⟩
     ·rw[List.nodup_append]
      exact⟨hsub.nodup (h.nd s),h1,fun a' ha b' hb e=>hdis a' (hsub.subset ha) (e▸hb)⟩
     ·intro b' hb
      simp only[mutSlots,List.mem_cons]
      rcases List.mem_append.1 hb with hb|hb
      ·exact⟨s,.inl rfl,hsub.subset hb⟩
      ·obtain⟨s',hs',hb'⟩:=h2 b' hb
       exact⟨s',.inr hs',hb'⟩
     ·intro q hq
      simp only[mutRefs,List.mem_cons]at hq
      rcases hq with rfl|hq
      ·intro τ2 g2 y2 n2 cs2 cs2' l2' N F2 e1 e2 e6 e3 e4 e5 b' hb
       rw[hs]at e1
       cases e1
       rw[hg]at e2
       cases e2
       obtain rfl:=Holds.uniq e6 hh e3
       obtain⟨_,rfl,_⟩:=At.det hat e4
       rw[List.mem_append,Rep.uniq r0 e5]
       exact⟨fun h=>h.elim id fun h=>absurd h (hdis b' hb),.inl⟩
      ·intro τ2 g2 y2 n2 cs2 cs2' l2' N F2 e1 e2 e6 e3 e4 e5 b' hb
       have:=h3 q hq τ2 g2 y2 n2 cs2 cs2' l2' N F2 e1 e2 e6 e3 e4 e5 b' hb
       rw[List.mem_append,←this]
       refine⟨fun h'=>h'.elim (fun h' => ?_) id,.inr⟩
       have:=h.dj _ _ b' hb (hsub.subset h')
       have hq':=jgh hq
       rw[this]at hq'
       exact absurd hq' hs0
     ·refine⟨F0,M,rfl,⟨cs',hnm,r0.mono (fun b hb=>⟨n1 b hb,rfl⟩) fun _ _=>rfl⟩,hy N2 n1 ?_⟩
      simpa only [readVs] using n2
   | _=>simp[mutShape]at hsh
  | m+2,os=>cases os<;>simp[mutShape]at hsh
theorem jk9 {w':World}{Mall F:List Nat}{Nc:Nat→Prop}(h:Inv c own [] st a w) (hsame:∀b,b<w.heap.size→b ∉ Mall→w'.heap[b]? = w.heap[b]?) (hFM:∀b∈F,b∈Mall∨w.heap.size≤b) (hNM:∀b∈Mall,∃s,b∈own s) :
  ∀{ms:List Nat} {m:Ty} {y:m.den} {fs:List Fl} {os:List Operand} {k:St→Option ρ} {r:ρ} {own1:Nat→List Nat} {E1:List Nat} {st1:St} {M':List Nat},
  mutShape ms (os.map (opd st))=true→nodupB (mutSlots ms (os.map (opd st)))=true→outsK st m y ms fs (os.map (opd st)) st1 k=some r→MutsR w' Nc m ms fs y (os.map a.eval) M' →
  (∀q∈mutRefs ms (os.map (opd st)),FootOf w st a own Mall q.1 q.2)→Inv c own1 E1 st1 a w'→(∀s∈mutSlots ms (os.map (opd st)),st1.get s = .u∧s<st1.length) →
  (∀s∈mutSlots ms (os.map (opd st)),∀b∈own s,b ∉ Mall→b∈E1)→(∀b∈M',b∈E1)→(∀b∈F,b∈E1)→(F++M').Nodup→(∀b∈M',b∈Mall∨w.heap.size≤b) →
  (∀b,NB c own [] w b→NB c own1 E1 w' b)→(mutClosed m fs=true∨∀b,Nc b→NB c own1 E1 w' b)→∃own2 st2,k st2=some r∧Inv c own2 F st2 a w'∧((∀b,Nc b→NB c own1 E1 w' b)→∀b,Nc b→NB c own2 F w' b):=by
 intro ms
 induction ms with
 | nil =>
  intro m y fs os k r own1 E1 st1 M' hsh hnd hk hm hfoot hinv hst hin hM' hF hndF hM2 hNB hNc
  cases os with
  | cons o os=>simp[mutShape]at hsh
  | nil =>
   cases m<;>cases fs<;>simp only[outsK,List.map_nil,reduceCtorEq]at hk
   rw[List.nodup_append]at hndF
   exact⟨own1,st1,hk,hinv.hand hF hndF.1,fun H b hb=>(H b hb).hand hF⟩
 | cons mm ms ih =>
  intro m y fs os k r own1 E1 st1 M' hsh hnd hk hm hfoot hinv hst hin hM' hF hndF hM2 hNB hNc
  match mm,os with
  | 0,[]=>simp[mutShape]at hsh
  | 1,[]=>simp[mutShape]at hsh
  | n+2,os=>cases os<;>simp[mutShape]at hsh
  | 0,o::os =>
   simp only[List.map_cons,mutShape]at hsh
   simp only[List.map_cons,mutSlots]at hnd hst hin
   simp only[List.map_cons,mutRefs]at hfoot
   have hk:outsK st m y ms fs (os.map (opd st)) st1 k=some r:=by cases m<;>simpa only [List.map_cons,outsK] using hk
   have hm:MutsR w' Nc m ms fs y (os.map a.eval) M':=by cases m<;>simpa only [List.map_cons,MutsR] using hm
   exact ih hsh hnd hk hm hfoot hinv hst hin hM' hF hndF hM2 hNB hNc
  | 1,o::os =>
   have hv0:=jt h o
   simp only[List.map_cons]at hsh hnd hk hm hfoot hst hin
   generalize hov:opd st o=v at hsh hnd hk hfoot hst hin hv0
   cases v with
   | ref s p kk =>
    cases kk with
    | addr=>simp[mutShape]at hsh
    | val =>
     cases m<;>cases fs<;>simp only[outsK,reduceCtorEq]at hk
     rename_i t b f fs
     simp only[MutsR]at hm
     simp only[mutShape,Bool.and_eq_true]at hsh
     simp only[mutSlots,List.mem_cons,forall_eq_or_imp]at hnd hst hin
     simp only[mutRefs,List.mem_cons,forall_eq_or_imp]at hfoot
     obtain⟨hs0,hnd⟩:=jcq hnd
     obtain⟨M1,M2,rfl,⟨c2,hc2,hr2⟩,hm⟩:=hm
     by_cases hta:t = .any 1
     ·subst hta
      rw[if_pos rfl]at hk
      have hM1:M1=[]:=hr2.2
      subst hM1
      rw[List.nil_append]at hM' hndF hM2
      refine ih hsh.2 hnd hk hm hfoot.2 hinv hst.2 hin.2 hM' hF hndF hM2 hNB ?_
      rcases hNc with hNc|hNc
      ·simp only[mutClosed,Bool.and_eq_true]at hNc
       exact .inl hNc.2
      ·exact .inr hNc
     rw[if_neg hta]at hk
     split at hk
     case h_2=>cases hk
     rename_i τ g y0 hs
     split at hk
     case isFalse=>cases hk
     rename_i hokm
     obtain⟨⟨nt,nf,nx⟩,hgn,hk3⟩:=qx hk
     clear hk
     simp only at hk3
     split at hk3
     case isFalse=>cases hk3
     rename_i hnt
     subst hnt
     obtain⟨n,hset,hk2⟩:=jch hk3
     clear hk3
     have hr:=hv0.ref
     obtain⟨cs,cs',l',hh,hrep,hat,hnm,hwh,F0,hsub,r0⟩:=jcf h hr hs hgn (jcb hokm)
     simp only[Named]at hnm
     obtain rfl:=Holds.uniq (jj0 hokm) hnm hc2
     have hany:∀m,τ ≠ .any m:=by
      rintro m rfl
      cases p with
      | nil=>simp only[getD,getP,Option.some.injEq]at hgn;cases hgn;simp[okMut]at hokm
      | cons s p=>cases s<;>simp[getD,getP]at hgn
     have hMF:=hfoot.1 τ g y0 _ cs cs' l' _ F0 hs hgn hany hh hat r0
     have key:∃F1 F2,own s=F1++F0++F2∧∀N':Nat→Prop,(∀b,NB c own [] w b→N' b)→Rep w' N' nt f y.1 cs' M1→RepV w' N' n.1 n.2.1 n.2.2 (Act.at_ a s) (F1++M1++F2):=by
      by_cases hp:p=[]
      ·subst hp
       simp only[getD,getP,Option.some.injEq]at hgn
       cases hgn
       simp only[At]at hat
       obtain⟨_,rfl,_⟩:=hat
       obtain rfl:=Rep.uniq r0 hrep
       simp only[setD,setP,if_true,Option.some.injEq]at hset
       subst hset
       exact⟨[],[],by simp,fun N' _ hrep' => .inl ⟨cs',hh,by simpa using hrep'⟩⟩
      ·obtain⟨⟨b1,off⟩,rfl⟩:=At.psome hsh.1 hp hat
       obtain⟨g1,g2,_,F1,F0',F2,f0,x0,hown,r0',hgd,hbF,hfin⟩:=jfg nt f y.1 (N:=NB c own [] w) hrep (h.nd s) (fun q hq=>by cases hq) (fun q hq=>by cases hq) hat hset
       rw[hgn]at hgd
       cases hgd
       obtain rfl:=Rep.uniq r0 r0'
       refine⟨F1,F2,hown,fun N' hN' hrep' => .inl ⟨cs,setD_holds hp hset hh, ?_⟩⟩
       have hb:b1∈F1++F2:=by
        rcases hbF with hb|⟨o',ho'⟩
        ·exact hb
        ·cases ho'
       have hin1:∀c'∈F1++F2,c'∈own s:=by
        intro c' hc';rw[hown];simp only[List.mem_append]at hc' ⊢;rcases hc' with hb|hb<;>simp[hb]
       have nd:=h.nd s
       have hout:∀c'∈F1++F2,c' ∉ Mall:=by
        intro c' hc' hM
        have h0:=(hMF c' (hin1 c' hc')).1 hM
        rw[hown]at nd
        simp only[List.nodup_append,List.mem_append]at nd hc'
        rcases hc' with hc'|hc'
        ·exact nd.1.2.2 c' hc' c' h0 rfl
        ·exact nd.2.2 c' (.inr h0) c' hc' rfl
       have hsm:∀c'∈F1++F2,w'.heap[c']? = w.heap[c']? := fun c' hc'=>hsame c' (h.lt s c' (hin1 c' hc')) (hout c' hc')
       obtain⟨arr,e,q1,q2⟩:=hat.seg (fun q hq=>by cases hq) _ rfl
       have hl:=r0.len
       have hpos:=jf1 hokm
       have hlen:off+cs'.length≤arr.toList.length:=by
        rw[q2]at hl ⊢
        simp only[List.length_take,List.length_drop]at hl ⊢
        omega
       refine hfin w' N' M1 arr arr e e cs' cs q1 (by rw[hsm b1 hb];exact q1) ?_ hlen hl hrep' (fun c' hc' _=>hsm c' hc') (fun c' hc'=>⟨hN' c' hc',hsame c' hc'.1 fun hM => ?_⟩) (fun q hq=>by cases hq) (fun _=>rfl) (fun q hq=>by cases hq)
       ·rw[hl]
        conv=>rhs;rw[q2]
        exact seg_eq.symm
       ·obtain⟨s',hs'⟩:=hNM c' hM
        exact hc'.2.1 s' hs'
     obtain⟨F1,F2,hown,key⟩:=key
     let G:=F1++M1++F2
     let E2:=E1.filter fun b=>decide (b ∉ G)
     have nd:=h.nd s
     have hin1:∀c'∈F1++F2,c'∈own s:=by
      intro c' hc';rw[hown];simp only[List.mem_append]at hc' ⊢;rcases hc' with hb|hb<;>simp[hb]
     have hout:∀c'∈F1++F2,c' ∉ Mall:=by
      intro c' hc' hM
      have h0:=(hMF c' (hin1 c' hc')).1 hM
      rw[hown]at nd
      simp only[List.nodup_append,List.mem_append]at nd hc'
      rcases hc' with hc'|hc'
      ·exact nd.1.2.2 c' hc' c' h0 rfl
      ·exact nd.2.2 c' (.inr h0) c' hc' rfl
     have hdis:∀b'∈F1++F2,∀b2,(b2∈Mall∨w.heap.size≤b2)→b'≠b2:=by
      rintro b' hb' b2 (h2|h2) rfl
      ·exact hout b' hb' h2
      ·have:=h.lt s b' (hin1 b' hb');omega
     have ndF:(F1++F2).Nodup:=by
      rw[hown]at nd
      refine List.Sublist.nodup ?_ nd
      exact List.Sublist.append (List.sublist_append_left _ _) (List.Sublist.refl _)
     have ndFM:=hndF
     simp only[List.nodup_append,List.mem_append]at ndFM
     have ndM1:M1.Nodup:=ndFM.2.1.1
     have hM12:∀b'∈M1,b' ∉ M2:=fun b' h1 h2=>ndFM.2.1.2.2 b' h1 b' h2 rfl
     have hFM1:∀b'∈F,b' ∉ M1:=fun b' h1 h2=>ndFM.2.2 b' h1 b' (.inl h2) rfl
     have ndG:G.Nodup:=by
      simp only[G]
      rw[List.nodup_append]at ndF
      rw[List.nodup_append,List.nodup_append]
      refine⟨⟨ndF.1,ndM1,fun x hx y hy=>hdis x (List.mem_append_left _ hx) y (hM2 y (List.mem_append_left _ hy))⟩,ndF.2.1,fun x hx y hy => ?_⟩
      rcases List.mem_append.1 hx with hx|hx
      ·exact ndF.2.2 x hx y hy
      ·exact fun e=>hdis y (List.mem_append_right _ hy) x (hM2 x (List.mem_append_left _ hx)) e.symm
     have hGE:∀b'∈G,b'∈E1:=by
      intro b' hb'
      simp only[G,List.mem_append]at hb'
      rcases hb' with(hb'|hb')|hb'
      ·exact hin.1 b' (hin1 b' (List.mem_append_left _ hb')) (hout b' (List.mem_append_left _ hb'))
      ·exact hM' b' (List.mem_append_left _ hb')
      ·exact hin.1 b' (hin1 b' (List.mem_append_right _ hb')) (hout b' (List.mem_append_right _ hb'))
     have hsubE:∀b'∈G++E2,b'∈E1:=by
      intro b' hb'
      rcases List.mem_append.1 hb' with hb'|hb'
      ·exact hGE b' hb'
      ·exact(List.mem_filter.1 hb').1
     have hnot:∀b',(b'∈E1∧b' ∉ G)→b'∈E2:=fun b' hb'=>List.mem_filter.2 ⟨hb'.1,by simpa using hb'.2⟩
     have ndE2:(G++E2).Nodup:=by
      rw[List.nodup_append]
      refine⟨ndG,hinv.ndE.filter _,fun x hx y hy e => ?_⟩
      subst e
      have:=(List.mem_filter.1 hy).2
      simp only[decide_eq_true_eq]at this
      exact this hx
     have hh2:=hinv.hand hsubE ndE2
     have hNB2:∀b',NB c own [] w b'→NB c own1 (G++E2) w' b':=fun b' hb'=>(hNB b' hb').hand hsubE
     have hnew:Rep w' (NB c own1 (G++E2) w') nt f y.1 cs' M1:=by
      rcases hNc with hc|hc
      ·simp only[mutClosed,Bool.and_eq_true]at hc
       exact hr2.shut hc.1
      ·exact hr2.mono (fun b' hb'=>⟨(hc b' hb').hand hsubE,rfl⟩) fun _ _=>rfl
     obtain⟨own',h',hN'⟩:=Inv.put (F:=G) (E:=E2) (v := .val n.1 n.2.1 n.2.2) (value:=Act.at_ a s) s hh2 (key _ hNB2 hnew) (fun u hu=>(h.fixed s u hu).symm)
     rw[jb3]at h'
     have hput:st1.put s (.val n.1 n.2.1 n.2.2)=st1.set s (.val n.1 n.2.1 n.2.2):=by
      simp only[St.put,hst.1.1,V.isOwner,Bool.false_eq_true,if_false]
     rw[hput]at h'
     suffices hq:∃own2 st2,k st2=some r∧Inv c own2 F st2 a w'∧((∀b,Nc b→NB c own' E2 w' b)→∀b,Nc b→NB c own2 F w' b) by
      obtain⟨own2,st2,q1,q2,q3⟩:=hq
      exact⟨own2,st2,q1,q2,fun H=>q3 fun b' hb'=>hN' b' ((H b' hb').hand hsubE)⟩
     refine ih hsh.2 hnd hk2 hm hfoot.2 h' (fun s' hs' => ?_) (fun s' hs' b' hb' hM=>hnot b' ⟨hin.2 s' hs' b' hb' hM,fun hG => ?_⟩) (fun b' hb'=>hnot b' ⟨hM' b' (List.mem_append_right _ hb'),fun hG => ?_⟩) (fun b' hb'=>hnot b' ⟨hF b' hb',fun hG => ?_⟩) ?_ (fun b' hb'=>hM2 b' (List.mem_append_right _ hb')) (fun b' hb'=>hN' b' (hNB2 b' hb')) ?_
     ·have hne:s'≠s:=by rintro rfl;exact hs0 hs'
      obtain⟨h1,h2⟩:=hst.2 s' hs'
      rw[qg,if_neg (fun e=>hne e.1)]
      exact⟨h1,by simpa using h2⟩
     ·simp only[G,List.mem_append]at hG
      have hne:∀b2,b2∈own s→b'≠b2:=by
       rintro b2 hb2 rfl
       have:=h.dj _ _ b' hb' hb2
       subst this
       exact hs0 hs'
      rcases hG with(hG|hG)|hG
      ·exact hne b' (hin1 b' (List.mem_append_left _ hG)) rfl
      ·rcases hM2 b' (List.mem_append_left _ hG) with h1|h1
       ·exact hM h1
       ·have:=h.lt s' b' hb';omega
      ·exact hne b' (hin1 b' (List.mem_append_right _ hG)) rfl
     ·simp only[G,List.mem_append]at hG
      have h2:=hM2 b' (List.mem_append_right _ hb')
      rcases hG with(hG|hG)|hG
      ·exact hdis b' (List.mem_append_left _ hG) b' h2 rfl
      ·exact hM12 b' hG hb'
      ·exact hdis b' (List.mem_append_right _ hG) b' h2 rfl
     ·simp only[G,List.mem_append]at hG
      have h2:=hFM b' hb'
      rcases hG with(hG|hG)|hG
      ·exact hdis b' (List.mem_append_left _ hG) b' h2 rfl
      ·exact hFM1 b' hb' hG
      ·exact hdis b' (List.mem_append_right _ hG) b' h2 rfl
     ·refine List.Sublist.nodup ?_ hndF
      exact List.Sublist.append (List.Sublist.refl _) (List.sublist_append_right _ _)
     ·rcases hNc with hc|hc
      ·simp only[mutClosed,Bool.and_eq_true]at hc
       exact .inl hc.2
      ·exact .inr fun b' hb'=>hN' b' ((hc b' hb').hand hsubE)
   | _=>simp[mutShape]at hsh
theorem jkh:∀{ms:List Nat}{vs:List V}{st:St},(takeMut ms vs st).length=st.length∧∀i,st.get i = .u→(takeMut ms vs st).get i = .u:=by
 intro ms
 induction ms with
 | nil=>intro vs st;cases vs<;>exact⟨rfl,fun _ h=>h⟩
 | cons m ms ih =>
  intro vs st
  cases vs with
  | nil=>match m with
   | 0=>exact⟨rfl,fun _ h=>h⟩
   | 1=>exact⟨rfl,fun _ h=>h⟩
   | n+2=>exact⟨rfl,fun _ h=>h⟩
  | cons v vs =>
   match m with
   | 0=>exact ih
   | n+2=>exact ih
   | 1 =>
    cases v with
    | ref s p k =>
     simp only[takeMut]
     obtain⟨h1,h2⟩ := @ih vs ((dropRefs s st).set s .u)
     refine⟨by rw[h1];simp[dropRefs],fun i hi=>h2 i ?_⟩
     rw[qg]
     split
     ·rfl
     ·unfold dropRefs;rw[qy _ _ rfl,hi];rfl
    | _=>exact ih
theorem jlm:∀{ms:List Nat}{vs:List V}{own:Nat→List Nat}{E:List Nat}{st:St},Inv c own E st a w→nodupB (mutSlots ms vs)=true→(∀s∈mutSlots ms vs,(st.get s).isOwner=true) →
  ∃own' E',Inv c own' (E'++E) (takeMut ms vs st) a w∧(∀s∈mutSlots ms vs,(takeMut ms vs st).get s = .u∧s<(takeMut ms vs st).length)∧(∀s∈mutSlots ms vs,∀b∈own s,b∈E')∧(∀b∈E',∃s∈mutSlots ms vs,b∈own s) ∧
   (∀b,NB c own E w b→NB c own' (E'++E) w b)∧(∀i b,b∈own' i→b∈own i∧i ∉ mutSlots ms vs):=by
 intro ms
 induction ms with
 | nil=>intro vs own E st h _ _;cases vs<;>exact⟨own,[],h,by simp[mutSlots],by simp[mutSlots],by simp,fun b hb=>hb,fun i b hb=>⟨hb,by simp[mutSlots]⟩⟩
 | cons m ms ih =>
  intro vs own E st h hnd ho
  cases vs with
  | nil =>
   have e1:mutSlots (m::ms) ([]:List V)=[]:=by match m with
    | 0=>rfl
    | 1=>rfl
    | n+2=>rfl
   have e2:takeMut (m::ms) [] st=st:=by match m with
    | 0=>rfl
    | 1=>rfl
    | n+2=>rfl
   rw[e1,e2]
   exact⟨own,[],h,by simp,by simp,by simp,fun b hb=>hb,fun i b hb=>⟨hb,by simp⟩⟩
  | cons v vs =>
   match m with
   | 0=>exact ih h hnd ho
   | n+2=>exact ih h hnd ho
   | 1 =>
    cases v with
    | ref s p k =>
     simp only[mutSlots,List.mem_cons,forall_eq_or_imp]at hnd ho ⊢
     simp only[takeMut]
     obtain⟨hs0,hnd⟩:=jcq hnd
     obtain⟨h1,hget,hN⟩:=h.takeSlot ho.1
     have hsl:s<st.length:=by
      rcases Nat.lt_or_ge s st.length with hlt|hge
      ·exact hlt
      ·rw[qe st s hge]at ho;cases ho.1
     obtain⟨own2,E2,h2,hu,hin,hout,hN2,hsub⟩:=ih h1 hnd fun s' hs'=>by
      have hne:s'≠s:=by rintro rfl;exact hs0 hs'
      rw[hget,if_neg hne,vh (ho.2 s' hs')]
      exact ho.2 s' hs'
     obtain⟨hl,huu⟩ := @jkh ms vs ((dropRefs s st).set s .u)
     refine⟨own2,E2++own s,by rw[List.append_assoc];exact h2,⟨⟨huu s (by rw[hget,if_pos rfl]),by rw[hl];simpa [dropRefs] using hsl⟩,hu⟩,⟨fun b hb=>List.mem_append_right _ hb,fun s' hs' b hb=>List.mem_append_left _ ?_⟩,fun b hb => ?_,fun b hb=>by rw[List.append_assoc];exact hN2 b (hN b hb),fun i b hb => ?_⟩
     ·have hne:s'≠s:=by rintro rfl;exact hs0 hs'
      exact hin s' hs' b (by rw[if_neg hne];exact hb)
     ·rcases List.mem_append.1 hb with hb|hb
      ·obtain⟨s',hs',hb'⟩:=hout b hb
       have hne:s'≠s:=by rintro rfl;exact hs0 hs'
       rw[if_neg hne]at hb'
       exact⟨s',.inr hs',hb'⟩
      ·exact⟨s,.inl rfl,hb⟩
     ·obtain⟨h3,h4⟩:=hsub i b hb
      split at h3
      ·cases h3
      ·rename_i hne
       exact⟨h3,fun h=>h.elim hne h4⟩
    | _=>exact ih h hnd ho
theorem jff (h:Inv c own [] st a w):∀{ms:List Nat}{os:List Operand},∀s∈mutSlots ms (os.map (opd st)),(st.get s).isOwner=true:=by
 intro ms
 induction ms with
 | nil=>intro os s hs;cases os<;>simp[mutSlots]at hs
 | cons m ms ih =>
  intro os s hs
  cases os with
  | nil=>match m with
   | 0=>simp[mutSlots]at hs
   | 1=>simp[mutSlots]at hs
   | n+2=>simp[mutSlots]at hs
  | cons o os =>
   have hv0:=jt h o
   simp only[List.map_cons]at hs
   match m with
   | 0=>exact ih s hs
   | n+2=>exact ih s hs
   | 1 =>
    generalize hov:opd st o=v at hs hv0
    cases v with
    | ref q p k =>
     simp only[mutSlots,List.mem_cons]at hs
     rcases hs with rfl|hs
     ·exact hv0.ref.1
     ·exact ih s hs
    | _=>exact ih s hs
theorem namesB_iff {v:V}{s:Nat}:v.namesB s=true↔v.names s:=by
 cases v<;>simp[V.namesB,V.names]
theorem jh6 {v:V}(h:v.noRef=true) (s:Nat):¬v.names s:=by
 cases v<;>simp_all [V.noRef,V.names]
theorem jee (st st1:St) (ss:List Nat) (i:Nat):St.get (realias st ss st1) i=St.get st1 i∨(St.get st1 i = .u∧∃s,st.get i = .ref s [] .val∧(st1.get s).isOwner=true∧St.get (realias st ss st1) i = .ref s [] .val):=by
 by_cases hi:i<st1.length
 ·have e:St.get (realias st ss st1) i=(match St.get st1 i,st.get i with
   | .u,.ref s [] .val=>if ss.contains s&&(st1.get s).isOwner then V.ref s [] .val else .u
   | v,_=>v):=by
   unfold realias
   simp only[St.get,List.getD_eq_getElem?_getD,List.getElem?_mapIdx,List.getElem?_eq_getElem hi,Option.map_some,Option.getD_some]
   rfl
  rw[e]
  split
  ·rename_i s h1 h2
   split
   ·rename_i hc
    simp only[Bool.and_eq_true]at hc
    exact .inr ⟨h1,s,h2,hc.2,rfl⟩
   ·exact .inl h1.symm
  ·exact .inl rfl
 ·left
  rw[qe _ i (by simp[realias];omega),qe st1 i (by omega)]
theorem Inv.reals {E:List Nat}{st0:St}(h:Inv c own E st a w) (ss:List Nat) (h0:∀i s,st0.get i = .ref s [] .val→Act.at_ a i=Act.at_ a s):Inv c own E (Gx.realias st0 ss st) a w:=by
 have hown:∀s,(st.get s).isOwner=true→St.get (Gx.realias st0 ss st) s=st.get s:=by
  intro s hs
  rcases jee st0 st ss s with h1|⟨h1,_⟩
  ·exact h1
  ·rw[h1]at hs;cases hs
 refine⟨by rw[h.size];simp[Gx.realias],h.defers,fun i => ?_,h.nd,h.ndE,h.dj,h.djE,h.ltE,h.bnd,h.bndE,h.frame,h.grow,h.os,h.tape,h.output,h.frozen,h.fixed⟩
 have hs:=h.slot i
 rcases jee st0 st ss i with h1|⟨h1,s,h2,h3,h4⟩
 ·rw[h1]
  cases hv:st.get i with
  | val t f x=>rw[hv]at hs;exact hs
  | u=>rw[hv]at hs;exact hs
  | nilS=>rw[hv]at hs;exact hs
  | nilP=>rw[hv]at hs;exact hs
  | win s lo hi tt =>
   rw[hv]at hs
   exact⟨hs.1,hs.2.congr (hown s hs.2.owner) rfl⟩
  | ref s p k =>
   rw[hv]at hs
   exact⟨hs.1,hs.2.congr (hown s hs.2.1) rfl⟩
 ·rw[h4]
  rw[h1]at hs
  exact⟨hs,by rw[hown s h3];exact h3,.inl ⟨rfl,rfl,h0 i s h2⟩⟩
theorem jls (hS:SigOk P A){o:Oper}{cc:Call}{f:FuncId}{k:St→Option ρ}{r:ρ}(ho:o.op = .call cc) (hc:cc.callee = .value (.func f)) (h:Inv c own [] st a w)
  (hk:callK A f (cc.args.toList.map (opd st)) o.dst st k=some r):OpGoal P c o k r a w:=by
 unfold callK at hk
 split at hk
 case h_2=>cases hk
 case h_1 S hsig =>
 obtain⟨⟨fn,hfn,hbody,hname⟩,hgood⟩:=hS.sig f S hsig
 have hex:(execOp a.eval o).run P w = .ok (.enter f (cc.args.map a.eval)) w:=by
  unfold execOp
  simp only[ho,resolve,hc,Act.eval,Deferred.ofValue,Sem.run_bind,Sem.run_pure,Result.andThen_ok,invoke,callFunc,run_program,hfn,hbody,hname]
  simp
 split at hk
 ·split at hk
  case isFalse=>cases hk
  rename_i hmd hcond
  simp only[Bool.and_eq_true,mutSep,List.all_eq_true,Bool.not_eq_true',Bool.or_eq_true]at hcond
  obtain⟨⟨⟨hsh,hnd⟩,hrd⟩,hmc⟩:=hcond
  obtain⟨x,M,hk,ndM,hMs,hfoot,hargs⟩:=jkn h hsh hnd hk
  cases hr:S.f x with
  | none=>rw[hr]at hk;cases hk
  | some rr =>
   rw[hr]at hk
   simp only[Option.bind_some]at hk
   let N:Nat→Prop:=fun b=>NB c own [] w b∨∃v∈readVs S.md (cc.args.toList.map (opd st)),∃s,v.names s∧b∈own s
   have hNlt:∀b,N b→b<w.heap.size:=by
    rintro b (hb|⟨v,_,s,_,hb⟩)
    ·exact hb.1
    ·exact h.lt s b hb
   have hMN:∀b∈M,¬N b∧b<w.heap.size:=by
    intro b hb
    obtain⟨s,hs,hbs⟩:=hMs b hb
    refine⟨?_,h.lt s b hbs⟩
    rintro (hb'|⟨v,hv,s',hvs,hb'⟩)
    ·exact hb'.2.1 s hbs
    ·have:=h.dj s s' b hbs hb'
     subst this
     have h0:=hrd v hv s hs
     rw[namesB_iff.2 hvs]at h0
     cases h0
   have hcall:=hgood x rr hr w N (cc.args.map a.eval) M (by rw[Array.toList_map];exact hargs N (fun _ h => .inl h) fun v hv s hs b hb => .inr ⟨v,hv,s,hs,hb⟩) ndM hMN hNlt
   intro hfx K Q hK
   unfold Oper.wp
   rw[hex,Oper.upon_enter]
   refine hcall.mono fun e w' he => ?_
   cases e with
   | panicked chain=>exact he.elim
   | outgrown=>exact he.elim
   | returned v =>
    simp only at he ⊢
    obtain⟨F,M',hndF,hrep,hmut,hfresh,hlt,hframe,hgrow,e1,e2,e3,hfz⟩:=he
    obtain⟨ownT,ET,hT,hu,hinT,houtT,hNT,hsubT⟩:=jlm (ms:=S.md) (vs:=cc.args.toList.map (opd st)) h hnd (jff h)
    rw[List.append_nil]at hT hNT
    have hMT:∀b∈M,b∈ET:=fun b hb=>by obtain⟨s,hs,hbs⟩:=hMs b hb;exact hinT s hs b hbs
    have hETlt:∀b∈ET,b<w.heap.size:=fun b hb=>by obtain⟨s,_,hbs⟩:=houtT b hb;exact h.lt s b hbs
    have hg:=hT.grown (w':=w') (E':=(F++M').filter fun b=>decide (w.heap.size≤b)) (fun b hb hE=>hframe b hb fun hM=>hE (hMT b hM)) hgrow e1 e2 e3 hfz (hndF.filter _) fun b hb=>by
     obtain⟨hb1,hb2⟩:=List.mem_filter.1 hb
     exact⟨by simpa using hb2,hlt b hb1⟩
    let E1:=(F++M')++ET.filter fun b=>decide (b ∉ M)
    have hE1:∀b∈E1,b∈(F++M').filter (fun b=>decide (w.heap.size≤b))++ET:=by
     intro b hb
     rcases List.mem_append.1 hb with hb|hb
     ·rcases hfresh b hb with h1|h1
      ·exact List.mem_append_right _ (hMT b h1)
      ·exact List.mem_append_left _ (List.mem_filter.2 ⟨hb,by simpa using h1⟩)
     ·exact List.mem_append_right _ (List.mem_filter.1 hb).1
    have ndE1:E1.Nodup:=by
     simp only[E1]
     rw[List.nodup_append]
     refine⟨hndF,hT.ndE.filter _,fun x hx y hy e => ?_⟩
     subst e
     obtain⟨hy1,hy2⟩:=List.mem_filter.1 hy
     simp only[decide_eq_true_eq]at hy2
     rcases hfresh x hx with h1|h1
     ·exact hy2 h1
     ·have:=hETlt x hy1;omega
    have h1:=hg.hand hE1 ndE1
    have hNB:∀b,NB c own [] w b→NB c ownT E1 w' b:=by
     intro b hb
     refine⟨by have:=hb.1;omega,fun i hi=>hb.2.1 i (hsubT i b hi).1,fun hE => ?_,hb.2.2.2⟩
     rcases List.mem_append.1 hE with hE|hE
     ·rcases hfresh b hE with h2|h2
      ·obtain⟨s,_,hbs⟩:=hMs b h2;exact hb.2.1 s hbs
      ·have:=hb.1;omega
     ·obtain⟨s,_,hbs⟩:=houtT b (List.mem_filter.1 hE).1;exact hb.2.1 s hbs
    have hNc2:(∀v∈readVs S.md (cc.args.toList.map (opd st)),v.noRef=true)→∀b,(b<w'.heap.size∧b ∉ F∧b ∉ M'∧(b<w.heap.size→N b∨b∈M))→NB c ownT E1 w' b:=by
     ·intro hmc b hb
      obtain⟨hb1,hb2,hb3,hb4⟩:=hb
      have hN:N b→NB c own [] w b:=by
       rintro (hN|⟨v,hv,s,hs,_⟩)
       ·exact hN
       ·exact absurd hs (jh6 (hmc v hv) s)
      by_cases hlt':b<w.heap.size
      ·rcases hb4 hlt' with h2|h2
       ·exact hNB b (hN h2)
       ·obtain⟨s,hs,hbs⟩:=hMs b h2
        refine⟨hb1,fun i hi => ?_,fun hE => ?_,fun hlt0 => ?_⟩
        ·obtain⟨h3,h4⟩:=hsubT i b hi
         have:=h.dj _ _ b h3 hbs
         subst this
         exact h4 hs
        ·rcases List.mem_append.1 hE with hE|hE
         ·rcases List.mem_append.1 hE with hE|hE
          ·exact hb2 hE
          ·exact hb3 hE
         ·have:=(List.mem_filter.1 hE).2
          simp only[decide_eq_true_eq]at this
          exact this h2
        ·rcases h.bnd s b hbs with h3|h3
         ·exact c.mn b h3
         ·omega
      ·refine⟨hb1,fun i hi=>hlt' (h.lt i b (hsubT i b hi).1),fun hE => ?_,fun hlt0 => ?_⟩
       ·rcases List.mem_append.1 hE with hE|hE
        ·rcases List.mem_append.1 hE with hE|hE
         ·exact hb2 hE
         ·exact hb3 hE
        ·exact hlt' (hETlt b (List.mem_filter.1 hE).1)
       ·have:=h.grow;omega
    have hNc:mutClosed S.m S.mf=true∨∀b,(b<w'.heap.size∧b ∉ F∧b ∉ M'∧(b<w.heap.size→N b∨b∈M))→NB c ownT E1 w' b:=by
     rcases hmc with hmc|hmc
     ·exact .inl hmc.2
     ·exact .inr (hNc2 hmc)
    obtain⟨own2,st2,hk,h2,hN2⟩:=jk9 (F:=F) h hframe (fun b hb=>hfresh b (List.mem_append_left _ hb)) (fun b hb=>by obtain⟨s,_,hbs⟩:=hMs b hb;exact⟨s,hbs⟩) hsh hnd hk (by rw[Array.toList_map]at hmut;exact hmut) hfoot h1 hu
     (fun s hs b hb hM=>List.mem_append_right _ (List.mem_filter.2 ⟨hinT s hs b hb,by simpa using hM⟩)) (fun b hb=>List.mem_append_left _ (List.mem_append_right _ hb)) (fun b hb=>List.mem_append_left _ (List.mem_append_left _ hb)) hndF (fun b hb=>hfresh b (List.mem_append_right _ hb)) hNB hNc
    have h2:=h2.reals (st0:=st) (mutSlots S.md (cc.args.toList.map (opd st))) (fun i s hi=>by
     have hsl:=h.slot i
     rw[hi]at hsl
     exact hsl.2.whole)
    obtain⟨own',h'⟩:=Inv.putO (v := .val S.r S.rf rr.1) (F:=F) (E:=[]) o.dst (by simpa using h2) (by
     rw[List.append_nil]
     rcases hmc with hmc|hmc
     ·exact hrep.shut hmc.1
     ·exact hrep.mono (fun b hb=>⟨hN2 (hNc2 hmc) b hb,rfl⟩) fun _ _=>rfl) (vp hfx)
    exact hK _ _ _ _ hk h'
 rename_i hmd
 have hmd:S.md.any (· != 0)=false:=by simpa using hmd
 obtain⟨x,hk,hargs⟩:=jkm h hmd hk
 cases hr:S.f x with
 | none=>rw[hr]at hk;cases hk
 | some rr =>
  rw[hr]at hk
  simp only[Option.bind_some]at hk
  let N:Nat→Prop:=fun b=>NB c own [] w b∨namedBy (cc.args.toList.map (opd st)) b own
  have hNlt:∀b,N b→b<w.heap.size:=by
   rintro b (hb|⟨v,_,s,_,hb⟩)
   ·exact hb.1
   ·exact h.lt s b hb
  have hcall:=hgood x rr hr w N (cc.args.map a.eval) [] (by rw[Array.toList_map];exact hargs N (fun _ h => .inl h) fun _ h => .inr h) (by simp) (by simp) hNlt
  intro hfx K Q hK
  unfold Oper.wp
  rw[hex,Oper.upon_enter]
  refine hcall.mono fun e w' he => ?_
  cases e with
  | panicked chain=>exact he.elim
  | outgrown=>exact he.elim
  | returned v =>
   simp only at he ⊢
   obtain⟨F,M',hnd,hrep,hmut,hfresh,hlt,hframe,hgrow,e1,e2,e3,hfz⟩:=he
   rw[List.nodup_append]at hnd
   have hF:∀b∈F,w.heap.size≤b:=fun b hb=>by
    rcases hfresh b (List.mem_append_left _ hb) with h'|h'
    ·cases h'
    ·exact h'
   have hinv:=h.grown (w':=w') (E':=F) (fun b hb _=>hframe b hb (by simp)) hgrow e1 e2 e3 hfz hnd.1 fun b hb=>⟨hF b hb,hlt b (List.mem_append_left _ hb)⟩
   rw[List.append_nil]at hinv
   have fin:∀own2 st2,Inv c own2 F st2 a w'→RepV w' (NB c own2 F w') S.r S.rf rr.1 v F→k (st2.putO o.dst (.val S.r S.rf rr.1))=some r→K (a.put o.dst v) w':=by
    intro own2 st2 h2 hv hk
    obtain⟨own',h'⟩:=Inv.putO (v := .val S.r S.rf rr.1) (F:=F) (E:=[]) o.dst (by simpa using h2) (by rw[List.append_nil];exact hv) (vp hfx)
    exact hK _ _ _ _ hk h'
   split at hk
   ·rename_i hcl
    exact fin _ _ hinv (hrep.shut hcl) hk
   ·obtain⟨own2,h2,hN2,hn2⟩:=uc (vs:=cc.args.toList.map (opd st)) hinv
    refine fin _ _ h2 (hrep.mono (fun b hb=>⟨?_,rfl⟩) fun _ _=>rfl) hk
    by_cases hold:b<w.heap.size
    ·rcases hb.2.2.2 hold with(hb'|hb')|hb'
     ·exact hN2 b ⟨hb.1,hb'.2.1,hb.2.1,hb'.2.2.2⟩
     ·exact hn2 b hb'
     ·cases hb'
    ·refine hN2 b ⟨hb.1,fun i hi=>hold (h.lt i b hi),hb.2.1,fun hlt => ?_⟩
     have:=h.grow
     omega
theorem jmn {f:FuncId}{vs:List V}(h:Inv c own [] st a w):∃own',Inv c own' [] (preK A f vs st) a w:=by
 unfold preK
 split
 ·split
  ·obtain⟨own',h',_⟩:=uc (vs:=readVs _ vs) h
   exact⟨own',h'⟩
  ·exact⟨own,h⟩
 ·exact⟨own,h⟩
end
end Go.Gx
