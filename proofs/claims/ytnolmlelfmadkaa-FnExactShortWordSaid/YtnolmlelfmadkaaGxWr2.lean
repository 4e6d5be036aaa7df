import Derived.Test.YtnolmlelfmadkaaGxWr
set_option linter.unusedSimpArgs false
set_option linter.unusedVariables false
namespace Go.Gx
open Go
section
variable {A:Cfg} {st:St} {ρ:Type} {PV:List Nat} {W:Wr} {all:List Oper}
structure FineW (W:Wr) (PV:List Nat) (st:St):Prop where
 fine:Fine PV st
 sr:∀i∈W.ws,∀j,(st.get j).names (W.sl i)→j∈W.sr (W.sl i)
inductive Ef
 | free (Q:List Nat) (v:V)
 | wr (fz:Bool) (Q:List Nat) (s:Nat) (nv:V) (v:V)
def V.lose:Bool→V→V
 | true,x=>x.plainOf
 | false,_ => .u
def loseQ (fz:Bool) (Q:List Nat) (st:St):St:=if fz then frzQ Q st else clr Q st
theorem jfn {fz:Bool}{Q:List Nat}{st:St}{i:Nat}:(loseQ fz Q st).get i=if i∈Q then(st.get i).lose fz else st.get i:=by
 unfold loseQ
 cases fz with
 | true=>exact uh
 | false=>exact qn Q st i
theorem ja5 {fz:Bool}{Q:List Nat}{st:St}:(loseQ fz Q st).length=st.length:=by
 unfold loseQ;cases fz<;>simp[jbe,jbq]
theorem ji3 {fz:Bool}{v:V}{q:Nat}(h:(v.lose fz).names q):v.names q:=by
 cases fz with
 | true=>exact jdf h
 | false=>exact h.elim
theorem jk3 {fz:Bool}{v:V}(h:v.isOwner=false):(v.lose fz).isOwner=false:=by
 cases fz with
 | true=>cases v<;>simp_all [V.lose,V.plainOf,V.isOwner]
 | false=>rfl
def Ef.v:Ef→V
 | .free _ v=>v
 | .wr _ _ _ _ v=>v
def Ef.ap (d:Option Nat):Ef→St→St
 | .free Q v,st=>eff Q d v st
 | .wr fz Q s nv v,st=>(wrS s nv (loseQ fz Q st)).setO d v
def Ef.g:Ef→Nat→V→V
 | .free Q _,i,x=>if i∈Q then .u else x
 | .wr fz Q s nv _,i,x=>if i=s then nv else V.dropW nv s (if i∈Q then x.lose fz else x)
def Ef.Ok (W:Wr) (PV:List Nat) (all:List Oper) (i:Nat) (o:Oper) (st:St):Ef→Prop
 | .free Q v=>i ∉ W.ws∧(∀q∈Q,q∈PV∧q∈looks all o)∧(∀s,isMv s o=true→Q=[]∧v=opd st (.tmp s))∧∀s,v.names s→s ∉ PV∧∃t∈looks all o,(opd st (.tmp t)).names s
 | .wr fz Q s nv v=>i∈W.ws∧s=W.sl i∧(nv.isOwner=true∨nv = .u∧i∈W.cs)∧(st.get s).isOwner=true∧(∀q,¬v.names q)∧(s ∉ Q∧∀q∈Q,q∈PV∧q∈looks all o)∧∃t∈looks all o,(opd st (.tmp t)).names s∧∀q,isMv q o=false
theorem jj3 {s:Nat}(h:(st.get s).isOwner=true):s<st.length:=by
 by_cases hl:s<st.length
 ·exact hl
 ·rw[qe st s (by omega)]at h;cases h
theorem jh0 {s:Nat}{v:V}:(V.dropIn s v).isOwner=v.isOwner:=by
 cases v with
 | ref r p k=>by_cases h:r=s<;>simp only[V.dropIn,h,if_true,if_false]<;>(cases p<;>cases k<;>rfl)
 | win r a b t=>by_cases h:r=s<;>simp only[V.dropIn,h,if_true,if_false]<;>rfl
 | _=>rfl
theorem jgu {s q:Nat}{v:V}(h:(V.dropIn s v).names q):v.names q:=by
 cases v with
 | ref r p k =>
  by_cases hr:r=s
  ·cases p with
   | nil=>cases k with
    | val=>simp only[V.dropIn,if_pos hr,V.names]at h ⊢;exact h
    | addr=>simp only[V.dropIn,if_pos hr]at h;exact h.elim
   | cons a p=>simp only[V.dropIn,if_pos hr]at h;exact h.elim
  ·simp only[V.dropIn,if_neg hr]at h;exact h
 | win r a b t =>
  by_cases hr:r=s
  ·simp only[V.dropIn,if_pos hr]at h;exact h.elim
  ·simp only[V.dropIn,if_neg hr]at h;exact h
 | _=>exact h
theorem jcz {nv:V}{s:Nat}{v:V}:(V.dropW nv s v).isOwner=v.isOwner:=by
 unfold V.dropW
 split
 ·exact jh0
 ·cases v with
  | ref r p k=>by_cases h:r=s<;>simp only[V.drop,h,if_true,if_false]<;>(cases p<;>cases k<;>rfl)
  | win r a b t=>by_cases h:r=s<;>simp only[V.drop,h,if_true,if_false]<;>rfl
  | _=>rfl
theorem jh1 {nv:V}{s q:Nat}{v:V}(h:(V.dropW nv s v).names q):v.names q:=by
 unfold V.dropW at h
 split at h
 ·exact jgu h
 ·cases v with
  | ref r p k =>
   by_cases hr:r=s
   ·simp only[V.drop,if_pos hr]at h;exact h.elim
   ·simp only[V.drop,if_neg hr]at h;exact h
  | win r a b t =>
   by_cases hr:r=s
   ·simp only[V.drop,if_pos hr]at h;exact h.elim
   ·simp only[V.drop,if_neg hr]at h;exact h
  | _=>exact h
theorem jgv {s:Nat}{v:V}(h:¬v.names s):V.dropIn s v=v:=by
 cases v with
 | ref r p k=>simp only[V.names]at h;simp only[V.dropIn,if_neg h]
 | win r a b t=>simp only[V.names]at h;simp only[V.dropIn,if_neg h]
 | _=>rfl
theorem dropW_u {nv:V}{s:Nat}:V.dropW nv s .u = .u:=by unfold V.dropW;split<;>rfl
theorem jgw {nv:V}{s:Nat}{v:V}:V.dropW nv s v = .u∨V.dropW nv s v=v:=by
 unfold V.dropW
 split
 ·cases v with
  | ref r p k=>by_cases h:r=s<;>cases p<;>cases k<;>simp[V.dropIn,h]
  | win r a b t=>by_cases h:r=s<;>simp[V.dropIn,h]
  | _=>exact .inr rfl
 ·cases v with
  | ref r p k=>by_cases h:r=s<;>simp[V.drop,h]
  | win r a b t=>by_cases h:r=s<;>simp[V.drop,h]
  | _=>exact .inr rfl
theorem jcy {m n:V}{a b:Nat}{v:V}:V.dropW m a (V.dropW n b v)=V.dropW n b (V.dropW m a v):=by
 rcases jgw (nv:=m) (s:=a) (v:=v) with h1|h1<;>rcases jgw (nv:=n) (s:=b) (v:=v) with h2|h2
 ·rw[h1,h2,dropW_u,dropW_u]
 ·rw[h2,h1,dropW_u]
 ·rw[h1,h2,dropW_u]
 ·rw[h1,h2,h1]
theorem jkt {nv:V}{s q:Nat}{v:V}(hn:nv.isOwner=false) (h:(V.dropW nv s v).names q):q≠s:=by
 unfold V.dropW at h
 rw[if_neg (by simp[hn])]at h
 rintro rfl
 cases v with
 | ref r p k =>
  by_cases hr:r=q
  ·simp only[V.drop,if_pos hr]at h;exact h.elim
  ·simp only[V.drop,if_neg hr]at h;exact hr h
 | win r a b t =>
  by_cases hr:r=q
  ·simp only[V.drop,if_pos hr]at h;exact h.elim
  ·simp only[V.drop,if_neg hr]at h;exact hr h
 | _=>exact h
theorem jbd {nv:V}{s:Nat}{v:V}(h:¬v.names s):V.dropW nv s v=v:=by
 unfold V.dropW
 split
 ·exact jgv h
 ·cases v with
  | ref r p k=>simp only[V.names]at h;simp only[V.drop,if_neg h]
  | win r a b t=>simp only[V.names]at h;simp only[V.drop,if_neg h]
  | _=>rfl
theorem jb6 {e:Ef}{d:Option Nat}:(e.ap d st).length=st.length:=by
 cases e with
 | free Q v=>exact uk
 | wr fz Q s nv v=>cases d<;>simp[Ef.ap,St.setO,jbw,ja5]
theorem ja3 {e:Ef}{d:Option Nat}{i j:Nat}{o:Oper}(he:e.Ok W PV all j o st):(e.ap d st).get i=if d=some i then(if i<st.length then e.v else .u) else e.g i (st.get i):=by
 cases e with
 | free Q v =>
  by_cases hd:d=some i
  ·subst hd
   rw[if_pos rfl]
   split
   ·rename_i hl;exact vl hl
   ·rename_i hl;exact qe _ i (by rw[jb6];omega)
  ·rw[if_neg hd];exact ut hd
 | wr fz Q s nv v =>
  have hs:=jj3 he.2.2.2.1
  have hs':s<(loseQ fz Q st).length:=by rw[ja5];exact hs
  cases d with
  | none=>simp only[Ef.ap,St.setO,reduceCtorEq,if_false,Ef.g];rw[jd5 hs',jfn]
  | some n =>
   simp only[Ef.ap,St.setO]
   rw[qg,jbw,ja5]
   by_cases hn:n=i
   ·subst hn
    rw[if_pos rfl]
    by_cases hl:n<st.length
    ·rw[if_pos ⟨rfl,hl⟩,if_pos hl];rfl
    ·rw[if_neg (fun h=>hl h.2),if_neg hl];exact qe _ n (by rw[jbw,ja5];omega)
   ·rw[if_neg (fun h=>hn h.1.symm),if_neg (by simpa using hn),jd5 hs',jfn];rfl
theorem jhe {e:Ef}{i:Nat}{o:Oper}(he:e.Ok W PV all i o st) (hr:RefsOk st):∀s,e.v.names s→s ∉ PV∧(st.get s).isOwner=true∧∃t∈looks all o,(opd st (.tmp t)).names s:=by
 intro s hs
 cases e with
 | free Q v =>
  obtain⟨h1,t,ht,h2⟩:=he.2.2.2 s hs
  exact⟨h1,vf hr h2,t,ht,h2⟩
 | wr fz Q q nv v=>exact absurd hs (he.2.2.2.2.1 s)
theorem jcr {i t:Nat}(hf:FineW W PV st) (hi:i∈W.ws) (hss:W.sl i∈W.sr (W.sl i)) (ht:t ∉ W.sr (W.sl i)):¬(opd st (.tmp t)).names (W.sl i):=by
 intro hn
 obtain⟨t',e,h|⟨h,_⟩⟩:=qv hn
 ·cases e;exact ht (hf.sr i hi t h)
 ·cases e;rw[h]at ht;exact ht hss
def Keeps (W:Wr) (all:List Oper):Prop:=∀i∈W.ws,W.sl i∈W.sr (W.sl i)∧W.sl i ∉ PV∧∀j o,all[j]? = some o→j ∉ W.ws→(∀q∈looks all o,q ∉ W.sr (W.sl i))∨∀d,o.dst=some d→d∈W.sr (W.sl i)
theorem jd4 {e:Ef}{i:Nat}{o:Oper}(hk:Keeps (PV:=PV) W all) (hi:all[i]? = some o) (hf:FineW W PV st) (hd:∀n,o.dst=some n→(st.get n).isOwner=false) (he:e.Ok W PV all i o st):FineW W PV (e.ap o.dst st):=by
 have nm:∀j q,((e.ap o.dst st).get j).names q→(o.dst=some j∧e.v.names q)∨((st.get j).names q∧∀fz Q s' nv v,e = .wr fz Q s' nv v→nv.isOwner=false→q≠s'):=by
  intro j q h
  rw[ja3 he]at h
  split at h
  ·rename_i hj
   split at h
   ·exact .inl ⟨hj,h⟩
   ·exact h.elim
  ·right
   cases e with
   | free Q v =>
    simp only[Ef.g]at h
    split at h
    ·exact h.elim
    ·exact⟨h,fun _ _ _ _ _ e=>by cases e⟩
   | wr fz Q s nv v =>
    simp only[Ef.g]at h
    split at h
    ·exfalso
     rcases he.2.2.1 with this|⟨this,_⟩<;>cases nv<;>simp_all [V.isOwner,V.names]
    ·refine⟨?_,fun fz' Q' s' nv' v' e hn=>by cases e;exact jkt hn h⟩
     have h:=jh1 h
     split at h
     ·exact ji3 h
     ·exact h
 have keep:∀s,s ∉ PV→(st.get s).isOwner=true→(∀fz Q s' nv v,e = .wr fz Q s' nv v→nv.isOwner=false→s≠s')→((e.ap o.dst st).get s).isOwner=true:=by
  intro s hs ho kp
  rw[ja3 he,if_neg (fun e'=>by rw[hd s e']at ho;cases ho)]
  cases e with
  | free Q v =>
   simp only[Ef.g]
   rw[if_neg fun h=>hs (he.2.1 s h).1];exact ho
  | wr fz Q s' nv v =>
   simp only[Ef.g]
   split
   ·rename_i es
    rcases he.2.2.1 with hn|⟨hn,_⟩
    ·exact hn
    ·exact absurd es (kp _ _ _ _ _ rfl (by rw[hn];rfl))
   ·rw[jcz,if_neg fun hq=>hs (he.2.2.2.2.2.1.2 s hq).1];exact ho
 have hv:=jhe he hf.fine.refs
 refine⟨⟨fun j s h => ?_,fun q hq j h => ?_⟩,fun iw hws j h => ?_⟩
 ·rcases nm j s h with⟨_,h⟩|⟨h,hc⟩
  ·exact keep s (hv s h).1 (hv s h).2.1 fun fz Q s' nv v e=>by subst e;exact absurd h (he.2.2.2.2.1 s)
  ·exact keep s (fun hs=>hf.fine.priv s hs j h) (hf.fine.refs j s h) hc
 ·rcases nm j q h with⟨_,h⟩|⟨h,_⟩
  ·exact(hv q h).1 hq
  ·exact hf.fine.priv q hq j h
 ·obtain⟨k1,k2,k3⟩:=hk iw hws
  rcases nm j (W.sl iw) h with⟨hj,h⟩|⟨h,_⟩
  ·cases e with
   | wr fz Q s nv v=>exact absurd h (he.2.2.2.2.1 _)
   | free Q v =>
    obtain⟨_,_,t,ht,hn⟩:=hv (W.sl iw) h
    rcases k3 i o hi he.1 with k|k
    ·exact absurd hn (jcr hf hws k1 (k t ht))
    ·exact k j hj
  ·exact hf.sr iw hws j h
structure ApartU (W:Wr) (all:List Oper) (PV:List Nat) (i j:Nat) (x y:Oper):Prop where
 ap:Apart all PV x y
 l:i∈W.ws→(isMv (W.sl i) y=true∧i ∉ W.cs)∨∀q∈looks all y,q ∉ W.sr (W.sl i)
 r:j∈W.ws→(isMv (W.sl j) x=true∧j ∉ W.cs)∨∀q∈looks all x,q ∉ W.sr (W.sl j)
theorem ne_nil_of_mem {α:Type}{l:List α}{a:α}(h:a∈l):l≠[]:=by rintro rfl;cases h
theorem jav {s:Nat}{o:Oper}(h:isMv s o=true):o.op = .move (.tmp s)∧o.guard=none∧∀t∈looks all o,t=s:=by
 unfold isMv at h
 split at h
 case h_2=>cases h
 rename_i t ho
 simp only[Bool.and_eq_true,decide_eq_true_eq,Option.isNone_iff_eq_none]at h
 obtain⟨rfl,hg⟩:=h
 refine⟨ho,hg,fun t' ht => ?_⟩
 simp[looks,ho,hg,Op.operands]at ht
 exact ht
def LAg (all:List Oper) (o:Oper) (st st2:St):Prop:=LAgree all o st st2∨∃s,isMv s o=true∧opd st2 (.tmp s)=opd st (.tmp s)
theorem jk1 {o:Oper}{st2:St}(h:LAg all o st st2):LAg all o st2 st:=by
 rcases h with h|⟨s,h1,h2⟩
 ·exact .inl (jec h)
 ·exact .inr ⟨s,h1,h2.symm⟩
theorem jim {o:Oper}{st2:St}(h:LAg all o st st2){t:Nat}(ht:t∈looks all o):opd st2 (.tmp t)=opd st (.tmp t):=by
 rcases h with h|⟨s,h1,h2⟩
 ·exact jbl fun t' e'=>by cases e';exact(h t ht).1
 ·rw[(jav (all:=all) h1).2.2 t ht];exact h2
theorem jfq {e:Ef}{i:Nat}{x y:Oper}(hk:Keeps (PV:=PV) W all) (hf:FineW W PV st) (hd:∀n,x.dst=some n→(st.get n).isOwner=false) (he:e.Ok W PV all i x st)
  (ha:∀n,x.dst=some n→n ∉ looks all y) (hq:∀q∈PV,q∈looks all x→q ∉ looks all y) (hl:i∈W.ws→(isMv (W.sl i) y=true∧i ∉ W.cs)∨∀q∈looks all y,q ∉ W.sr (W.sl i)):LAg all y st (e.ap x.dst st):=by
 cases e with
 | free Q v=>exact .inl <| jc5 hf.fine hd (fun q hq=>(he.2.1 q hq).1) ha fun q hq'=>hq q (he.2.1 q hq').1 (he.2.1 q hq').2
 | wr fz Q s nv v =>
  have he':=he
  obtain⟨h1,rfl,h3,h4,h5,h6,_⟩:=he
  obtain⟨k1,k2,k3⟩:=hk i h1
  have l2:=hl h1
  rcases l2 with⟨l2,ncs⟩|l2
  ·have h3:nv.isOwner=true:=by
    rcases h3 with h3|⟨_,h3⟩
    ·exact h3
    ·exact absurd h3 ncs
   right
   refine⟨W.sl i,l2, ?_⟩
   have e:(Ef.ap x.dst (.wr fz Q (W.sl i) nv v) st).get (W.sl i)=nv:=by
    rw[ja3 he',if_neg (fun e=>by rw[hd _ e]at h4;cases h4)]
    simp only[Ef.g,if_true]
   rw[jal,jal,e]
   have own:∀y:V,y.isOwner=true→opV (W.sl i) y = .ref (W.sl i) [] .val:=fun y hu=>by
    cases y with
    | val t f x=>cases f<;>simp_all [V.isOwner,opV]
    | _=>simp[V.isOwner]at hu
   rw[own _ h3,own _ h4]
  left
  intro t ht
  have htsr:=l2 t ht
  have hts:t≠W.sl i:=fun e=>htsr (e▸k1)
  have key:∀q,q≠W.sl i→x.dst≠some q→q ∉ Q→¬(st.get q).names (W.sl i)→(Ef.ap x.dst (.wr fz Q (W.sl i) nv v) st).get q=st.get q:=by
   intro q q1 q2 q4 q3
   rw[ja3 he',if_neg q2]
   simp only[Ef.g,if_neg q1,if_neg q4]
   exact jbd q3
  have htQ:t ∉ Q:=fun hm=>hq t (h6.2 t hm).1 (h6.2 t hm).2 ht
  refine⟨key t hts (fun e=>ha t e ht) htQ (fun hn=>htsr (hf.sr i h1 t hn)), ?_⟩
  have nm:∀q,(opd st (.tmp t)).names q→(Ef.ap x.dst (.wr fz Q (W.sl i) nv v) st).get q=st.get q:=by
   intro q hn
   have ho:=vf hf.fine.refs hn
   refine key q (fun e=>jcr hf h1 k1 htsr (e▸hn)) (fun e=>by rw[hd q e]at ho;cases ho) (fun hm => ?_) fun hnq => ?_
   ·obtain⟨t',e,h|⟨h,_⟩⟩:=qv hn
    ·exact hf.fine.priv q (h6.2 q hm).1 t' h
    ·cases e;exact htQ (h▸hm)
   ·cases hv:st.get q<;>rw[hv]at ho hnq<;>simp_all [V.isOwner,V.names]
  cases hv:opd st (.tmp t) with
  | ref q p k=>exact nm q (by rw[hv];rfl)
  | win q a b t'=>exact nm q (by rw[hv];rfl)
  | _=>trivial
theorem jhd {s:Nat}{c:Bool}{o:Oper}(h:okW A PV s c o st=true):(∃T a v p,o.op = .store T a v∧o.guard=none∧o.dst=none∧okV PV st v=true∧asAddr st (opd st a)=some (s,p))∨∃cc f S,o.op = .call cc∧cc.callee = .value (.func f)∧A.sig f=some S∧S.md.any (· != 0)=true∧((closed S.r S.rf&&mutClosed S.m S.mf)||readsOk PV st S.md cc.args.toList)=true∧oneM S=true∧o.guard=none ∧
  mutW S.md (cc.args.toList.map (opd st))=some s∧(conB S=true→c=true):=by
 unfold okW at h
 split at h
 rotate_left
 ·left
  split at h
  case h_2=>cases h
  rename_i T a v ho
  simp only[Bool.and_eq_true,Option.isNone_iff_eq_none]at h
  obtain⟨⟨⟨h1,h2⟩,h3⟩,h4⟩:=h
  split at h4
  case h_2=>cases h4
  rename_i q p hq
  simp only[decide_eq_true_eq]at h4
  subst h4
  exact⟨T,a,v,p,ho,h1,h3,h2,hq⟩
 right
 rename_i S xs hS
 unfold wrSig at hS
 split at hS
 case h_2=>cases hS
 rename_i cc ho
 split at hS
 case h_2=>cases hS
 rename_i f hc
 split at hS
 case h_2=>cases hS
 rename_i S' hS'
 split at hS
 case isFalse=>cases hS
 rename_i hcond
 simp only[Option.some.injEq,Prod.mk.injEq]at hS
 obtain⟨rfl,rfl⟩:=hS
 simp only[Bool.and_eq_true,Option.isNone_iff_eq_none]at hcond
 obtain⟨⟨c1,c4⟩,c5⟩:=hcond
 simp only[Bool.and_eq_true,Bool.or_eq_true,Bool.not_eq_true']at h
 exact⟨cc,f,S',ho,hc,hS',c1,by simpa using h.2,c4,c5,by simpa using h.1.2,fun hb=>h.1.1.resolve_left (by rw[hb];exact Bool.noConfusion)⟩
theorem jbn {st2:St}:∀{ms:List Nat}{xs:List Operand},(∀x∈xs,OAgree st st2 x)→readsOk PV st2 ms xs=readsOk PV st ms xs
 | [],xs,_=>by cases xs<;>rfl
 | m::ms,[],_=>by cases m<;>rfl
 | 0::ms,x::xs,h=>by
  simp only[readsOk]
  rw[jah (h x List.mem_cons_self),jbn fun y hy=>h y (List.mem_cons_of_mem _ hy)]
 | (m+1)::ms,x::xs,h=>by
  simp only[readsOk]
  exact jbn fun y hy=>h y (List.mem_cons_of_mem _ hy)
theorem jf2 {s:Nat}{c:Bool}{o:Oper}{st2:St}(ha:∀x∈o.op.operands,OAgree st st2 x):okW A PV s c o st2=okW A PV s c o st:=by
 unfold okW
 cases hS:wrSig A o with
 | none =>
  simp only
  split
  ·rename_i T a v ho
   have h1:=ha a (by simp[ho,Op.operands])
   have h2:=ha v (by simp[ho,Op.operands])
   rw[jah h2,h1.opd,jae h1.2]
  ·rfl
 | some p =>
  obtain⟨S,xs⟩:=p
  simp only
  have hin:∀x∈xs,x∈o.op.operands:=by
   unfold wrSig at hS
   split at hS
   case h_2=>cases hS
   rename_i cc ho
   split at hS
   case h_2=>cases hS
   rename_i f hc
   split at hS
   case h_2=>cases hS
   split at hS
   case isFalse=>cases hS
   simp only[Option.some.injEq,Prod.mk.injEq]at hS
   obtain⟨rfl,rfl⟩:=hS
   intro x hx
   rw[ho]
   simp only[Op.operands,Call.operands]
   split<;>simp_all
  have:xs.map (opd st2)=xs.map (opd st):=List.map_congr_left fun x hx=>(ha x (hin x hx)).opd
  rw[this,jbn fun x hx=>ha x (hin x hx)]
theorem je3 {Q:List Nat}{st2:St}{x:Operand}(h:OAgree st st2 x):OAgree (frzQ Q st) (frzQ Q st2) x:=by
 refine⟨fun t ht=>by rw[uh,uh,h.1 t ht], ?_⟩
 have nm:∀q,(opd (frzQ Q st) x).names q→(opd st x).names q:=by
  intro q hq
  cases x with
  | tmp t =>
   rw[jfi]at hq
   rw[jal]
   split at hq
   ·exact(je4 hq).1
   ·exact hq
  | _=>exact hq
 have key:∀q,(opd (frzQ Q st) x).names q→(frzQ Q st2).get q=(frzQ Q st).get q:=by
  intro q hq
  have h1:=nm q hq
  have h2:st2.get q=st.get q:=by
   have:=h.2
   cases hv:opd st x with
   | ref s p k=>rw[hv]at this h1;simp only[V.names]at h1;subst h1;exact this
   | win s a b t=>rw[hv]at this h1;simp only[V.names]at h1;subst h1;exact this
   | _=>rw[hv]at h1;exact h1.elim
  rw[uh,uh,h2]
 cases hv:opd (frzQ Q st) x with
 | ref s p k=>exact key s (by rw[hv];rfl)
 | win s a b t=>exact key s (by rw[hv];rfl)
 | _=>trivial
theorem jgk {i:Nat}{o:Oper}{k:St→Option ρ}{r:ρ}(hk:Keeps (PV:=PV) W all) (hp:privB2 A all PV o=true) (hf:FineW W PV st) (hd:∀n,o.dst=some n→(st.get n).isOwner=false) (h:stepU A PV W all i o st k=some r) :
  ∃e:Ef,e.Ok W PV all i o st∧k (e.ap o.dst st)=some r ∧
   ∀{σ:Type} (k':St→Option σ) (st2:St),LAg all o st st2→FineW W PV st2→(∀n,o.dst=some n→(st2.get n).isOwner=false)→stepU A PV W all i o st2 k'=k' (e.ap o.dst st2):=by
 unfold stepU at h
 split at h
 ·rename_i hi
  have hi':i∈W.ws:=by simpa using hi
  unfold stepWr at h
  split at h
  case isFalse=>cases h
  rename_i hok
  obtain⟨k1,k2,k3⟩:=hk i hi'
  rcases jhd hok with⟨T,a,v,p,ho,hg,hdn,hv,ha⟩|⟨cc,f,S,ho,hc,hS,c1,c2,c4,c5,c6,c7⟩
  ·simp only[step,ho]at h
   obtain⟨Q,nv,hQ,hnv,h1,hdet⟩:=jkf hv hf.fine.priv k2 ha h
   have hnm:(opd st a).names (W.sl i):=by
    cases hva:opd st a with
    | ref q p k =>
     rw[hva]at ha
     cases k with
     | addr=>simp only[asAddr,Option.some.injEq,Prod.mk.injEq]at ha;exact ha.1
     | val =>
      cases p with
      | cons _ _=>simp[asAddr]at ha
      | nil =>
       simp only[asAddr]at ha
       split at ha
       ·simp only[Option.some.injEq,Prod.mk.injEq]at ha;exact ha.1
       ·cases ha
    | _=>rw[hva]at ha;simp[asAddr]at ha
   obtain⟨t,rfl,_⟩:=qv hnm
   have hal:t∈looks all o:=uy (by simp[ho,Op.operands])
   have hso:(st.get (W.sl i)).isOwner=true:=vf hf.fine.refs hnm
   refine⟨.wr false Q (W.sl i) nv .u,⟨hi',rfl,.inl hnv,hso,fun q hq=>hq,⟨fun hm=>k2 (hQ _ hm).1,fun q hq=>⟨(hQ q hq).1,uy (by rw[←(hQ q hq).2];simp[ho,Op.operands])⟩⟩,t,hal,hnm,fun q=>by unfold isMv;rw[ho]⟩, ?_,fun k' st2 ha2 hf2 hd2 => ?_⟩
   ·rw[hdn]at h1 ⊢;exact h1
   have ha2:LAgree all o st st2:=by
    rcases ha2 with ha2|⟨s,hs,_⟩
    ·exact ha2
    ·have:=(jav (all:=all) hs).1;rw[ho]at this;cases this
   have hoa:=jar ha2
   unfold stepU stepWr
   rw[if_pos hi,if_pos (by rw[jf2 hoa];exact hok)]
   simp only[step,ho]
   rw[hdet _ st2 (hoa v (by simp[ho,Op.operands])) (hoa _ (by simp[ho,Op.operands])) hf2.fine.priv,hdn]
   rfl
  have hin:∀x∈cc.args.toList,x∈o.op.operands:=by
   intro x hx
   rw[ho]
   simp only[Op.operands,Call.operands]
   split<;>simp_all
  obtain⟨Q,q1,q2,q3,q4,q5⟩:=jl8 hS c1 c2 c6 k2 hf.fine.priv
  simp only[step,ho,hc]at h
  rw[q2]at h
  obtain⟨tW,htW,hnW⟩:∃t∈looks all o,(opd st (.tmp t)).names (W.sl i):=by
   obtain⟨_,m2,_⟩:=jdt c6
   obtain⟨x,hx,e⟩:=List.mem_map.1 m2
   have hn:(opd st x).names (W.sl i):=by rw[e];rfl
   obtain⟨t,rfl,_⟩:=qv hn
   exact⟨t,uy (hin _ hx),hn⟩
  have hso:(st.get (W.sl i)).isOwner=true:=vf hf.fine.refs hnW
  have hsQ:(W.sl i) ∉ Q:=fun hm=>k2 (q1 _ hm).1
  have hso':((frzQ Q st).get (W.sl i)).isOwner=true:=by rw[uh,if_neg hsQ];exact hso
  obtain⟨nv,v,hnv,h,hvn,hdet⟩:=jks hS c1 q4 c4 q3 hso' h
  have hput:∀st2:St,(st2.get (W.sl i)).isOwner=true→(∀n,o.dst=some n→(st2.get n).isOwner=false)→(wrS (W.sl i) nv (frzQ Q st2)).putO o.dst v=(wrS (W.sl i) nv (frzQ Q st2)).setO o.dst v:=fun st2 hs2 hd2=>jcd fun n hn=>by
   have:=hd2 n hn
   rw[jd5 (by rw[jbe];exact jj3 hs2),if_neg (fun e=>by rw[e,hs2]at this;cases this),jcz,uh]
   split
   ·cases hv:st2.get n<;>rw[hv]at this<;>simp_all [V.plainOf,V.isOwner]
   ·exact this
  rw[hput st hso hd]at h
  refine⟨.wr true Q (W.sl i) nv v,⟨hi',rfl,hnv.imp id (fun q=>⟨q.1,by simpa using c7 q.2⟩),hso,hvn,⟨hsQ,fun q hq=>⟨(q1 q hq).1,uy (hin _ (q1 q hq).2)⟩⟩,tW,htW,hnW,fun q=>by unfold isMv;rw[ho]⟩,h,fun k' st2 ha hf2 hd2 => ?_⟩
  have ha:LAgree all o st st2:=by
   rcases ha with ha|⟨s,hs,_⟩
   ·exact ha
   ·have:=(jav (all:=all) hs).1;rw[ho]at this;cases this
  have hoa:=jar ha
  unfold stepU stepWr
  rw[if_pos hi,if_pos (by rw[jf2 hoa];exact hok)]
  have hmap:cc.args.toList.map (opd st2)=cc.args.toList.map (opd st):=List.map_congr_left fun x hx=>(hoa x (hin x hx)).opd
  have hmap2:cc.args.toList.map (opd (frzQ Q st2))=cc.args.toList.map (opd (frzQ Q st)):=List.map_congr_left fun x hx=>(je3 (hoa x (hin x hx))).opd
  simp only[step,ho,hc]
  rw[q5 st2 hmap hf2.fine.priv,hmap2]
  have hva:∀v∈cc.args.toList.map (opd (frzQ Q st)),VAgree (frzQ Q st) (frzQ Q st2) v:=fun v hv=>by
   obtain⟨y,hy,rfl⟩:=List.mem_map.1 hv
   exact(je3 (hoa y (hin y hy))).2
  rw[hdet k' _ hva]
  have hs2:(st2.get (W.sl i)).isOwner=true:=by
   have e:opd st2 (.tmp tW)=opd st (.tmp tW):=jbl fun t' e'=>by cases e';exact(ha tW htW).1
   exact vf hf2.fine.refs (by rw[e];exact hnW)
  rw[hput st2 hs2 hd2]
  rfl
 ·rename_i hi
  have hp:privB A all PV o=true:=by
   unfold privB2 isWrO at hp
   simp only[Bool.or_eq_true]at hp
   rcases hp with(hp|hp)|hp
   rotate_left
   ·exfalso
    unfold isSto at hp
    split at hp
    case h_2=>cases hp
    rename_i T a v ho
    unfold stepGS at h
    rw[Option.isNone_iff_eq_none.1 hp]at h
    simp only[stepS]at h
    have:okS A PV o st=false:=by
     unfold okS cleanOp
     simp only[ho,Bool.or_self]
    rw[this]at h
    cases h
   ·exact hp
   ·exfalso
    obtain⟨p,hp⟩:=Option.isSome_iff_exists.1 hp
    unfold wrSig at hp
    split at hp
    case h_2=>cases hp
    rename_i cc ho
    split at hp
    case h_2=>cases hp
    rename_i f hc
    split at hp
    case h_2=>cases hp
    rename_i S hS
    split at hp
    case isFalse=>cases hp
    rename_i hcond
    simp only[Bool.and_eq_true,Option.isNone_iff_eq_none]at hcond
    obtain⟨⟨c1,c4⟩,c5⟩:=hcond
    unfold stepGS at h
    rw[c5]at h
    simp only[stepS]at h
    have:okS A PV o st=false:=by
     unfold okS cleanOp
     simp only[ho,hc,hS,c1,Bool.not_true,Bool.and_false,Bool.false_and,Bool.or_self]
    rw[this]at h
    cases h
  by_cases hmv:∃s,isMv s o=true
  ·obtain⟨s,hmv⟩:=hmv
   obtain⟨ho,hg,hlk⟩:=jav (all:=all) hmv
   have run:∀{σ:Type} (k':St→Option σ) (st2:St),stepGS A PV all o st2 k'=k' (st2.putO o.dst (opd st2 (.tmp s))):=by
    intro σ k' st2
    unfold stepGS
    rw[hg]
    simp only[stepS]
    have hc:okS A PV o st2=true:=by unfold okS cleanOp;simp[ho]
    rw[if_pos hc]
    unfold stepF
    have h1:isAsg o=none:=by simp[isAsg,ho]
    have h2:isWin A o st2=none:=by unfold isWin;simp[ho]
    simp only[h1,h2,step,ho]
   rw[run,jcd hd]at h
   have hsl:s∈looks all o:=uy (by simp[ho,Op.operands])
   refine⟨.free [] (opd st (.tmp s)),⟨by simpa using hi,by simp,fun s' hs'=>⟨rfl, ?_⟩,fun q hq=>⟨?_,s,hsl,hq⟩⟩,h,fun k' st2 ha hf2 hd2 => ?_⟩
   ·have:=(jav (all:=all) hs').1
    rw[ho]at this
    cases this;rfl
   ·obtain⟨t,e,ht|⟨ht,hw⟩⟩:=qv hq
    ·exact fun hm=>hf.fine.priv q hm t ht
    ·cases e
     subst ht
     intro hm
     unfold privB at hp
     simp only[Bool.or_eq_true,List.isEmpty_iff,Bool.and_eq_true,Bool.not_eq_true',List.all_eq_true]at hp
     rcases hp with(hp|hp)|hp
     ·rw[hp]at hm;cases hm
     ·have:cleanOp A o=true:=by unfold cleanOp;simp[ho]
      rw[hp.2]at this;cases this
     ·have:=hp s hm
      simp only[List.contains_eq_mem,decide_eq_false_iff_not]at this
      exact this hsl
   ·unfold stepU
    rw[if_neg hi,run,jcd hd2,jim ha hsl]
    rfl
  ·obtain⟨v,Q,hQ,h1,hn,hl⟩:=jdy hp hf.fine.priv h
   rw[jbb hd]at h1
   refine⟨.free Q v,⟨by simpa using hi,hQ,fun s hs=>absurd ⟨s,hs⟩ hmv,hn⟩,h1,fun k' st2 ha hf2 hd2 => ?_⟩
   have ha:LAgree all o st st2:=by
    rcases ha with ha|⟨s,hs,_⟩
    ·exact ha
    ·exact absurd ⟨s,hs⟩ hmv
   unfold stepU
   rw[if_neg hi,hl k' st2 ha hf2.fine.priv,jbb hd2]
   rfl
theorem jen {e:Ef}{i:Nat}{o:Oper}{n:Nat}(he:e.Ok W PV all i o st) (hn:o.dst≠some n) (h:(st.get n).isOwner=false):((e.ap o.dst st).get n).isOwner=false:=by
 rw[ja3 he,if_neg hn]
 cases e with
 | free Q v =>
  simp only[Ef.g]
  split
  ·rfl
  ·exact h
 | wr fz Q s nv v =>
  simp only[Ef.g]
  split
  ·rename_i e;rw[e,he.2.2.2.1]at h;cases h
  ·rw[jcz]
   split
   ·exact jk3 h
   ·exact h
theorem jip {e:Ef}{i:Nat}{o:Oper}{st2:St}(he:e.Ok W PV all i o st) (ha:LAg all o st st2) (hr:RefsOk st2):e.Ok W PV all i o st2:=by
 have eo:∀t∈looks all o,opd st2 (.tmp t)=opd st (.tmp t):=fun t ht=>jim ha ht
 cases e with
 | free Q v =>
  refine⟨he.1,he.2.1,fun s hs=>⟨(he.2.2.1 s hs).1, ?_⟩,fun s hs => ?_⟩
  ·rw[eo s (uy (by simp[(jav (all:=all) hs).1,Op.operands]))];exact(he.2.2.1 s hs).2
  obtain⟨h1,t,ht,h2⟩:=he.2.2.2 s hs
  exact⟨h1,t,ht,by rw[eo t ht];exact h2⟩
 | wr fz Q s nv v =>
  obtain⟨h1,h2,h3,h4,h5,h7,t,ht,h6,h8⟩:=he
  have h6':(opd st2 (.tmp t)).names s:=by rw[eo t ht];exact h6
  exact⟨h1,h2,h3,vf hr h6',h5,h7,t,ht,h6',h8⟩
theorem jmu {i j:Nat}{x y:Oper}{k:St→Option ρ}{r:ρ}(hk:Keeps (PV:=PV) W all) (hix:all[i]? = some x) (hjy:all[j]? = some y) (px:privB2 A all PV x=true) (py:privB2 A all PV y=true) (hf:FineW W PV st)
  (dx:∀n,x.dst=some n→(st.get n).isOwner=false) (dy:∀n,y.dst=some n→(st.get n).isOwner=false)
  (hap:ApartU W all PV i j x y) (h:stepU A PV W all i x st (fun s=>stepU A PV W all j y s k)=some r):stepU A PV W all j y st (fun s=>stepU A PV W all i x s k)=some r:=by
 obtain⟨e1,o1,h,l1⟩:=jgk hk px hf dx h
 have hf1:=jd4 hk hix hf dx o1
 have dy2:∀n,y.dst=some n→((e1.ap x.dst st).get n).isOwner=false:=fun n hn=>jen o1 (fun e=>hap.ap.c n e hn) (dy n hn)
 obtain⟨e2,o2,h,l2⟩:=jgk hk py hf1 dy2 h
 have ay:LAg all y st (e1.ap x.dst st):=jfq hk hf dx o1 hap.ap.a hap.ap.d hap.l
 have ay':LAg all y (e1.ap x.dst st) st:=jk1 ay
 have o2':e2.Ok W PV all j y st:=jip o2 ay' hf.fine.refs
 rw[l2 _ st ay' hf dy]
 have hf2:=jd4 hk hjy hf dy o2'
 have ax:LAg all x st (e2.ap y.dst st):=jfq hk hf dy o2' hap.ap.b (fun q hq hl hl2=>hap.ap.d q hq hl2 hl) hap.r
 have dx2:∀n,x.dst=some n→((e2.ap y.dst st).get n).isOwner=false:=fun n hn=>jen o2' (fun e=>hap.ap.c n hn e) (dx n hn)
 rw[l1 _ _ ax hf2 dx2,←h]
 congr 1
 have o1':e1.Ok W PV all i x (e2.ap y.dst st):=jip o1 ax hf2.fine.refs
 have fill:∀{e1 e2:Ef} {i j:Nat} {x y:Oper} {q:Nat},e1.Ok W PV all i x st→e2.Ok W PV all j y st→x.dst=some q→q ∉ looks all y→(st.get q).isOwner=false→(j∈W.ws→(isMv (W.sl j) x=true∧j ∉ W.cs)∨∀q∈looks all x,q ∉ W.sr (W.sl j)) →
   e2.g q (if q<st.length then e1.v else .u)=if q<st.length then e1.v else .u:=by
  intro e1 e2 i j x y q o1 o2 hq hl ho hr
  cases e2 with
  | free Q v=>simp only[Ef.g];rw[if_neg fun hm=>hl (o2.2.1 q hm).2]
  | wr fz Q s nv v =>
   obtain⟨h1,rfl,h3,h4,h5,h6,_⟩:=o2
   have hne:q≠W.sl j:=fun e=>by rw[e,h4]at ho;cases ho
   have hqQ:q ∉ Q:=fun hm=>hl (h6.2 q hm).2
   simp only[Ef.g,if_neg hne,if_neg hqQ]
   split
   ·rcases hr h1 with⟨r2,ncs⟩|r2
    ·cases e1 with
     | free Q1 v1 =>
      rw[(o1.2.2.1 _ r2).2]at *
      have h3:nv.isOwner=true:=by
       rcases h3 with h3|⟨_,h3⟩
       ·exact h3
       ·exact absurd h3 ncs
      show V.dropW nv (W.sl j) (opd st (.tmp (W.sl j)))=opd st (.tmp (W.sl j))
      rw[jdi h3]
      have:opd st (.tmp (W.sl j)) = .ref (W.sl j) [] .val:=by
       rw[jal]
       cases hv:st.get (W.sl j) with
       | val t f x=>rw[hv]at h4;cases f<;>simp_all [V.isOwner,opV]
       | _=>rw[hv]at h4;simp[V.isOwner]at h4
      rw[this]
      simp[V.dropIn]
     | wr _ _ _ _ _=>exact jbd (o1.2.2.2.2.1 _)
    refine jbd fun hn => ?_
    obtain⟨k1,k2,k3⟩:=hk j h1
    obtain⟨_,_,t,ht,hnt⟩:=jhe o1 hf.fine.refs _ hn
    exact jcr hf h1 k1 (r2 t ht) hnt
   ·exact dropW_u
 refine jb5 (by simp only[jb6]) fun q => ?_
 rw[ja3 o1',ja3 o2,ja3 o2',ja3 o1,jb6,jb6]
 by_cases hxq:x.dst=some q
 ·have hyq:y.dst≠some q:=hap.ap.c q hxq
  rw[if_pos hxq,if_neg hyq,if_pos hxq]
  exact(fill o1 o2' hxq (hap.ap.a q hxq) (dx q hxq) hap.r).symm
 ·rw[if_neg hxq,if_neg hxq]
  by_cases hyq:y.dst=some q
  ·rw[if_pos hyq,if_pos hyq]
   exact fill o2' o1 hyq (hap.ap.b q hyq) (dy q hyq) hap.l
  ·rw[if_neg hyq,if_neg hyq]
   cases e1 with
   | free Q1 v1 =>
    cases e2 with
    | free Q2 v2=>simp only[Ef.g];by_cases h1:q∈Q1<;>by_cases h2:q∈Q2<;>simp[h1,h2]
    | wr fz Q2 s nv v =>
     simp only[Ef.g]
     by_cases h1:q∈Q1
     ·obtain⟨k1,k2,k3⟩:=hk j o2'.1
      have hne:q≠s:=fun e=>k2 (by rw[←o2'.2.1,←e];exact(o1.2.1 q h1).1)
      have hq2:q ∉ Q2:=fun hm=>hap.ap.d q (o1.2.1 q h1).1 (o1.2.1 q h1).2 (o2'.2.2.2.2.2.1.2 q hm).2
      simp[h1,hne,hq2,dropW_u]
     ·simp[h1]
   | wr fz Q1 s nv v =>
    cases e2 with
    | free Q2 v2 =>
     simp only[Ef.g]
     by_cases h1:q∈Q2
     ·obtain⟨k1,k2,k3⟩:=hk i o1.1
      have hne:q≠s:=fun e=>k2 (by rw[←o1.2.1,←e];exact(o2'.2.1 q h1).1)
      have hq1:q ∉ Q1:=fun hm=>hap.ap.d q (o2'.2.1 q h1).1 (o1.2.2.2.2.2.1.2 q hm).2 (o2'.2.1 q h1).2
      simp[h1,hne,hq1,dropW_u]
     ·simp[h1]
    | wr fz2 Q2 s2 nv2 v2 =>
     obtain⟨a1,a2,a3,a4,a5,a6,t1,a7,a8⟩:=o1
     obtain⟨b1,b2,b3,b4,b5,b6,t2,b7,b8⟩:=o2'
     obtain⟨k1,k2,k3⟩:=hk i a1
     obtain⟨m1,m2,m3⟩:=hk j b1
     have hne:s≠s2:=by
      intro e
      subst e
      have hmem:∀t,(opd st (.tmp t)).names s→t∈W.sr (W.sl i):=fun t ht=>by
       obtain⟨t',e',h'|⟨h',_⟩⟩:=qv ht
       ·cases e';rw[a2]at h';exact hf.sr i a1 _ h'
       ·cases e';rw[h',a2];exact k1
      rcases hap.l a1 with l|l
      ·rw[b8.2]at l;cases l.1
      ·exact l t2 b7 (hmem t2 b8.1)
     have hs1Q:s ∉ Q2:=fun hm=>k2 (by rw[←a2];exact(b6.2 s hm).1)
     have hs2Q:s2 ∉ Q1:=fun hm=>m2 (by rw[←b2];exact(a6.2 s2 hm).1)
     have dj:q∈Q1→q ∉ Q2:=fun h1 h2=>hap.ap.d q (a6.2 q h1).1 (a6.2 q h1).2 (b6.2 q h2).2
     have nd:∀{n v:V} {u:Nat} {p:Prop},(v.isOwner=true∨v = .u∧p)→V.dropW n u v=v:=fun {n v u p} h=>by
      rcases h with h|⟨rfl,_⟩
      ·exact jbd (by cases v<;>simp_all [V.isOwner,V.names])
      ·exact dropW_u
     have lc:∀{f:Bool} {n:V} {u:Nat} {v:V},V.lose f (V.dropW n u v)=V.dropW n u (V.lose f v):=fun {f n u v}=>by
      cases f with
      | false=>exact dropW_u.symm
      | true =>
       by_cases hn:n.isOwner=true
       ·cases v with
        | ref r p k=>by_cases h1:r=u<;>cases p<;>cases k<;>simp[V.dropW,hn,V.dropIn,V.lose,V.plainOf,h1]
        | win r a' b' t=>by_cases h1:r=u<;>simp[V.dropW,hn,V.dropIn,V.lose,V.plainOf,h1]
        | _=>simp[V.dropW,hn,V.dropIn,V.lose,V.plainOf]
       ·cases v with
        | ref r p k=>by_cases h1:r=u<;>simp[V.dropW,hn,V.drop,V.lose,V.plainOf,h1]
        | win r a' b' t=>by_cases h1:r=u<;>simp[V.dropW,hn,V.drop,V.lose,V.plainOf,h1]
        | _=>simp[V.dropW,hn,V.drop,V.lose,V.plainOf]
     simp only[Ef.g]
     by_cases c1:q=s
     ·subst c1
      rw[if_pos rfl,if_neg hne,if_pos rfl,if_neg hs1Q,nd a3]
     ·by_cases c2:q=s2
      ·subst c2
       rw[if_neg c1,if_pos rfl,if_pos rfl,if_neg hs2Q,nd b3]
      ·rw[if_neg c1,if_neg c2,if_neg c2,if_neg c1]
       by_cases d1:q∈Q1
       ·have d2:=dj d1
        rw[if_pos d1,if_neg d2,if_neg d2,if_pos d1,lc,jcy]
       ·by_cases d2:q∈Q2
        ·rw[if_neg d1,if_pos d2,if_pos d2,if_neg d1,lc,jcy]
        ·rw[if_neg d1,if_neg d2,if_neg d2,if_neg d1,jcy]
end
end Go.Gx
