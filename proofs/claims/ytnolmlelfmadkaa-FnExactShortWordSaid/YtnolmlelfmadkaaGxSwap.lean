import Derived.Test.YtnolmlelfmadkaaGxSoft2
set_option linter.unusedSimpArgs false
set_option linter.unusedVariables false
namespace Go.Gx
open Go
section
variable {A:Cfg} {st:St} {ρ:Type} {PV:List Nat}
def LAgree (all:List Oper) (o:Oper) (st st2:St):Prop:=∀t∈looks all o,st2.get t=st.get t∧VAgree st st2 (opd st (.tmp t))
theorem jar {all:List Oper}{o:Oper}{st2:St}(ha:LAgree all o st st2):∀x∈o.op.operands,OAgree st st2 x:=by
 intro x hx
 cases x with
 | tmp t =>
  have:=ha t (List.mem_append_left _ (List.mem_filterMap.2 ⟨.tmp t,by simpa using hx,rfl⟩))
  exact⟨fun t' e=>by cases e;exact this.1,this.2⟩
 | const v =>
  refine⟨fun t e=>(by cases e), ?_⟩
  simp only[opd]
  cases v<;>simp only[constV]<;>(try exact trivial)<;>(split<;>exact trivial)
 | global g=>exact⟨fun t e=>(by cases e),trivial⟩
 | func f=>exact⟨fun t e=>(by cases e),trivial⟩
theorem uy {all:List Oper}{o:Oper}{t:Nat}(h:(.tmp t:Operand)∈o.op.operands):t∈looks all o :=
 List.mem_append_left _ (List.mem_filterMap.2 ⟨.tmp t,by simpa using h,rfl⟩)
theorem jdy {all:List Oper}{o:Oper}{k:St→Option ρ}{r:ρ}(hp:privB A all PV o=true) (hn:NoRef PV st) (h:stepGS A PV all o st k=some r) :
  ∃v Q,(∀q∈Q,q∈PV∧q∈looks all o)∧k ((clr Q st).putO o.dst v)=some r∧(∀s,v.names s→s ∉ PV∧∃t∈looks all o,(opd st (.tmp t)).names s) ∧
   ∀{σ:Type} (k':St→Option σ) (st2:St),LAgree all o st st2→NoRef PV st2→stepGS A PV all o st2 k'=k' ((clr Q st2).putO o.dst v):=by
 have hp':∀q∈PV,(.tmp q:Operand)∈o.op.operands→isCons o=true∧cleanOp A o=false:=by
  intro q hq hx
  unfold privB at hp
  simp only[Bool.or_eq_true,List.isEmpty_iff,Bool.and_eq_true,Bool.not_eq_true',List.all_eq_true]at hp
  rcases hp with(hp|hp)|hp
  ·rw[hp]at hq;cases hq
  ·exact hp
  ·have:=hp q hq
   simp only[List.contains_eq_mem,decide_eq_false_iff_not]at this
   exact absurd (uy hx) this
 have plain:∀{st':St},st'=st→stepS A PV o st' k=some r→∃v Q,(∀q∈Q,q∈PV∧q∈looks all o)∧k ((clr Q st).putO o.dst v)=some r∧(∀s,v.names s→s ∉ PV∧∃t∈looks all o,(opd st (.tmp t)).names s) ∧
   ∀{σ:Type} (k':St→Option σ) (st2:St),LAgree all o st st2→NoRef PV st2→stepS A PV o st2 k'=k' ((clr Q st2).putO o.dst v):=by
  intro st' e hstep
  rw[e]at hstep
  unfold stepS at hstep
  split at hstep
  case isFalse=>cases hstep
  rename_i hok
  obtain⟨v,Q,h1,h2,h3,h4⟩:=jkc hp' hn hok hstep
  refine⟨v,Q,fun q hq=>⟨(h1 q hq).1,uy (h1 q hq).2⟩,h2,fun s hs => ?_,fun k' st2 ha hn2 => ?_⟩
  ·obtain⟨h5,x,hx,hnm⟩:=h3 s hs
   obtain⟨t,rfl,_⟩:=qv hnm
   exact⟨h5,t,uy hx,hnm⟩
  ·unfold stepS
   rw[if_pos (by rw[jj1 (jar ha)];exact hok)]
   exact h4 k' st2 (jar ha) hn2
 unfold stepGS at h
 split at h
 ·rename_i hg
  obtain⟨v,Q,h0,h1,h2,h3⟩:=plain rfl h
  exact⟨v,Q,h0,h1,h2,fun k' st2 ha hn2=>by simp only[stepGS,hg];exact h3 k' st2 ha hn2⟩
 ·rename_i j want hg
  split at h
  ·cases h
  rename_i d hd
  split at h
  case h_3=>cases h
  case h_2 u f b hb =>
   have hl:d∈looks all o:=by simp[looks,hg,hd]
   refine⟨uV,[],by simp,h,fun s hs=>hs.elim,fun k' st2 ha _ => ?_⟩
   have h2:st2.get d = .val (.tup u) f b:=by rw[(ha d hl).1,hb]
   simp only[stepGS,hg,hd,h2]
   rfl
  rename_i f b hb
  have hl:d∈looks all o:=by simp[looks,hg,hd]
  have skip:k (St.putO st o.dst uV)=some r→(b==want)=false→∃v Q,(∀q∈Q,q∈PV∧q∈looks all o)∧k ((clr Q st).putO o.dst v)=some r∧(∀s,v.names s→s ∉ PV∧∃t∈looks all o,(opd st (.tmp t)).names s) ∧
    ∀{σ:Type} (k':St→Option σ) (st2:St),LAgree all o st st2→NoRef PV st2→stepGS A PV all o st2 k'=k' ((clr Q st2).putO o.dst v):=by
   intro h hbw
   refine⟨uV,[],by simp,h,fun s hs=>hs.elim,fun k' st2 ha _ => ?_⟩
   have h2:st2.get d = .val .bool f b:=by rw[(ha d hl).1,hb]
   simp only[stepGS,hg,hd,h2]
   cases b<;>cases want<;>simp_all [St.set_same h2,clr]
  have go:stepS A PV o st k=some r→(b==want)=true→∃v Q,(∀q∈Q,q∈PV∧q∈looks all o)∧k ((clr Q st).putO o.dst v)=some r∧(∀s,v.names s→s ∉ PV∧∃t∈looks all o,(opd st (.tmp t)).names s) ∧
    ∀{σ:Type} (k':St→Option σ) (st2:St),LAgree all o st st2→NoRef PV st2→stepGS A PV all o st2 k'=k' ((clr Q st2).putO o.dst v):=by
   intro h hbw
   obtain⟨v,Q,h0,h1,h2',h3⟩:=plain rfl h
   refine⟨v,Q,h0,h1,h2',fun k' st2 ha hn2 => ?_⟩
   have h2:st2.get d = .val .bool f b:=by rw[(ha d hl).1,hb]
   simp only[stepGS,hg,hd,h2]
   rw[←h3 k' st2 ha hn2]
   cases b<;>cases want<;>simp_all [St.set_same h2]
  cases b<;>cases want<;>simp only[cond_true,cond_false,if_true,Bool.false_eq_true,if_false,St.set_same hb]at h
  ·exact go h rfl
  ·exact skip h rfl
  ·exact skip h rfl
  ·exact go h rfl
def RefsOk (st:St):Prop:=∀i s,(st.get i).names s→(st.get s).isOwner=true
theorem vf {t s:Nat}(hr:RefsOk st) (h:(opd st (.tmp t)).names s):(st.get s).isOwner=true:=by
 simp only[opd]at h
 split at h
 ·rename_i τ f x hv
  split at h
  ·exact h.elim
  ·rename_i hf
   simp only[V.names]at h
   subst h
   rw[hv]
   cases f<;>simp_all [V.isOwner]
 ·exact hr t s h
def St.setO (st:St) (d:Option Nat) (v:V):St:=match d with
 | some n=>st.set n v
 | none=>st
def eff (Q:List Nat) (d:Option Nat) (v:V) (st:St):St:=(clr Q st).setO d v
theorem jcd {d:Option Nat}{v:V}(hd:∀n,d=some n→(st.get n).isOwner=false):st.putO d v=st.setO d v:=by
 cases d with
 | none=>rfl
 | some n=>simp only[St.putO,St.put,hd n rfl,Bool.false_eq_true,if_false,St.setO]
theorem jbb {Q:List Nat}{d:Option Nat}{v:V}(hd:∀n,d=some n→(st.get n).isOwner=false):(clr Q st).putO d v=eff Q d v st:=by
 refine jcd fun n hn => ?_
 rw[qn]
 split
 ·rfl
 ·exact hd n hn
theorem ut {Q:List Nat}{d:Option Nat}{v:V}{i:Nat}(h:d≠some i):(eff Q d v st).get i=if i∈Q then .u else st.get i:=by
 unfold eff
 cases d with
 | none=>exact qn Q st i
 | some n =>
  simp only[St.setO]
  rw[qg,if_neg,qn]
  rintro⟨rfl,_⟩
  exact h rfl
theorem uk {Q:List Nat}{d:Option Nat}{v:V}:(eff Q d v st).length=st.length:=by
 unfold eff
 cases d<;>simp[St.setO,jbq]
theorem vl {Q:List Nat}{n:Nat}{v:V}(h:n<st.length):(eff Q (some n) v st).get n=v:=by
 simp only[eff,St.setO]
 rw[qg,if_pos ⟨rfl,by rw[jbq];exact h⟩]
structure Fine (PV:List Nat) (st:St):Prop where
 refs:RefsOk st
 priv:NoRef PV st
theorem jjc {Q:List Nat}{d:Option Nat}{v:V}{t:Nat}(hf:Fine PV st) (hd:∀n,d=some n→(st.get n).isOwner=false) (hQ:∀q∈Q,q∈PV) (ht:t ∉ Q):VAgree st (eff Q d v st) (opd st (.tmp t)):=by
 have key:∀s,(opd st (.tmp t)).names s→(eff Q d v st).get s=st.get s:=by
  intro s hs
  have ho:=vf hf.refs hs
  rw[ut,if_neg]
  ·intro hsQ
   obtain⟨t',e,h|⟨h,_⟩⟩:=qv hs
   ·cases e;exact hf.priv s (hQ s hsQ) t h
   ·cases e;subst h;exact ht hsQ
  ·intro e;rw[hd s e]at ho;cases ho
 cases hv:opd st (.tmp t) with
 | ref s p k=>exact key s (by rw[hv];rfl)
 | win s a b t'=>exact key s (by rw[hv];rfl)
 | _=>trivial
theorem jc5 {all:List Oper}{o:Oper}{Q:List Nat}{d:Option Nat}{v:V}(hf:Fine PV st) (hd:∀n,d=some n→(st.get n).isOwner=false) (hQ:∀q∈Q,q∈PV) (hl:∀n,d=some n→n ∉ looks all o) (hq:∀q∈Q,q ∉ looks all o):LAgree all o st (eff Q d v st):=by
 intro t ht
 have htQ:t ∉ Q:=fun h=>hq t h ht
 refine⟨?_,jjc hf hd hQ htQ⟩
 rw[ut,if_neg htQ]
 intro e;exact hl t e ht
theorem jif (v:V):VAgree st st v:=by cases v<;>first|rfl|trivial
theorem jeb {all:List Oper}{o:Oper}:LAgree all o st st:=fun t _=>⟨rfl,jif _⟩
theorem jec {all:List Oper}{o:Oper}{st2:St}(h:LAgree all o st st2):LAgree all o st2 st:=by
 intro t ht
 have e:=(h t ht).1
 have eo:opd st2 (.tmp t)=opd st (.tmp t):=jbl fun t' e'=>by cases e';exact e
 refine⟨e.symm, ?_⟩
 rw[eo]
 have:=(h t ht).2
 cases hv:opd st (.tmp t) with
 | ref s p k=>rw[hv]at this;exact this.symm
 | win s a b t'=>rw[hv]at this;exact this.symm
 | _=>trivial
structure Apart (all:List Oper) (PV:List Nat) (x i:Oper):Prop where
 a:∀n,x.dst=some n→n ∉ looks all i
 b:∀n,i.dst=some n→n ∉ looks all x
 c:∀n,x.dst=some n→i.dst≠some n
 d:∀q∈PV,q∈looks all x→q ∉ looks all i
end
end Go.Gx
