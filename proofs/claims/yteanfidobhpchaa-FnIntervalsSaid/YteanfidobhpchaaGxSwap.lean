import Derived.Test.YteanfidobhpchaaGxSoft2
set_option linter.unusedSimpArgs false
set_option linter.unusedVariables false
namespace Go.Gx
open Go
section
variable {A:Cfg} {st:St} {ρ:Type} {PV:List Nat}
def LAgree (all:List Oper) (o:Oper) (st st2:St):Prop:=∀t∈looks all o,st2.get t=st.get t∧VAgree st st2 (opd st (.tmp t))
theorem jag {all:List Oper}{o:Oper}{st2:St}(ha:LAgree all o st st2):∀x∈o.op.operands,OAgree st st2 x:=by
 intro x hx
 cases x with
 | tmp t =>
  have:=ha t (List.mem_append_left _ (List.mem_filterMap.2 ⟨.tmp t,by simpa using hx,rfl⟩))
  exact⟨fun t' e=>by cases e;exact this.1,this.2⟩
 | const v =>
  refine⟨fun t e=>(by cases e), ?_⟩
  simp only[opd]
  cases v<;>simp only[constV]<;>(try exact trivial)<;>(split<;>exact trivial)
 | global g=>exact⟨fun t e=>(by cases e),trivial⟩
 | func f=>exact⟨fun t e=>(by cases e),trivial⟩
theorem uk {all:List Oper}{o:Oper}{t:Nat}(h:(.tmp t:Operand)∈o.op.operands):t∈looks all o :=
 List.mem_append_left _ (List.mem_filterMap.2 ⟨.tmp t,by simpa using h,rfl⟩)
theorem jda {all:List Oper}{o:Oper}{k:St→Option ρ}{r:ρ}(hp:privB A all PV o=true) (hn:NoRef PV st) (h:stepGS A PV all o st k=some r) :
  ∃v Q,(∀q∈Q,q∈PV∧q∈looks all o)∧k ((clr Q st).putO o.dst v)=some r∧(∀s,v.names s→s ∉ PV∧∃t∈looks all o,(opd st (.tmp t)).names s) ∧
   ∀{σ:Type} (k':St→Option σ) (st2:St),LAgree all o st st2→NoRef PV st2→stepGS A PV all o st2 k'=k' ((clr Q st2).putO o.dst v):=by
 have hp':∀q∈PV,(.tmp q:Operand)∈o.op.operands→isCons o=true∧cleanOp A o=false:=by
  intro q hq hx
  unfold privB at hp
  simp only[Bool.or_eq_true,List.isEmpty_iff,Bool.and_eq_true,Bool.not_eq_true',List.all_eq_true]at hp
  rcases hp with(hp|hp)|hp
  ·rw[hp]at hq;cases hq
  ·exact hp
  ·have:=hp q hq
   simp only[List.contains_eq_mem,decide_eq_false_iff_not]at this
   exact absurd (uk hx) this
 have plain:∀{st':St},st'=st→stepS A PV o st' k=some r→∃v Q,(∀q∈Q,q∈PV∧q∈looks all o)∧k ((clr Q st).putO o.dst v)=some r∧(∀s,v.names s→s ∉ PV∧∃t∈looks all o,(opd st (.tmp t)).names s) ∧
   ∀{σ:Type} (k':St→Option σ) (st2:St),LAgree all o st st2→NoRef PV st2→stepS A PV o st2 k'=k' ((clr Q st2).putO o.dst v):=by
  intro st' e hstep
  rw[e]at hstep
  unfold stepS at hstep
  split at hstep
  case isFalse=>cases hstep
  rename_i hok
  obtain⟨v,Q,h1,h2,h3,h4⟩:=jjf hp' hn hok hstep
  refine⟨v,Q,fun q hq=>⟨(h1 q hq).1,uk (h1 q hq).2⟩,h2,fun s hs => ?_,fun k' st2 ha hn2 => ?_⟩
  ·obtain⟨h5,x,hx,hnm⟩:=h3 s hs
   obtain⟨t,rfl,_⟩:=qo hnm
   exact⟨h5,t,uk hx,hnm⟩
  ·unfold stepS
   rw[if_pos (by rw[ji5 (jag ha)];exact hok)]
   exact h4 k' st2 (jag ha) hn2
 unfold stepGS at h
 split at h
 ·rename_i hg
  obtain⟨v,Q,h0,h1,h2,h3⟩:=plain rfl h
  exact⟨v,Q,h0,h1,h2,fun k' st2 ha hn2=>by simp only[stepGS,hg];exact h3 k' st2 ha hn2⟩
 ·rename_i j want hg
  split at h
  ·cases h
  rename_i d hd
  split at h
  case h_3=>cases h
  case h_2 u f b hb =>
   have hl:d∈looks all o:=by simp[looks,hg,hd]
   refine⟨uV,[],by simp,h,fun s hs=>hs.elim,fun k' st2 ha _ => ?_⟩
   have h2:st2.get d = .val (.tup u) f b:=by rw[(ha d hl).1,hb]
   simp only[stepGS,hg,hd,h2]
   rfl
  rename_i f b hb
  have hl:d∈looks all o:=by simp[looks,hg,hd]
  have skip:k (St.putO st o.dst uV)=some r→(b==want)=false→∃v Q,(∀q∈Q,q∈PV∧q∈looks all o)∧k ((clr Q st).putO o.dst v)=some r∧(∀s,v.names s→s ∉ PV∧∃t∈looks all o,(opd st (.tmp t)).names s) ∧
    ∀{σ:Type} (k':St→Option σ) (st2:St),LAgree all o st st2→NoRef PV st2→stepGS A PV all o st2 k'=k' ((clr Q st2).putO o.dst v):=by
   intro h hbw
   refine⟨uV,[],by simp,h,fun s hs=>hs.elim,fun k' st2 ha _ => ?_⟩
   have h2:st2.get d = .val .bool f b:=by rw[(ha d hl).1,hb]
   simp only[stepGS,hg,hd,h2]
   cases b<;>cases want<;>simp_all [St.set_same h2,clr]
  have go:stepS A PV o st k=some r→(b==want)=true→∃v Q,(∀q∈Q,q∈PV∧q∈looks all o)∧k ((clr Q st).putO o.dst v)=some r∧(∀s,v.names s→s ∉ PV∧∃t∈looks all o,(opd st (.tmp t)).names s) ∧
    ∀{σ:Type} (k':St→Option σ) (st2:St),LAgree all o st st2→NoRef PV st2→stepGS A PV all o st2 k'=k' ((clr Q st2).putO o.dst v):=by
   intro h hbw
   obtain⟨v,Q,h0,h1,h2',h3⟩:=plain rfl h
   refine⟨v,Q,h0,h1,h2',fun k' st2 ha hn2 => ?_⟩
   have h2:st2.get d = .val .bool f b:=by rw[(ha d hl).1,hb]
   simp only[stepGS,hg,hd,h2]
   rw[←h3 k' st2 ha hn2]
   cases b<;>cases want<;>simp_all [St.set_same h2]
  cases b<;>cases want<;>simp only[cond_true,cond_false,if_true,Bool.false_eq_true,if_false,St.set_same hb]at h
  ·exact go h rfl
  ·exact skip h rfl
  ·exact skip h rfl
  ·exact go h rfl
def RefsOk (st:St):Prop:=∀i s,(st.get i).names s→(st.get s).isOwner=true
theorem um {t s:Nat}(hr:RefsOk st) (h:(opd st (.tmp t)).names s):(st.get s).isOwner=true:=by
 simp only[opd]at h
 split at h
 ·rename_i τ f x hv
  split at h
  ·exact h.elim
  ·rename_i hf
   simp only[V.names]at h
   subst h
   rw[hv]
   cases f<;>simp_all [V.isOwner]
 ·exact hr t s h
def St.setO (st:St) (d:Option Nat) (v:V):St:=match d with
 | some n=>st.set n v
 | none=>st
def eff (Q:List Nat) (d:Option Nat) (v:V) (st:St):St:=(clr Q st).setO d v
theorem jbv {d:Option Nat}{v:V}(hd:∀n,d=some n→(st.get n).isOwner=false):st.putO d v=st.setO d v:=by
 cases d with
 | none=>rfl
 | some n=>simp only[St.putO,St.put,hd n rfl,Bool.false_eq_true,if_false,St.setO]
theorem jau {Q:List Nat}{d:Option Nat}{v:V}(hd:∀n,d=some n→(st.get n).isOwner=false):(clr Q st).putO d v=eff Q d v st:=by
 refine jbv fun n hn => ?_
 rw[qg]
 split
 ·rfl
 ·exact hd n hn
theorem uf {Q:List Nat}{d:Option Nat}{v:V}{i:Nat}(h:d≠some i):(eff Q d v st).get i=if i∈Q then .u else st.get i:=by
 unfold eff
 cases d with
 | none=>exact qg Q st i
 | some n =>
  simp only[St.setO]
  rw[qb,if_neg,qg]
  rintro⟨rfl,_⟩
  exact h rfl
theorem ua {Q:List Nat}{d:Option Nat}{v:V}:(eff Q d v st).length=st.length:=by
 unfold eff
 cases d<;>simp[St.setO,jbb]
theorem uv {Q:List Nat}{n:Nat}{v:V}(h:n<st.length):(eff Q (some n) v st).get n=v:=by
 simp only[eff,St.setO]
 rw[qb,if_pos ⟨rfl,by rw[jbb];exact h⟩]
structure Fine (PV:List Nat) (st:St):Prop where
 refs:RefsOk st
 priv:NoRef PV st
theorem jf7 {Q:List Nat}{d:Option Nat}{v:V}(hf:Fine PV st) (hd:∀n,d=some n→(st.get n).isOwner=false) (hQ:∀q∈Q,q∈PV) (hv:∀s,v.names s→s ∉ PV∧(st.get s).isOwner=true):Fine PV (eff Q d v st):=by
 have keep:∀s,s ∉ PV→(st.get s).isOwner=true→((eff Q d v st).get s).isOwner=true:=by
  intro s hs ho
  rw[uf,if_neg fun h=>hs (hQ s h)]
  ·exact ho
  ·intro e;rw[hd s e]at ho;cases ho
 have nm:∀i s,((eff Q d v st).get i).names s→v.names s∨(st.get i).names s:=by
  intro i s h
  by_cases hi:d=some i
  ·subst hi
   by_cases hlt:i<st.length
   ·rw[uv hlt]at h;exact .inl h
   ·rw[jz _ i (by rw[ua];omega)]at h;exact h.elim
  ·rw[uf hi]at h
   split at h
   ·exact h.elim
   ·exact .inr h
 refine⟨fun i s h => ?_,fun q hq i h => ?_⟩
 ·rcases nm i s h with h|h
  ·exact keep s (hv s h).1 (hv s h).2
  ·exact keep s (fun hs=>hf.priv s hs i h) (hf.refs i s h)
 ·rcases nm i q h with h|h
  ·exact(hv q h).1 hq
  ·exact hf.priv q hq i h
theorem jif {Q:List Nat}{d:Option Nat}{v:V}{t:Nat}(hf:Fine PV st) (hd:∀n,d=some n→(st.get n).isOwner=false) (hQ:∀q∈Q,q∈PV) (ht:t ∉ Q):VAgree st (eff Q d v st) (opd st (.tmp t)):=by
 have key:∀s,(opd st (.tmp t)).names s→(eff Q d v st).get s=st.get s:=by
  intro s hs
  have ho:=um hf.refs hs
  rw[uf,if_neg]
  ·intro hsQ
   obtain⟨t',e,h|⟨h,_⟩⟩:=qo hs
   ·cases e;exact hf.priv s (hQ s hsQ) t h
   ·cases e;subst h;exact ht hsQ
  ·intro e;rw[hd s e]at ho;cases ho
 cases hv:opd st (.tmp t) with
 | ref s p k=>exact key s (by rw[hv];rfl)
 | win s a b t'=>exact key s (by rw[hv];rfl)
 | _=>trivial
theorem jcj {all:List Oper}{o:Oper}{Q:List Nat}{d:Option Nat}{v:V}(hf:Fine PV st) (hd:∀n,d=some n→(st.get n).isOwner=false) (hQ:∀q∈Q,q∈PV) (hl:∀n,d=some n→n ∉ looks all o) (hq:∀q∈Q,q ∉ looks all o):LAgree all o st (eff Q d v st):=by
 intro t ht
 have htQ:t ∉ Q:=fun h=>hq t h ht
 refine⟨?_,jif hf hd hQ htQ⟩
 rw[uf,if_neg htQ]
 intro e;exact hl t e ht
theorem jhm (v:V):VAgree st st v:=by cases v<;>first|rfl|trivial
theorem jdo {all:List Oper}{o:Oper}:LAgree all o st st:=fun t _=>⟨rfl,jhm _⟩
theorem jdp {all:List Oper}{o:Oper}{st2:St}(h:LAgree all o st st2):LAgree all o st2 st:=by
 intro t ht
 have e:=(h t ht).1
 have eo:opd st2 (.tmp t)=opd st (.tmp t):=ja3 fun t' e'=>by cases e';exact e
 refine⟨e.symm, ?_⟩
 rw[eo]
 have:=(h t ht).2
 cases hv:opd st (.tmp t) with
 | ref s p k=>rw[hv]at this;exact this.symm
 | win s a b t'=>rw[hv]at this;exact this.symm
 | _=>trivial
structure Apart (all:List Oper) (PV:List Nat) (x i:Oper):Prop where
 a:∀n,x.dst=some n→n ∉ looks all i
 b:∀n,i.dst=some n→n ∉ looks all x
 c:∀n,x.dst=some n→i.dst≠some n
 d:∀q∈PV,q∈looks all x→q ∉ looks all i
theorem swap_ok {all:List Oper}{x i:Oper}{k:St→Option ρ}{r:ρ}(px:privB A all PV x=true) (pi:privB A all PV i=true) (hf:Fine PV st) (dx:∀n,x.dst=some n→(st.get n).isOwner=false) (di:∀n,i.dst=some n→(st.get n).isOwner=false)
  (hap:Apart all PV x i) (h:stepGS A PV all x st (fun s=>stepGS A PV all i s k)=some r):stepGS A PV all i st (fun s=>stepGS A PV all x s k)=some r:=by
 obtain⟨v1,Q1,q1,h,n1,l1⟩:=jda px hf.priv h
 rw[jau dx]at h
 have nm:∀{o:Oper} {v:V},(∀s,v.names s→s ∉ PV∧∃t∈looks all o,(opd st (.tmp t)).names s)→∀s,v.names s→s ∉ PV∧(st.get s).isOwner=true:=by
  intro o v hn s hs
  obtain⟨h1,t,_,h2⟩:=hn s hs
  exact⟨h1,um hf.refs h2⟩
 have hf1:Fine PV (eff Q1 x.dst v1 st):=jf7 hf dx (fun q hq=>(q1 q hq).1) (nm n1)
 have di2:∀n,i.dst=some n→((eff Q1 x.dst v1 st).get n).isOwner=false:=by
  intro n hn
  rw[uf fun e=>hap.c n e hn]
  split
  ·rfl
  ·exact di n hn
 obtain⟨v2,Q2,q2,h,n2,l2⟩:=jda pi hf1.priv h
 rw[jau di2]at h
 have hi1:LAgree all i (eff Q1 x.dst v1 st) st:=jdp (jcj hf dx (fun q hq=>(q1 q hq).1) hap.a fun q hq=>hap.d q (q1 q hq).1 (q1 q hq).2)
 rw[l2 _ st hi1 hf.priv,jau di]
 have n2':∀s,v2.names s→s ∉ PV∧(st.get s).isOwner=true:=by
  intro s hs
  obtain⟨h1,t,ht,h2⟩:=n2 s hs
  refine⟨h1, ?_⟩
  have eo:opd (eff Q1 x.dst v1 st) (.tmp t)=opd st (.tmp t):=ja3 fun t' e'=>by cases e';exact((hi1 t ht).1).symm
  rw[eo]at h2
  exact um hf.refs h2
 have hf2:Fine PV (eff Q2 i.dst v2 st):=jf7 hf di (fun q hq=>(q2 q hq).1) n2'
 have hx1:LAgree all x st (eff Q2 i.dst v2 st):=jcj hf di (fun q hq=>(q2 q hq).1) hap.b fun q hq hl=>hap.d q (q2 q hq).1 hl (q2 q hq).2
 rw[l1 _ _ hx1 hf2.priv]
 have dx2:∀n,x.dst=some n→((eff Q2 i.dst v2 st).get n).isOwner=false:=by
  intro n hn
  rw[uf fun e=>hap.c n hn e]
  split
  ·rfl
  ·exact dx n hn
 rw[jau dx2,←h]
 congr 1
 refine jca (by simp only[ua]) fun j => ?_
 by_cases hjx:x.dst=some j
 ·have hji:i.dst≠some j:=hap.c j hjx
  have hj2:j ∉ Q2:=fun hq=>hap.a j hjx (q2 j hq).2
  by_cases hlt:j<st.length
  ·rw[hjx,uv (by rw[ua];exact hlt),uf hji,if_neg hj2,uv hlt]
  ·rw[jz _ j (by simp only[ua];omega),jz _ j (by simp only[ua];omega)]
 ·by_cases hji:i.dst=some j
  ·have hj1:j ∉ Q1:=fun hq=>hap.b j hji (q1 j hq).2
   by_cases hlt:j<st.length
   ·rw[hji,uv (by rw[ua];exact hlt),uf hjx,if_neg hj1,uv hlt]
   ·rw[jz _ j (by simp only[ua];omega),jz _ j (by simp only[ua];omega)]
  ·rw[uf hjx,uf hji,uf hji,uf hjx]
   by_cases h1:j∈Q1<;>by_cases h2:j∈Q2<;>simp[h1,h2]
end
end Go.Gx
