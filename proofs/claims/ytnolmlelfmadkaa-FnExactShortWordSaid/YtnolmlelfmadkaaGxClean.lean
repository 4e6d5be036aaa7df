import Derived.Test.YtnolmlelfmadkaaGxDet
set_option linter.unusedSimpArgs false
set_option linter.unusedVariables false
namespace Go.Gx
open Go
section
variable {A:Cfg} {st:St} {ρ:Type}
theorem jji {o:Oper}{k:St→Option ρ}{r:ρ}(hc:cleanOp A o=true) (h:step A o st k=some r) :
  ∃v,k (st.putO o.dst v)=some r∧(∀s,v.names s→∃x∈o.op.operands,(opd st x).names s) ∧
   ∀{σ:Type} (k':St→Option σ) (st2:St),(∀x∈o.op.operands,opd st2 x=opd st x∧VAgree st st2 (opd st x))→step A o st2 k'=k' (st2.putO o.dst v):=by
 unfold cleanOp at hc
 split at hc
 ·rename_i x ho
  simp only[step,ho]at h
  refine⟨_,h,fun s hs=>⟨x,by simp[ho,Op.operands],hs⟩,fun k' st2 ha => ?_⟩
  simp only[step,ho,(ha x (by simp[ho,Op.operands])).1]
 ·rename_i x y z ho
  simp only[step,ho]at h
  obtain⟨v,h1,hn,h2⟩:=jj6 h
  refine⟨v,h1,fun s hs=>(hn s hs).elim,fun k' st2 ha => ?_⟩
  simp only[step,ho,(ha x (by simp[ho,Op.operands])).1,(ha y (by simp[ho,Op.operands])).1,(ha z (by simp[ho,Op.operands])).1]
  exact h2 _
 ·rename_i T x ho
  simp only[step,ho]at h
  split at h
  ·rename_i t f hT
   obtain⟨v,h1,h2,h3⟩:=jjt h
   refine⟨v,h1,fun s hs=>⟨x,by simp[ho,Op.operands],h2 s hs⟩,fun k' st2 ha => ?_⟩
   have:=ha x (by simp[ho,Op.operands])
   simp only[step,ho,hT,this.1]
   exact h3 _ st2 this.2
  ·cases h
 ·rename_i op T x y T' ho
  simp only[step,ho]at h
  obtain⟨v,h1,hn,h2⟩:=jkq h
  refine⟨v,h1,fun s hs=>(hn s hs).elim,fun k' st2 ha => ?_⟩
  simp only[step,ho,(ha x (by simp[ho,Op.operands])).1,(ha y (by simp[ho,Op.operands])).1]
  exact h2 _
 ·rename_i op T x ho
  simp only[step,ho]at h
  obtain⟨v,h1,hn,h2⟩:=jmf h
  refine⟨v,h1,fun s hs=>(hn s hs).elim,fun k' st2 ha => ?_⟩
  simp only[step,ho,(ha x (by simp[ho,Op.operands])).1]
  exact h2 _
 ·rename_i T x y ho
  simp only[step,ho]at h
  split at h
  ·rename_i t f hT
   obtain⟨v,h1,h2,h3⟩:=jfd h
   refine⟨v,h1,fun s hs=>⟨x,by simp[ho,Op.operands],h2 s hs⟩,fun k' st2 ha => ?_⟩
   have:=ha x (by simp[ho,Op.operands])
   simp only[step,ho,hT,this.1,(ha y (by simp[ho,Op.operands])).1]
   exact h3 _ st2 this.2
  ·rename_i hT0
   split at h
   case h_2=>cases h
   rename_i t f n hT
   split at h
   case h_2=>cases h
   rename_i kd fi j hj
   obtain⟨i,h,hb⟩:=jgm h
   obtain⟨v,h1,h2,h3⟩:=jcu h
   refine⟨v,h1,fun s hs=>⟨x,by simp[ho,Op.operands],h2 s hs⟩,fun k' st2 ha => ?_⟩
   have:=ha x (by simp[ho,Op.operands])
   simp only[step,ho,hT0,hT,this.1,(ha y (by simp[ho,Op.operands])).1,hj]
   rw[hb]
   exact h3 _ st2 this.2
 ·rename_i S x f ho
  simp only[step,ho]at h
  split at h
  ·rename_i fts hS
   obtain⟨v,h1,h2,h3⟩:=jcu h
   refine⟨v,h1,fun s hs=>⟨x,by simp[ho,Op.operands],h2 s hs⟩,fun k' st2 ha => ?_⟩
   have:=ha x (by simp[ho,Op.operands])
   simp only[step,ho,hS,this.1]
   exact h3 _ st2 this.2
  ·cases h
 ·rename_i x ho
  simp only[step,ho]at h
  split at h
  ·rename_i t f y hx
   cases y with
   | none=>cases h
   | some e =>
    refine⟨_,h,fun s hs=>hs.elim,fun k' st2 ha => ?_⟩
    simp only[step,ho,(ha x (by simp[ho,Op.operands])).1,hx]
    rfl
  ·rename_i t f e hx
   refine⟨_,h,fun s hs=>hs.elim,fun k' st2 ha => ?_⟩
   simp only[step,ho,(ha x (by simp[ho,Op.operands])).1,hx]
  ·rename_i s p cc hx
   split at h
   case isFalse=>cases h
   rename_i hs
   refine⟨_,h,fun q hq=>⟨x,by simp[ho,Op.operands],by rw[hx];exact hq⟩,fun k' st2 ha => ?_⟩
   have hax:=ha x (by simp[ho,Op.operands])
   have e:=hax.2
   rw[hx]at e
   simp only[step,ho,hax.1,hx]
   rw[jae e,if_pos hs]
  ·cases h
 ·rename_i T x lo hi mx ho
  simp only[step,ho]at h
  have hlo:∀y,lo=some y→y∈o.op.operands:=by intro y hy;subst hy;simp[ho,Op.operands]
  have hhi:∀y,hi=some y→y∈o.op.operands:=by intro y hy;subst hy;simp[ho,Op.operands]
  have hmap:∀(st2:St),(∀x∈o.op.operands,opd st2 x=opd st x∧VAgree st st2 (opd st x))→lo.map (opd st2)=lo.map (opd st)∧hi.map (opd st2)=hi.map (opd st):=by
   intro st2 ha
   refine⟨?_, ?_⟩
   ·cases lo with
    | none=>rfl
    | some y=>simp only[Option.map_some,(ha y (hlo y rfl)).1]
   ·cases hi with
    | none=>rfl
    | some y=>simp only[Option.map_some,(ha y (hhi y rfl)).1]
  split at h
  ·rename_i t f hT
   obtain⟨v,h1,hn,h2⟩:=je9 h
   refine⟨v,h1,fun s hs=>(hn s hs).elim,fun k' st2 ha => ?_⟩
   obtain⟨e1,e2⟩:=hmap st2 ha
   simp only[step,ho,hT,(ha x (by simp[ho,Op.operands])).1,e1,e2]
   exact h2 _
  ·rename_i f hT hm
   obtain⟨v,h1,hn,h2⟩:=je9 h
   refine⟨v,h1,fun s hs=>(hn s hs).elim,fun k' st2 ha => ?_⟩
   obtain⟨e1,e2⟩:=hmap st2 ha
   simp only[step,ho,hT,hm,(ha x (by simp[ho,Op.operands])).1,e1,e2]
   exact h2 _
  ·cases h
 ·rename_i T x y ho
  simp only[step,ho]at h
  split at h
  case h_2=>cases h
  rename_i f hT
  split at h
  case h_2=>cases h
  rename_i f1 xs kd f2 n hx hy
  cases hz:atI xs n with
  | none=>rw[hz]at h;cases h
  | some z =>
   rw[hz]at h
   refine⟨_,h,fun s hs=>hs.elim,fun k' st2 ha => ?_⟩
   simp only[step,ho,hT,(ha x (by simp[ho,Op.operands])).1,(ha y (by simp[ho,Op.operands])).1,hx,hy,hz]
   rfl
 ·rename_i e ho
  simp only[step,ho]at h
  split at h
  case h_2=>cases h
  rename_i t f hT
  split at h
  case isFalse=>cases h
  rename_i hz
  refine⟨_,h,fun s hs=>hs.elim,fun k' st2 ha => ?_⟩
  simp only[step,ho,hT,hz,if_true]
 ·rename_i T l cc ho
  simp only[step,ho]at h
  split at h
  case h_2=>cases h
  rename_i t f hT
  split at h
  case isFalse=>cases h
  rename_i hz
  split at h
  case h_2=>cases h
  rename_i k1 f1 m k2 f2 n hl hc
  cases h1:mkI (zeroTy t) n with
  | none=>rw[h1]at h;cases h
  | some z1 =>
   cases h2:mkI (zeroTy t) m with
   | none=>rw[h1,h2]at h;cases h
   | some z2 =>
    rw[h1,h2]at h
    simp only[Option.bind_some]at h
    cases h3:decide (m≤n) with
    | false=>rw[h3]at h;cases h
    | true =>
     rw[h3]at h
     refine⟨_,h,fun s hs=>hs.elim,fun k' st2 ha => ?_⟩
     simp only[step,ho,hT,hz,if_true,(ha l (by simp[ho,Op.operands])).1,(ha cc (by simp[ho,Op.operands])).1,hl,hc,h1,h2,Option.bind_some,h3]
     rfl
 ·rename_i s d x ho
  simp only[step,ho]at h
  split at h
  case isFalse=>cases h
  rename_i hs
  obtain⟨v,h1,hn,h2⟩:=jjk h
  refine⟨v,h1,fun s hs=>(hn s hs).elim,fun k' st2 ha => ?_⟩
  have hax:=ha x (by simp[ho,Op.operands])
  simp only[step,ho,hs,if_true,hax.1]
  exact h2 _ st2 hax.2
 ·rename_i fn first captured ho
  cases fn<;>simp only[step,ho,reduceCtorEq]at h
  rename_i f
  obtain⟨u,x,h,hd⟩:=jfk h
  refine⟨_,h,fun s hs=>hs.elim,fun k' st2 ha => ?_⟩
  have hmap:(first.toList++captured.toList).map (opd st2)=(first.toList++captured.toList).map (opd st):=List.map_congr_left fun x hx=>(ha x (by
   rw[ho]
   simp only[Op.operands,Array.mem_append]
   rcases List.mem_append.1 hx with hx|hx
   ·exact .inl (Array.mem_def.2 hx)
   ·exact .inr (Array.mem_def.2 hx))).1
  simp only[step,ho,hmap]
  exact hd _
 ·rename_i T x i ok ho
  simp only[step,ho]at h
  obtain⟨v,h1,hn,h2⟩:=jh3 h
  refine⟨v,h1,fun s hs=>(hn s hs).elim,fun k' st2 ha => ?_⟩
  have hax:=ha x (by simp[ho,Op.operands])
  have hai:=ha i (by simp[ho,Op.operands])
  simp only[step,ho]
  exact h2 _ st2 hax.1 hai.1 hax.2 hai.2
 ·rename_i T n ps ho
  simp only[step,ho]at h
  split at h
  case h_2=>cases h
  rename_i t f hT
  rw[hT]at hc
  simp only at hc
  split at h
  case isFalse=>cases h
  rename_i hn
  obtain⟨gs,xs,h,hd⟩:=jed hc h
  refine⟨_,h,fun s hs=>hs.elim,fun k' st2 ha => ?_⟩
  simp only[step,ho,hT]
  rw[if_pos hn,hd _ st2 fun p hp=>ha p.2 (by
   rw[ho]
   simp only[Op.operands]
   refine List.mem_toArray.2 (List.mem_map.2 ⟨p,hp,rfl⟩))]
 ·rename_i cc ho
  have hin:∀x∈cc.args.toList,x∈o.op.operands:=by
   intro x hx
   rw[ho]
   simp only[Op.operands,Call.operands]
   split<;>simp_all
  split at hc
  ·rename_i hcal
   simp only[step,ho,hcal]at h
   split at h
   ·rename_i x T hx hT
    have hax:=hin x (by rw[hx];simp)
    split at h
    ·rename_i hv
     split at h
     ·rename_i hs
      refine⟨_,h,fun s hs=>hs.elim,fun k' st2 ha => ?_⟩
      simp only[step,ho,hcal,hx,hT,(ha x hax).1,hv,hs,if_true]
     ·cases h
    ·rename_i hv
     obtain⟨t,f,e,h,hd⟩:=jbj h
     obtain⟨n,h,hl⟩:=jk2 h
     refine⟨_,h,fun s hs=>hs.elim,fun k' st2 ha => ?_⟩
     have hh:=ha x hax
     simp only[step,ho,hcal,hx,hT,hh.1]
     rw[hd _ st2 hh.2,hl]
   ·cases h
  ·rename_i t hcal
   simp only[step,ho,hcal]at h
   split at h
   case h_2=>cases h
   rename_i f nf u y hs
   cases hl:capsV u y with
   | none=>rw[hl]at h;cases h
   | some l =>
    rw[hl]at h
    simp only[Option.bind_some]at h
    have ht:(.tmp t:Operand)∈o.op.operands:=by rw[ho];simp[Op.operands,Call.operands,hcal]
    obtain⟨v,h1,hn,h2⟩:=jjj h
    refine⟨v,h1,fun s hs=>(hn s hs).elim,fun k' st2 ha => ?_⟩
    have hmap:cc.args.toList.map (opd st2)=cc.args.toList.map (opd st):=List.map_congr_left fun x hx=>(ha x (hin x hx)).1
    simp only[step,ho,hcal,(ha _ ht).1,hs,hl,Option.bind_some,hmap]
    refine h2 k' st2 fun v hv => ?_
    simp only[List.mem_append]at hv
    rcases hv with(hv|hv)|hv
    ·have:=jcl hl v (List.mem_of_mem_take hv)
     cases v<;>first|trivial|exact(this _ rfl).elim
    ·obtain⟨x,hx,rfl⟩:=List.mem_map.1 hv
     exact(ha x (hin x hx)).2
    ·have:=jcl hl v (List.mem_of_mem_drop hv)
     cases v<;>first|trivial|exact(this _ rfl).elim
  ·rename_i f hcal
   simp only[step,ho,hcal]at h
   have hpre:∀(s:St) (vs:List V),preK A f vs s=s:=fun s vs=>jiq fun S hS=>by rw[hS]at hc;simp only[Bool.and_eq_true,Bool.not_eq_true']at hc;exact hc.2
   rw[hpre]at h
   obtain⟨v,h1,hn,h2⟩:=jjh (fun S hS=>by rw[hS]at hc;simpa using hc) h
   refine⟨v,h1,fun s hs=>(hn s hs).elim,fun k' st2 ha => ?_⟩
   have hmap:cc.args.toList.map (opd st2)=cc.args.toList.map (opd st):=List.map_congr_left fun x hx=>(ha x (hin x hx)).1
   simp only[step,ho,hcal,hpre,hmap]
   refine h2 k' st2 fun v hv => ?_
   obtain⟨x,hx,rfl⟩:=List.mem_map.1 hv
   exact(ha x (hin x hx)).2
  ·cases hc
 ·cases hc
end
end Go.Gx
