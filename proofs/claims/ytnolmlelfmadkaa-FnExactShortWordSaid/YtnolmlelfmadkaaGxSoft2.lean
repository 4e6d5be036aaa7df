import Derived.Test.YtnolmlelfmadkaaGxSoft
set_option linter.unusedSimpArgs false
set_option linter.unusedVariables false
namespace Go.Gx
open Go
section
variable {A:Cfg} {st:St} {ρ:Type} {PV:List Nat}
theorem qv {x:Operand}{s:Nat}(h:(opd st x).names s):∃t,x = .tmp t∧((st.get t).names s∨(t=s∧(opd st x).isWhole=true)):=by
 cases x with
 | tmp t =>
  refine⟨t,rfl, ?_⟩
  simp only[opd]at h ⊢
  split at h
  ·rename_i τ f e hv
   split at h
   ·exact h.elim
   ·rename_i hf
    simp only[V.names]at h
    right
    refine⟨h, ?_⟩
    rfl
  ·exact .inl h
 | const v =>
  exfalso
  simp only[opd]at h
  cases v<;>simp only[constV]at h<;>(try exact h)<;>(split at h<;>exact h)
 | global g=>exact h.elim
 | func f=>exact h.elim
theorem vv {α:Type}{p q:α→Bool}:∀{l:List α},(∀x∈l,p x=q x)→l.all p=l.all q
 | [],_=>rfl
 | x::l,h=>by
  simp only[List.all_cons]
  rw[h x List.mem_cons_self,vv fun y hy=>h y (List.mem_cons_of_mem _ hy)]
theorem jah {st2:St}{x:Operand}(h:OAgree st st2 x):okV PV st2 x=okV PV st x:=by
 unfold okV
 rw[h.opd]
 cases x with
 | tmp q=>simp only[h.1 q rfl]
 | _=>rfl
theorem jj1 {st2:St}{o:Oper}(h:∀x∈o.op.operands,OAgree st st2 x):okS A PV o st2=okS A PV o st:=by
 unfold okS
 congr 1
 split
 ·rename_i x ho
  rw[jah (h x (by simp[ho,Op.operands])),(h x (by simp[ho,Op.operands])).opd]
 ·rename_i x i ho
  rw[(h x (by simp[ho,Op.operands])).opd]
 ·rename_i e x ho
  rw[jah (h x (by simp[ho,Op.operands]))]
 ·rename_i T n ps ho
  refine vv fun p hp => ?_
  rw[jah (h p.2 (by rw[ho];simp only[Op.operands];exact List.mem_toArray.2 (List.mem_map.2 ⟨p,hp,rfl⟩)))]
 ·rename_i T ps ho
  refine vv fun p hp => ?_
  rw[jah (h p.2 (by rw[ho];simp only[Op.operands];exact List.mem_toArray.2 (List.mem_map.2 ⟨p,hp,rfl⟩)))]
 ·rename_i cc ho
  have hin:∀x∈cc.args.toList,x∈o.op.operands:=by
   intro x hx
   rw[ho]
   simp only[Op.operands,Call.operands]
   split<;>simp_all
  split
  ·rename_i f hc
   split
   ·rename_i S hS
    congr 2
    refine vv fun x hx => ?_
    rw[(h x (hin x hx)).opd]
   ·rfl
  ·refine vv fun x hx => ?_
   rw[jah (h x (hin x hx))]
  ·rfl
 ·rfl
theorem jca:∀{vs:List V}{st:St},(vs.all V.noRef)=true→freezeAll st vs=st
 | [],_,_=>rfl
 | v::vs,st,h=>by
  simp only[List.all_cons,Bool.and_eq_true]at h
  cases v<;>simp only[V.noRef,Bool.false_eq_true,false_and]at h<;>(simp only[freezeAll];exact jca h.2)
def Loc (A:Cfg) (PV:List Nat) (o:Oper) (st:St) (k:St→Option ρ) (r:ρ):Prop :=
 ∃v Q,(∀q∈Q,q∈PV∧(.tmp q:Operand)∈o.op.operands)∧k ((clr Q st).putO o.dst v)=some r∧(∀s,v.names s→s ∉ PV∧∃x∈o.op.operands,(opd st x).names s) ∧
  ∀{σ:Type} (k':St→Option σ) (st2:St),(∀x∈o.op.operands,OAgree st st2 x)→NoRef PV st2→step A o st2 k'=k' ((clr Q st2).putO o.dst v)
theorem jin {o:Oper}{k:St→Option ρ}{r:ρ}{t:Ty}{f:Fl}{e:t.den}(h:k (st.putO o.dst (.val t f e))=some r)
  (hd:∀{σ:Type} (k':St→Option σ) (st2:St),(∀x∈o.op.operands,OAgree st st2 x)→step A o st2 k'=k' (st2.putO o.dst (.val t f e))):Loc A PV o st k r :=
 ⟨_,[],by simp,h,fun s hs=>hs.elim,fun k' st2 ha _=>hd k' st2 ha⟩
theorem jlf {o:Oper}{k:St→Option ρ}{r:ρ}(hp:∀q∈PV,(.tmp q:Operand)∈o.op.operands→isCons o=true∧cleanOp A o=false) (hn:NoRef PV st) (hw:∀x,o.op = .assign x→(opd st x).isWhole=false) (hok:okS A PV o st=true) (h:step A o st k=some r):Loc A PV o st k r:=by
 unfold okS at hok
 simp only[Bool.or_eq_true]at hok
 by_cases hc:cleanOp A o=true
 ·obtain⟨v,h1,h2,h3⟩:=jji hc h
  refine⟨v,[],by simp,h1,fun s hs => ?_,fun k' st2 ha _=>h3 k' st2 fun x hx=>⟨(ha x hx).opd,(ha x hx).2⟩⟩
  obtain⟨x,hx,hnm⟩:=h2 s hs
  refine⟨fun hs' => ?_,x,hx,hnm⟩
  obtain⟨t,rfl,ht|⟨rfl,_⟩⟩:=qv hnm
  ·exact hn s hs' t ht
  ·rw[(hp t hs' hx).2]at hc;cases hc
 rcases hok with hok|hok
 ·exact absurd hok hc
 split at hok
 ·rename_i x ho
  simp only[Bool.and_eq_true,Bool.not_eq_true']at hok
  cases hd:o.dst with
  | none=>rw[hd]at hok;simp at hok
  | some d =>
   simp only[step,ho,hd]at h
   have hx:x∈o.op.operands:=by simp[ho,Op.operands]
   have key:∀{σ:Type} (k':St→Option σ) (st2:St),assignK st2 d (opd st x) k'=k' (st2.put d (opd st x)):=by
    intro σ k' st2
    unfold assignK
    split
    ·rename_i s hv;have:=hw x ho;rw[hv]at this;simp[V.isWhole]at this
    ·rfl
   rw[key]at h
   refine⟨opd st x,[],by simp,by rw[hd];exact h,fun s hs=>⟨fun hs' => ?_,x,hx,hs⟩,fun k' st2 ha _ => ?_⟩
   ·obtain⟨t,rfl,ht|⟨rfl,hwh⟩⟩:=qv hs
    ·exact hn s hs' t ht
    ·rename_i hwh;rw[hw _ ho]at hwh;cases hwh
   ·simp only[step,ho,hd,(ha x hx).opd]
    exact key k' st2
 ·rename_i x i ho
  simp only[step,ho]at h
  have hx:x∈o.op.operands:=by simp[ho,Op.operands]
  unfold extractK at h
  split at h
  ·rename_i u f e hv
   obtain⟨t',f',x',h1,h2⟩:=jep h
   refine jin h1 fun k' st2 ha => ?_
   simp only[step,ho,(ha x hx).opd,hv,extractK]
   exact h2 _
  ·rename_i s hv;rw[hv]at hok;simp[V.noRef]at hok
  ·cases h
 ·rename_i e x ho
  simp only[step,ho]at h
  have hx:x∈o.op.operands:=by simp[ho,Op.operands]
  split at h
  case h_2=>cases h
  rename_i t f hT
  obtain⟨Q,g,y,hQ,h,hd⟩:=vw hok hn h
  refine⟨_,Q,fun q hq=>⟨(hQ q hq).1,by rw[←(hQ q hq).2];exact hx⟩,h,fun s hs=>hs.elim,fun k' st2 ha hn2 => ?_⟩
  simp only[step,ho,hT]
  exact hd _ st2 (ha x hx) hn2
 ·rename_i T n ps ho
  have hin:∀p∈ps.toList,p.2∈o.op.operands:=fun p hp=>by rw[ho];simp only[Op.operands];exact List.mem_toArray.2 (List.mem_map.2 ⟨p,hp,rfl⟩)
  simp only[List.all_eq_true]at hok
  simp only[step,ho]at h
  split at h
  case h_2=>cases h
  rename_i t f hT
  split at h
  case isFalse=>cases h
  rename_i hl
  obtain⟨Q,gs,xs,hQ,h,hd⟩:=je5 (fun p hp => .inl (hok p hp)) hn h
  refine⟨_,Q,fun q hq=>⟨(hQ q hq).1, ?_⟩,h,fun s hs=>hs.elim,fun k' st2 ha hn2 => ?_⟩
  ·obtain⟨p,hp,e⟩:=(hQ q hq).2
   rw[←e];exact hin p hp
  ·simp only[step,ho,hT]
   rw[if_pos hl]
   exact hd _ st2 (fun p hp=>ha _ (hin p hp)) hn2
 ·rename_i T ps ho
  have hin:∀p∈ps.toList,p.2∈o.op.operands:=fun p hp=>by rw[ho];simp only[Op.operands];exact List.mem_toArray.2 (List.mem_map.2 ⟨p,hp,rfl⟩)
  simp only[List.all_eq_true]at hok
  simp only[step,ho]at h
  split at h
  ·rename_i fts hT
   obtain⟨Q,u,g,x,hQ,h,hd⟩:=jaq (fun p hp => .inl (hok p hp)) hn h
   refine⟨_,Q,fun q hq=>⟨(hQ q hq).1, ?_⟩,h,fun s hs=>hs.elim,fun k' st2 ha hn2 => ?_⟩
   ·obtain⟨p,hp,e⟩:=(hQ q hq).2
    rw[←e];exact hin p hp
   ·simp only[step,ho,hT]
    exact hd _ st2 (fun p hp=>ha _ (hin p hp)) hn2
  ·rename_i hT0
   split at h
   case h_2=>cases h
   rename_i t f n hT
   obtain⟨Q,u,g,x,hQ,h,hd⟩:=jaq (fun p hp => .inl (hok p hp)) hn h
   refine⟨_,Q,fun q hq=>⟨(hQ q hq).1, ?_⟩,h,fun s hs=>hs.elim,fun k' st2 ha hn2 => ?_⟩
   ·obtain⟨p,hp,e⟩:=(hQ q hq).2
    rw[←e];exact hin p hp
   ·simp only[step,ho,hT0,hT]
    exact hd _ st2 (fun p hp=>ha _ (hin p hp)) hn2
 ·rename_i cc ho
  have hin:∀x∈cc.args.toList,x∈o.op.operands:=by
   intro x hx
   rw[ho]
   simp only[Op.operands,Call.operands]
   split<;>simp_all
  split at hok
  ·rename_i f hcal
   split at hok
   case h_2=>cases hok
   rename_i S hS
   simp only[Bool.and_eq_true,Bool.not_eq_true',List.all_eq_true,Bool.or_eq_true]at hok
   obtain⟨hmd,hnr⟩:=hok
   simp only[step,ho,hcal]at h
   have hpre:∀(s:St) (vs:List V),preK A f vs s=s:=fun s vs=>jiq fun S' hS'=>by rw[hS]at hS';cases hS';exact hmd
   rw[hpre]at h
   unfold callK at h
   simp only[hS,hmd,Bool.false_eq_true,if_false]at h
   obtain⟨x,h,hd⟩:=jb7 hmd h
   have hall:∀s':St,(if closed S.r S.rf=true then s' else freezeAll s' (cc.args.toList.map (opd st)))=s':=fun s'=>by
    rcases hnr with hnr|hnr
    ·rw[if_pos hnr]
    ·rw[jca (by simp only[List.all_map,List.all_eq_true];exact hnr),ite_self]
   cases hr:S.f x with
   | none=>rw[hr]at h;cases h
   | some rr =>
    rw[hr]at h
    simp only[Option.bind_some,hall]at h
    refine jin h fun k' st2 ha => ?_
    have hmap:cc.args.toList.map (opd st2)=cc.args.toList.map (opd st):=List.map_congr_left fun x hx=>(ha x (hin x hx)).opd
    simp only[step,ho,hcal,hpre,hmap]
    unfold callK
    simp only[hS,hmd,Bool.false_eq_true,if_false]
    rw[hd _ st2 fun v hv => ?_,hr]
    ·simp only[Option.bind_some,hall]
    ·obtain⟨y,hy,rfl⟩:=List.mem_map.1 hv
     exact(ha y (hin y hy)).2
  ·rename_i hcal
   simp only[List.all_eq_true]at hok
   simp only[step,ho,hcal]at h
   split at h
   case h_2=>cases h
   rename_i s x T T2 hargs hats
   split at h
   case h_2=>cases h
   rename_i t f q2 hT hT2
   have hs:s∈cc.args.toList:=by rw[hargs];simp
   have hx:x∈cc.args.toList:=by rw[hargs];simp
   obtain⟨Q,v,hQ,h,hnm,hd⟩:=jhx (hok s hs) (hok x hx) hn h
   refine⟨v,Q,fun q hq=>⟨(hQ q hq).1, ?_⟩,h,fun s hs=>absurd hs (hnm s),fun k' st2 ha hn2 => ?_⟩
   ·rcases (hQ q hq).2 with e|e
    ·rw[←e];exact hin _ hs
    ·rw[←e];exact hin _ hx
   ·simp only[step,ho,hcal,hargs,hats,hT,hT2]
    exact hd _ st2 (ha _ (hin _ hs)) (ha _ (hin _ hx)) hn2
  ·cases hok
 ·cases hok
def LocF (A:Cfg) (PV:List Nat) (o:Oper) (st:St) (k:St→Option ρ) (r:ρ):Prop :=
 ∃v Q,(∀q∈Q,q∈PV∧(.tmp q:Operand)∈o.op.operands)∧k ((clr Q st).putO o.dst v)=some r∧(∀s,v.names s→s ∉ PV∧∃x∈o.op.operands,(opd st x).names s) ∧
  ∀{σ:Type} (k':St→Option σ) (st2:St),(∀x∈o.op.operands,OAgree st st2 x)→NoRef PV st2→stepF A o st2 k'=k' ((clr Q st2).putO o.dst v)
theorem jey {o:Oper}{x:Operand}(h:isAsg o=some x):o.op = .assign x:=by
 unfold isAsg at h
 split at h
 ·rename_i y hy;cases h;exact hy
 ·cases h
theorem jln {n s:Nat}{lo hi mx:Option V}{c:V→Option ρ}{r:ρ}(h:winK n s lo hi mx c=some r):∃v,c v=some r∧(∀q,v.names q→q=s)∧∀{σ:Type}(c':V→Option σ),winK n s lo hi mx c'=c' v:=by
 unfold winK at h
 split at h
 ·rename_i kb fb b km fm m
  cases hd:decide (0≤b∧b≤(n:Int)∧m=b) with
  | false=>rw[hd]at h;cases h
  | true=>rw[hd]at h;exact⟨_,h,fun q hq=>hq.symm,fun c'=>by simp only[winK,hd,cond_true]⟩
 ·rename_i ka fa l
  cases hd:decide (0≤l∧l≤(n:Int)) with
  | false=>rw[hd]at h;cases h
  | true=>rw[hd]at h;exact⟨_,h,fun q hq=>hq.symm,fun c'=>by simp only[winK,hd,cond_true]⟩
 ·rename_i ka fa l
  cases hd:decide (0≤l∧l≤(n:Int)) with
  | false=>rw[hd]at h;cases h
  | true=>rw[hd]at h;exact⟨_,h,fun q hq=>hq.symm,fun c'=>by simp only[winK,hd,cond_true]⟩
 ·cases h
theorem ji2 {o:Oper}{s n:Nat}(h:isWin A o st=some (s,n)):∃T x lo hi mx t g,∃xs:List t.den,o.op = .slice T x lo hi mx∧opd st x = .ref s [] .val∧st.get s = .val (.sl t) (.o g) xs:=by
 unfold isWin at h
 split at h
 case isFalse=>cases h
 split at h
 case h_2=>cases h
 rename_i T x lo hi mx ho
 split at h
 case h_2=>cases h
 rename_i s' hx
 split at h
 case h_2=>cases h
 rename_i t g xs hs
 split at h
 case h_2=>cases h
 split at h
 case isFalse=>cases h
 simp only[Option.some.injEq,Prod.mk.injEq]at h
 obtain⟨rfl,rfl⟩:=h
 exact⟨T,x,lo,hi,mx,t,g,xs,ho,hx,hs⟩
theorem jea {o:Oper}{st2:St}(h:∀x∈o.op.operands,OAgree st st2 x):isWin A o st2=isWin A o st:=by
 unfold isWin
 split
 ·split
  ·rename_i T x lo hi mx ho
   have hx:=h x (by simp[ho,Op.operands])
   rw[hx.opd]
   split
   ·rename_i s hv
    have h2:=hx.2
    rw[hv]at h2
    simp only[VAgree]at h2
    rw[h2]
   ·rfl
  ·rfl
 ·rfl
theorem jke {o:Oper}{k:St→Option ρ}{r:ρ}{s n:Nat}(hp:∀q∈PV,(.tmp q:Operand)∈o.op.operands→isCons o=true∧cleanOp A o=false) (hn:NoRef PV st) (hw:isWin A o st=some (s,n)) (h:stepW o st s n k=some r):LocF A PV o st k r:=by
 obtain⟨T,x,lo,hi,mx,t,g,xs,ho,hx,hs⟩:=ji2 hw
 have hin:x∈o.op.operands:=by simp[ho,Op.operands]
 have ha0:isAsg o=none:=by simp[isAsg,ho]
 unfold stepW at h
 rw[ho]at h
 simp only at h
 obtain⟨v,h1,h2,h3⟩:=jln h
 refine⟨v,[],by simp,h1,fun q hq => ?_,fun k' st2 ha _ => ?_⟩
 ·obtain rfl:=h2 q hq
  have hnm:(opd st x).names q:=by rw[hx];rfl
  refine⟨fun hs' => ?_,x,hin,hnm⟩
  obtain⟨t',rfl,ht|⟨rfl,_⟩⟩:=qv hnm
  ·exact hn q hs' t' ht
  ·have:=(hp t' hs' hin).2
   simp[cleanOp,ho]at this
 ·have hmap:∀y:Option Operand,(∀z,y=some z→z∈o.op.operands)→y.map (opd st2)=y.map (opd st):=fun y hy=>by
   cases y with
   | none=>rfl
   | some z=>simp only[Option.map_some,(ha z (hy z rfl)).opd]
  have e1:=hmap lo (fun z hz=>by simp[ho,Op.operands,hz])
  have e2:=hmap hi (fun z hz=>by simp[ho,Op.operands,hz])
  have e3:=hmap mx (fun z hz=>by simp[ho,Op.operands,hz])
  unfold stepF
  rw[ha0]
  simp only[jea ha,hw]
  unfold stepW
  rw[ho]
  simp only[e1,e2,e3]
  rw[h3]
  rfl
theorem jkc {o:Oper}{k:St→Option ρ}{r:ρ}(hp:∀q∈PV,(.tmp q:Operand)∈o.op.operands→isCons o=true∧cleanOp A o=false) (hn:NoRef PV st) (hok:okS A PV o st=true) (h:stepF A o st k=some r):LocF A PV o st k r:=by
 have plain:(∀x,isAsg o=some x→(opd st x).isWhole=false)→(isAsg o=none→isWin A o st=none)→step A o st k=some r→LocF A PV o st k r:=by
  intro hw hnw h
  obtain⟨v,Q,h1,h2,h3,h4⟩:=jlf hp hn (fun x hx=>hw x (by simp only[isAsg,hx])) hok h
  refine⟨v,Q,h1,h2,h3,fun k' st2 ha hn2 => ?_⟩
  rw[←h4 k' st2 ha hn2]
  unfold stepF
  split
  ·rename_i x hx
   rw[if_neg]
   rw[(ha x (by rw[jey hx];simp[Op.operands])).opd,hw x hx]
   simp
  ·rename_i hx
   rw[jea ha,hnw hx]
 cases hx:isAsg o with
 | none =>
  simp only[stepF,hx]at h
  cases hiw:isWin A o st with
  | some q=>rw[hiw]at h;exact jke hp hn hiw h
  | none=>rw[hiw]at h;exact plain (fun x hx'=>by rw[hx]at hx';cases hx') (fun _=>hiw) h
 | some x =>
  have ho:=jey hx
  cases hwh:(opd st x).isWhole with
  | false=>exact plain (fun y hy=>by rw[hx]at hy;cases hy;exact hwh) (fun e=>by rw[hx]at e;cases e) (by simpa only [stepF,hx,hwh,Bool.false_eq_true,if_false] using h)
  | true =>
   simp only[stepF,hx,hwh,if_true]at h
   have hv:okV PV st x=true:=by
    simp only[okS,ho,cleanOp,Bool.false_or,hwh,Bool.not_true,Bool.and_eq_true]at hok
    exact hok.1
   rcases vd hv with hnr|⟨q,rfl,hq,τ,g,e,hg,hgi,hopd⟩
   ·cases hv':opd st x<;>rw[hv']at hnr hwh<;>simp[V.noRef,V.isWhole]at hnr hwh
   ·rw[hopd]at h
    simp only[moveS,consume,hg]at h
    rw[ur (hn q hq)]at h
    refine⟨.val τ g e,[q],fun q' hq'=>by simp at hq';subst hq';exact⟨hq,by simp[ho,Op.operands]⟩,h,fun s hs=>hs.elim,fun k' st2 ha hn2 => ?_⟩
    have hax:=ha (.tmp q) (by simp[ho,Op.operands])
    simp only[stepF,hx,hax.opd,hwh,if_true]
    rw[hopd]
    simp only[moveS,consume,hax.1 q rfl,hg]
    rw[ur (hn2 q hq)]
    rfl
end
end Go.Gx
