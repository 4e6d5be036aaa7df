import Derived.Test.YtnolmlelfmadkaaGxOps6
set_option linter.unusedSimpArgs false
set_option linter.unusedVariables false
namespace Go.Gx
open Go
section
variable {P:Program} {A:Cfg} {c:Ctx} {own:Nat→List Nat} {st:St} {a:Act} {w:World} {ρ:Type}
theorem jko {E:List Nat}(h:Inv c own E st a w):∀{ty:Ty}{ms:List Nat}{fs:List Fl}{ps:List (V×Value)}{k:ty.den→Option ρ}{r:ρ},ms.any (· != 0)=false →
  (∀p∈ps,VOk w (NB c own E w) st a p.1 p.2)→argsK st ty ms fs (ps.map (·.1)) k=some r →
  ∃x,k x=some r∧∀N2:Nat→Prop,(∀b,NB c own E w b→N2 b)→(∀b,namedBy (ps.map (·.1)) b own→N2 b)→ArgsR w N2 ty ms fs x (ps.map (·.2)) []:=by
 intro ty ms
 induction ms generalizing ty with
 | nil =>
  intro fs ps k r _ _ hk
  cases ty<;>cases ps<;>simp only[argsK,List.map_nil,List.map_cons,reduceCtorEq]at hk
  exact⟨_,hk,fun _ _ _=>rfl⟩
 | cons m ms ih =>
  intro fs ps k r hm hp hk
  simp only[List.any_cons,Bool.or_eq_false_iff,bne_eq_false_iff_eq]at hm
  obtain⟨rfl,hm⟩:=hm
  cases ty<;>cases ps<;>simp only[argsK,List.map_nil,List.map_cons,reduceCtorEq]at hk
  rename_i t b p ps
  obtain⟨x,cs,hk,hx⟩:=ja1 h (hp p List.mem_cons_self) hk
  obtain⟨y,hk,hy⟩:=ih hm (fun q hq=>hp q (List.mem_cons_of_mem _ hq)) hk
  refine⟨(x,y),hk,fun N2 h1 h2=>⟨⟨cs,hx N2 h1 fun s hs b hb=>h2 b ⟨_,List.mem_cons_self,s,hs,hb⟩⟩,hy N2 h1 fun b ⟨v',hv',s,hs,hb⟩=>h2 b ⟨v',List.mem_cons_of_mem _ hv',s,hs,hb⟩⟩⟩
theorem jcc {t:Ty}(h:t.oneB=true):t.cells=1:=by cases t<;>simp_all [Ty.oneB,Ty.cells]
theorem one_holds {t:Ty}{v:Value}{cs:List Value}(h:t.oneB=true):Holds t v cs↔cs=[v]:=by cases t<;>simp_all [Ty.oneB,Holds]
theorem jl6 {t:Ty}(h:t.oneB=true):∀u,t ≠ .tup u:=by rintro u rfl;simp[Ty.oneB]at h
theorem jgr {N:Nat→Prop}:∀{u:Ty}{x:u.den}{vs:List Value}{l:List V},capsV u x=some l→Rep w N u .i x vs [] →
  ∃ps:List (V×Value),ps.map (·.1)=l∧ps.map (·.2)=vs∧∀p∈ps,VOk w N st a p.1 p.2
 | .unit,x,vs,l,h,hr=>by
  simp only[capsV,Option.some.injEq]at h
  simp only[Rep]at hr
  exact⟨[],by simp[←h],by simp[hr.1],by simp⟩
 | .pair t b,x,vs,l,h,hr=>by
  simp only[capsV]at h
  split at h
  case isFalse=>cases h
  rename_i h1
  simp only[Option.map_eq_some_iff]at h
  obtain⟨l',hl',rfl⟩:=h
  simp only[Rep,Fl.l,Fl.r]at hr
  obtain⟨F1,F2,e,hlen,r1,r2⟩:=hr
  obtain⟨rfl,rfl⟩:=List.append_eq_nil_iff.1 e.symm
  rw[jcc h1]at hlen r1 r2
  cases vs with
  | nil=>simp at hlen
  | cons v vs =>
   simp only[List.take_succ_cons,List.take_zero,List.drop_succ_cons,List.drop_zero]at r1 r2
   obtain⟨ps,e1,e2,hp⟩:=jgr hl' r2
   refine⟨(.val t .i x.1,v)::ps,by simp[e1],by simp[e2],fun p hp' => ?_⟩
   rcases List.mem_cons.1 hp' with rfl|hp'
   ·exact .inr (.inl ⟨[v],(one_holds h1).2 rfl,r1⟩)
   ·exact hp p hp'
 | .int _,_,_,_,h,_=>by simp[capsV]at h
 | .bool,_,_,_,h,_=>by simp[capsV]at h
 | .str,_,_,_,h,_=>by simp[capsV]at h
 | .any _,_,_,_,h,_=>by simp[capsV]at h
 | .sl _,_,_,_,h,_=>by simp[capsV]at h
 | .ptr _,_,_,_,h,_=>by simp[capsV]at h
 | .opt _,_,_,_,h,_=>by simp[capsV]at h
 | .ns _,_,_,_,h,_=>by simp[capsV]at h
 | .map _ _,_,_,_,h,_=>by simp[capsV]at h
 | .tup _,_,_,_,h,_=>by simp[capsV]at h
 | .clo _ _ _,_,_,_,h,_=>by simp[capsV]at h
theorem jgq {E:List Nat}(h:Inv c own E st a w):∀{os:List Operand}{k:(t:Ty)→t.den→Option ρ}{r:ρ},capsK (os.map (opd st)) k=some r →
  ∃u x,k u x=some r∧Rep w (NB c own E w) u .i x (os.map a.eval) []
 | [],k,r,hk=>⟨_,_,hk,by simp[Rep]⟩
 | o::os,k,r,hk=>by
  have ho:=jt h o
  simp only[List.map_cons]at hk ⊢
  unfold capsK at hk
  split at hk
  ·cases os<;>simp_all
  ·rename_i t x vs k' e1
   injection e1 with e1 e2
   subst e2
   split at hk
   case isFalse=>cases hk
   rename_i h1
   obtain⟨u,y,hk,hr⟩:=jgq h hk
   refine⟨_,_,hk, ?_⟩
   rw[e1]at ho
   rcases ho with ho|ho
   ·cases ho
   ·rcases ho with⟨cs,g1,g2⟩|⟨u',_,_,g1,_⟩
    ·rw[one_holds h1]at g1
     subst g1
     simp only[Rep,Fl.l,Fl.r]
     refine⟨[],[],rfl,by simp[jcc h1], ?_, ?_⟩
     ·rw[jcc h1];simpa using g2
     ·rw[jcc h1];simpa using hr
    ·exact absurd g1 (jl6 h1 _)
  ·cases hk
theorem jh4 {o:Oper}{f:FuncId}{first captured:Array Operand}{k:St→Option ρ}{r:ρ}(ho:o.op = .makeFunc (.func f) first captured) (h:Inv c own [] st a w)
  (hk:capsK ((first.toList++captured.toList).map (opd st)) (fun u x=>k (st.putO o.dst (.val (.clo f first.size u) .i x)))=some r):OpGoal P c o k r a w:=by
 obtain⟨u,x,hk,hr⟩:=jgq h hk
 have hex:(execOp a.eval o).run P w = .ok (.value (.func (.func f) (first.map a.eval) (captured.map a.eval))) w:=by
  unfold execOp
  simp only[ho]
  rfl
 intro hfx K Q hK
 unfold Oper.wp
 rw[hex,Oper.upon_value]
 have hv:SlotOk w (NB c own [] w) st a [] (.func (.func f) (first.map a.eval) (captured.map a.eval)) (.val (.clo f first.size u) .i x):=by
  refine .inl ⟨_,rfl, ?_⟩
  simp only[Rep]
  refine⟨trivial,_, ?_,hr⟩
  have e1:((first.toList++captured.toList).map a.eval).take first.size=first.toList.map a.eval:=by
   rw[List.map_append,List.take_left' (by simp)]
  have e2:((first.toList++captured.toList).map a.eval).drop first.size=captured.toList.map a.eval:=by
   rw[List.map_append,List.drop_left' (by simp)]
  rw[e1,e2]
  simp only[←Array.toList_map]
 obtain⟨own',h'⟩:=Inv.putO (v := .val (.clo f first.size u) .i x) (F:=[]) (E:=[]) o.dst h (by simpa using hv) (vp hfx)
 exact hK _ _ _ _ hk h'
theorem jlu (hS:SigOk P A){o:Oper}{cc:Call}{t:Nat}{f:FuncId}{nf:Nat}{u:Ty}{y:u.den}{l:List V}{k:St→Option ρ}{r:ρ}(ho:o.op = .call cc) (hc:cc.callee = .value (.tmp t)) (h:Inv c own [] st a w)
  (hs:st.get t = .val (.clo f nf u) .i y) (hl:capsV u y=some l) (hk:closK A f (l.take nf++cc.args.toList.map (opd st)++l.drop nf) o.dst st k=some r):OpGoal P c o k r a w:=by
 have hslot:=h.slot t
 rw[hs]at hslot
 rcases hslot with⟨cs,g1,g2⟩|⟨_,_,_,g1,_⟩
 case inr=>cases g1
 simp only[Rep]at g2
 obtain⟨g2,vs,g3,g4⟩:=g2
 simp only[Holds]at g1
 rw[g1]at g3
 simp only[List.cons.injEq,and_true]at g3
 obtain⟨ps,e1,e2,hps⟩:=jgr (st:=st) (a:=a) hl g4
 unfold closK at hk
 split at hk
 case h_2=>cases hk
 rename_i S hsig
 split at hk
 case isTrue=>cases hk
 rename_i hmd
 split at hk
 case isFalse=>cases hk
 rename_i hcl
 have hmd:S.md.any (· != 0)=false:=by simpa using hmd
 obtain⟨⟨fn,hfn,hbody,hname⟩,hgood⟩:=hS.sig f S hsig
 have hev:a.eval (.tmp t) = .func (.func f) (vs.take nf).toArray (vs.drop nf).toArray:=g3
 have hex:(execOp a.eval o).run P w = .ok (.enter f ((vs.take nf).toArray++cc.args.map a.eval++(vs.drop nf).toArray)) w:=by
  unfold execOp
  simp only[ho,resolve,hc,hev,Deferred.ofValue,Sem.run_bind,Sem.run_pure,Result.andThen_ok,invoke,callFunc,run_program,hfn,hbody,hname]
  simp
 let qs:List (V×Value):=ps.take nf++cc.args.toList.map (fun o=>(opd st o,a.eval o))++ps.drop nf
 have q1:qs.map (·.1)=l.take nf++cc.args.toList.map (opd st)++l.drop nf:=by
  simp only[qs,List.map_append,List.map_take,List.map_drop,List.map_map,e1]
  rfl
 have q2:qs.map (·.2)=((vs.take nf).toArray++cc.args.map a.eval++(vs.drop nf).toArray).toList:=by
  simp only[qs,List.map_append,List.map_take,List.map_drop,List.map_map,e2,Array.toList_append,Array.toList_map]
  rfl
 have q3:∀p∈qs,VOk w (NB c own [] w) st a p.1 p.2:=by
  intro p hp
  simp only[qs,List.mem_append,List.mem_map]at hp
  rcases hp with(hp|⟨o,_,rfl⟩)|hp
  ·exact hps p (List.mem_of_mem_take hp)
  ·exact jt h o
  ·exact hps p (List.mem_of_mem_drop hp)
 rw[←q1]at hk
 obtain⟨x,hk,hargs⟩:=jko h hmd q3 hk
 cases hr:S.f x with
 | none=>rw[hr]at hk;cases hk
 | some rr =>
  rw[hr]at hk
  simp only[Option.bind_some]at hk
  let N:Nat→Prop:=fun b=>NB c own [] w b∨namedBy (qs.map (·.1)) b own
  have hNlt:∀b,N b→b<w.heap.size:=by
   rintro b (hb|⟨v,_,s,_,hb⟩)
   ·exact hb.1
   ·exact h.lt s b hb
  have hcall:=hgood x rr hr w N _ [] (by rw[←q2];exact hargs N (fun _ h => .inl h) fun _ h => .inr h) (by simp) (by simp) hNlt
  intro hfx K Q hK
  unfold Oper.wp
  rw[hex,Oper.upon_enter]
  refine hcall.mono fun e w' he => ?_
  cases e with
  | panicked chain=>exact he.elim
  | outgrown=>exact he.elim
  | returned v =>
   simp only at he ⊢
   obtain⟨F,M',hnd,hrep,hmut,hfresh,hlt,hframe,hgrow,e1,e2,e3,hfz⟩:=he
   rw[List.nodup_append]at hnd
   have hF:∀b∈F,w.heap.size≤b:=fun b hb=>by
    rcases hfresh b (List.mem_append_left _ hb) with h'|h'
    ·cases h'
    ·exact h'
   have hinv:=h.grown (w':=w') (E':=F) (fun b hb _=>hframe b hb (by simp)) hgrow e1 e2 e3 hfz hnd.1 fun b hb=>⟨hF b hb,hlt b (List.mem_append_left _ hb)⟩
   rw[List.append_nil]at hinv
   obtain⟨own',h'⟩:=Inv.putO (v := .val S.r S.rf rr.1) (F:=F) (E:=[]) o.dst (by simpa using hinv) (by rw[List.append_nil];exact hrep.shut hcl) (vp hfx)
   exact hK _ _ _ _ hk h'
theorem jj2 {t:Nat}{τ:Ty}{x:τ.den}(h:opd st (.tmp t) = .val τ .i x):st.get t = .val τ .i x:=by
 simp only[opd]at h
 split at h
 ·rename_i τ' f x' hv
  split at h
  ·rw[hv,h]
  ·cases h
 ·exact h
end
end Go.Gx
