import Derived.Test.YtnolmlelfmadkaaGxCall
set_option linter.unusedSimpArgs false
set_option linter.unusedVariables false
namespace Go.Gx
open Go
section
variable {P:Program} {A:Cfg} {c:Ctx} {own:Nat→List Nat} {st:St} {a:Act} {w:World} {ρ:Type}
theorem RefOk.moved {st':St}{a':Act}{s d:Nat}{p:List Stp}{k:RK}{v:Value}(h:RefOk w st a s p k v) (h1:st'.get d=st.get s) (h2:Act.at_ a' d=Act.at_ a s):RefOk w st' a' d p k v:=by
 unfold RefOk at *
 rw[h1,h2]
 exact h
theorem ja7 {s d:Nat}{v:V}{b:Bool}(h:v.isOwner=true):V.rename s d (if b=true then V.drop d v else v)=v:=by
 cases v<;>cases b<;>simp_all [V.isOwner,V.rename,V.drop]
theorem jjf {o:Oper}{x:Operand}{d:Nat}{k:St→Option ρ}{r:ρ}(ho:o.op = .assign x) (hd:o.dst=some d) (h:Inv c own [] st a w) (hk:assignK st d (opd st x) k=some r):OpGoal P c o k r a w:=by
 have hex:(execOp a.eval o).run P w = .ok (.value (a.eval x)) w:=by unfold execOp;simp[ho,Sem.run,pure]
 have hxv:=jt h x
 unfold assignK at hk
 split at hk
 case h_2 =>
  refine ji h hex (v:=opd st x) ?_ (by rw[hd];exact hk)
  rcases hxv with h'|h'
  ·rw[h'];rfl
  ·exact h'
 case h_1 s hx =>
  rw[hx]at hxv
  have hr:=hxv.ref
  have hval:=hr.whole
  split at hk
  ·rename_i e
   subst e
   intro hfx K Q hK
   refine qp hex ?_
   rw[hd,hval,jb3]
   exact hK _ _ _ _ hk h
  rename_i hne
  split at hk
  case isFalse=>cases hk
  rename_i hlt
  split at hk
  case h_2=>cases hk
  rename_i t f xv hs
  have hsl:s<st.length:=by
   rcases Nat.lt_or_ge s st.length with hlt|hge
   ·exact hlt
   ·rw[qe st s hge]at hs;cases hs
  have hown:(st.get s).isOwner=true:=hr.1
  have hgp:∀i,i≠d→St.get (st.put d .u) i=if(st.get d).isOwner then V.drop d (st.get i) else st.get i:=by
   intro i hi
   unfold St.put
   split
   ·rw[qg]
    unfold dropRefs
    rw[qy _ _ rfl]
    simp[hi]
   ·rw[qg];simp[hi]
  have hlp:(st.put d .u).length=st.length:=by unfold St.put dropRefs;split<;>simp
  have hget:∀i,St.get (((moveRefs s d (st.put d .u)).set s (.ref d [] .val)).set d (.val t f xv)) i=if i=d then .val t f xv else if i=s then .ref d [] .val else V.rename s d (St.get (st.put d .u) i):=by
   intro i
   rw[qg,qg]
   unfold moveRefs
   rw[qy _ _ rfl]
   simp[hlp,hlt,hsl]
  have hat:∀i,Act.at_ (a.put (some d) (a.eval x)) i=if i=d then a.eval x else Act.at_ a i:=by
   intro i;rw[jgo];simp[h.size,hlt]
  have hN:∀b,NB c own [] w b→NB c (fun i=>if i=d then own s else if i=s then [] else own i) [] w b:=by
   intro b hb
   refine⟨hb.1,fun i => ?_,hb.2.2.1,hb.2.2.2⟩
   show b ∉ (if i=d then own s else if i=s then [] else own i)
   split
   ·exact hb.2.1 s
   ·split
    ·simp
    ·exact hb.2.1 i
  intro hfx K Q hK
  refine qp hex ?_
  rw[hd]
  refine hK (fun i=>if i=d then own s else if i=s then [] else own i) _ _ _ hk ?_
  refine⟨?_,h.defers,fun i => ?_,fun i => ?_,h.ndE,fun i j b hb hb' => ?_,by simp,by simp,fun i b hb => ?_,by simp,h.frame,h.grow,h.os,h.tape,h.output,h.frozen,fun i u hu => ?_⟩
  rotate_right
  ·rw[hat,if_neg]
   ·exact h.fixed i u hu
   ·rintro rfl
    rw[hfx _ hd]at hu
    cases hu
  ·have:=h.size;simp[Act.put,moveRefs,hlp,this]
  ·rw[hget,hat]
   by_cases hi:i=d
   ·simp only[hi,if_true]
    have:=h.slot s
    rw[hs]at this
    rw[hval]
    exact RepV.mono (fun b hb=>⟨hN b hb,rfl⟩) this fun b _=>rfl
   ·simp only[hi,if_false]
    by_cases his:i=s
    ·simp only[his,if_true]
     refine⟨rfl, ?_,.inl ⟨rfl,rfl, ?_⟩⟩
     ·rw[hget];simp only[if_true];rw[hs]at hown;exact hown
     ·rw[hat];simp[hval]
    ·simp only[his,if_false]
     rw[hgp i hi]
     have hsi:=h.slot i
     have key:∀v:V,(v=st.get i∨v = .u∧own i=[])→(∀q p' k',v = .ref q p' k'→q≠d∨(st.get d).isOwner=false)→(∀q lo hi tt,v = .win q lo hi tt→q≠d∨(st.get d).isOwner=false)→SlotOk w (NB c (fun i=>if i=d then own s else if i=s then [] else own i) [] w) (((moveRefs s d (st.put d .u)).set s (.ref d [] .val)).set d (.val t f xv)) (a.put (some d) (a.eval x)) (own i) (Act.at_ a i) (V.rename s d v):=by
      intro v hv hq hqw
      rcases hv with rfl|⟨rfl,h0⟩
      ·cases hvi:st.get i with
       | val t' f' x'=>rw[hvi]at hsi;exact RepV.mono (fun b hb=>⟨hN b hb,rfl⟩) hsi fun b _=>rfl
       | u=>rw[hvi]at hsi;exact hsi
       | nilS=>rw[hvi]at hsi;exact hsi
       | nilP=>rw[hvi]at hsi;exact hsi
       | win q lo hi tt =>
        rw[hvi]at hsi
        obtain⟨h0,hro⟩:=hsi
        simp only[V.rename]
        split
        ·rename_i e
         subst e
         refine⟨h0,hro.moved ?_ ?_⟩
         ·rw[hget,if_pos rfl,hs]
         ·rw[hat,if_pos rfl,hval]
        ·rename_i e
         have hqd:q≠d:=by
          rcases hqw q lo hi tt hvi with h'|h'
          ·exact h'
          ·intro e';subst e';rw[hro.owner]at h';cases h'
         refine⟨h0,hro.congr ?_ (by rw[hat,if_neg hqd])⟩
         rw[hget,if_neg hqd,if_neg e,hgp q hqd]
         exact ja7 hro.owner
       | ref q p' k' =>
        rw[hvi]at hsi
        obtain⟨h0,hro⟩:=hsi
        simp only[V.rename]
        split
        ·rename_i e
         subst e
         refine⟨h0,hro.moved ?_ ?_⟩
         ·rw[hget,if_pos rfl,hs]
         ·rw[hat,if_pos rfl,hval]
        ·rename_i e
         have hqd:q≠d:=by
          rcases hq q p' k' hvi with h'|h'
          ·exact h'
          ·intro e';subst e';rw[hro.1]at h';cases h'
         refine⟨h0,hro.congr ?_ (by rw[hat,if_neg hqd])⟩
         rw[hget,if_neg hqd,if_neg e,hgp q hqd]
         exact ja7 hro.1
      ·exact h0
     split
     ·refine key _ ?_ ?_ ?_
      ·cases hvi:st.get i<;>simp only[V.drop]
       case ref q p' k' =>
        split
        ·rw[hvi]at hsi;exact .inr ⟨rfl,hsi.1⟩
        ·exact .inl rfl
       case win q lo hi tt =>
        split
        ·rw[hvi]at hsi;exact .inr ⟨rfl,hsi.1⟩
        ·exact .inl rfl
       all_goals exact .inl trivial
      ·intro q p' k' hv
       left
       intro e
       subst e
       cases hvi:st.get i<;>rw[hvi]at hv<;>simp only[V.drop]at hv<;>(try split at hv)<;>cases hv
       rename_i hh;exact hh rfl
      ·intro q lo hi tt hv
       left
       intro e
       subst e
       cases hvi:st.get i<;>rw[hvi]at hv<;>simp only[V.drop]at hv<;>(try split at hv)<;>cases hv
       rename_i hh;exact hh rfl
     ·rename_i hno
      exact key _ (.inl rfl) (fun _ _ _ _ => .inr (by simpa using hno)) fun _ _ _ _ _ => .inr (by simpa using hno)
  ·show(if i=d then own s else if i=s then [] else own i).Nodup
   split
   ·exact h.nd s
   ·split
    ·simp
    ·exact h.nd i
  ·have hb:b∈(if i=d then own s else if i=s then [] else own i):=hb
   have hb':b∈(if j=d then own s else if j=s then [] else own j):=hb'
   split at hb<;>split at hb'
   ·omega
   ·split at hb'
    ·cases hb'
    ·rename_i h1 h2 h3;exact absurd (h.dj s j b hb hb').symm h3
   ·split at hb
    ·cases hb
    ·rename_i h1 h2 h3;exact absurd (h.dj i s b hb hb') h3
   ·split at hb
    ·cases hb
    ·split at hb'
     ·cases hb'
     ·exact h.dj i j b hb hb'
  ·have hb:b∈(if i=d then own s else if i=s then [] else own i):=hb
   split at hb
   ·exact h.bnd s b hb
   ·split at hb
    ·cases hb
    ·exact h.bnd i b hb
theorem jmv (f g:Fl):(Fl.mkP f g).l=f:=by cases f<;>cases g<;>rfl
theorem jlp (f g:Fl):(Fl.mkP f g).r=g:=by cases f<;>cases g<;>rfl
theorem jik {N:Nat→Prop}:∀{i:Nat}{t:Ty}{f:Fl}{x:t.den}{vs:List Value}{F:List Nat}{k:(t:Ty)→Fl→t.den→Option ρ}{r:ρ},fldP t f x i k=some r→RepT w N t f x vs F →
  ∃t' g e v F0,k t' g e=some r∧vs[i]? = some v∧RepS w N t' g e v F0∧(∀b∈F0,b∈F)
 | 0,t,f,x,vs,F,k,r,hk,h=>by
  cases t<;>simp only[fldP,reduceCtorEq]at hk
  obtain⟨v,vs',F1,F2,rfl,rfl,h3,h4⟩:=h
  exact⟨_,_,_,v,F1,hk,rfl,h3,fun b hb=>List.mem_append_left _ hb⟩
 | i+1,t,f,x,vs,F,k,r,hk,h=>by
  cases t<;>simp only[fldP,reduceCtorEq]at hk
  obtain⟨v,vs',F1,F2,rfl,rfl,h3,h4⟩:=h
  obtain⟨t',g,e,v',F0,h5,h6,h7,h8⟩:=jik hk h4
  exact⟨t',g,e,v',F0,h5,by simpa using h6,h7,fun b hb=>List.mem_append_right _ (h8 b hb)⟩
theorem jht {N:Nat→Prop}:∀{i:Nat}{t:Ty}{f:Fl}{x:t.den}{vs:List Value}{F:List Nat}{k:(t:Ty)→Fl→t.den→(t':Ty)→Fl→t'.den→Option ρ}{r:ρ},tupTake t f x i k=some r→RepT w N t f x vs F →
  ∃t1 g e t2 h y v F1 F2,k t1 g e t2 h y=some r∧vs[i]? = some v∧RepS w N t1 g e v F1∧RepT w N t2 h y vs F2∧F.Perm (F1++F2)
 | 0,t,f,x,vs,F,k,r,hk,h=>by
  cases t<;>simp only[tupTake,reduceCtorEq]at hk
  obtain⟨v,vs',F1,F2,rfl,rfl,⟨cs,h0,h3⟩,h4⟩:=h
  refine⟨_,_,_,_,_,_,v,F1,F2,hk,rfl,⟨cs,h0,h3⟩,⟨v,vs',[],F2,rfl,rfl,⟨cs,trivial, ?_⟩, ?_⟩,List.Perm.refl _⟩
  ·exact⟨⟨h3.len,h3.one⟩,rfl⟩
  ·rw[jlp];exact h4
 | i+1,t,f,x,vs,F,k,r,hk,h=>by
  cases t<;>simp only[tupTake,reduceCtorEq]at hk
  obtain⟨v,vs',F1,F2,rfl,rfl,h3,h4⟩:=h
  obtain⟨t1,g,e,t2,h,y,v',G1,G2,h5,h6,h7,h8,h9⟩:=jht hk h4
  refine⟨t1,g,e,_,_,_,v',G1,F1++G2,h5,by simpa using h6,h7,⟨v,vs',F1,G2,rfl,rfl, ?_, ?_⟩, ?_⟩
  ·rw[jmv];exact h3
  ·rw[jlp];exact h8
  ·exact(List.Perm.append_left F1 h9).trans (List.perm_append_comm_assoc F1 G1 G2)
theorem jiw {o:Oper}{x:Operand}{i:Nat}{k:St→Option ρ}{r:ρ}(ho:o.op = .extract x i) (h:Inv c own [] st a w) (hk:extractK st (opd st x) i (fun st' v=>k (st'.putO o.dst v))=some r):OpGoal P c o k r a w:=by
 have hxv:=jt h x
 have hex:∀{vs:Array Value} {v:Value},a.eval x = .tuple vs→vs.toList[i]? = some v→(execOp a.eval o).run P w = .ok (.value v) w:=by
  intro vs v h1 h2
  rw[Array.getElem?_toList]at h2
  unfold execOp
  simp[ho,h1,Instr.extract,h2]
 unfold extractK at hk
 split at hk
 ·rename_i t f e hx
  rw[hx]at hxv
  rcases hxv.val with⟨cs,h1,h2⟩|⟨u,y,vs,h1,h2,h3,h4⟩
  ·exact h1.elim
  ·cases h1
   cases h2
   have h4:RepT w (NB c own [] w) t .i e vs.toList []:=RepT.toPlain (fun _ hb=>hb) h4 (by simp)
   obtain⟨t',g,e',v,F0,hk,h5,h6,h7⟩:=jik hk h4
   obtain rfl:F0=[]:=List.eq_nil_iff_forall_not_mem.2 fun b hb=>by cases h7 b hb
   refine ji h (hex h3 h5) (v := .val t' .i e') ?_ hk
   obtain⟨cs,g1,g2⟩:=h6
   exact .inl ⟨cs,g1,g2.asPlain⟩
 ·rename_i s hx
  rw[hx]at hxv
  have hr:=hxv.ref
  have hval:=hr.whole
  split at hk
  ·rename_i t f y hs
   have hsl:=h.slot s
   rw[hs]at hsl
   rcases hsl with⟨cs,h1,h2⟩|⟨u,y',vs,h1,h2,h3,h4⟩
   ·exact h1.elim
   ·cases h1
    cases h2
    obtain⟨t1,g,e,t2,h',y2,v,F1,F2,hk,h5,h6,h7,h8⟩:=jht hk h4
    have hv:=hex (hval.trans h3) h5
    have gen:k ((reput st s (.val (.tup t2) h' y2)).putO o.dst (.val t1 g e))=some r→OpGoal P c o k r a w:=by
     intro hk
     obtain⟨hinv,hget,hN⟩:=h.takeSlot hr.1
     have hperm:=hinv.hand (E':=F2++(F1++[])) (fun b hb=>by
      have:b∈F1++F2:=by simp at hb ⊢;exact hb.symm
      have:=h8.symm.subset this
      simp[this]) (by
      have:=hinv.ndE
      rw[List.append_nil]at this ⊢
      exact(List.perm_append_comm.trans h8.symm).symm.nodup this)
     have hN3:∀b,NB c own [] w b→NB c (fun i=>if i=s then [] else own i) (F2++(F1++[])) w b:=fun b hb=>by
      have:=hN b hb
      refine this.hand fun b hb => ?_
      have hb':b∈F1++F2:=by simp at hb ⊢;exact hb.symm
      simp[h8.symm.subset hb']
     obtain⟨own2,h2,hN4⟩:=hperm.put (v := .val (.tup t2) h' y2) (value := .tuple vs) s (.inr ⟨t2,y2,vs,rfl,HEq.rfl,rfl,h7.mono (fun b hb=>⟨hN3 b hb,rfl⟩) fun _ _=>rfl⟩) (fun u hu=>(h.fixed s u hu).symm.trans h3)
     rw[←h3,jb3]at h2
     rw[List.append_nil]at h2 hN4
     have h2:=h.realias hr.1 h2
     refine qq h2 (v := .val t1 g e) hv ?_ hk
     obtain⟨cs,g1,g2⟩:=h6
     exact .inl ⟨cs,g1,g2.mono (fun b hb=>⟨hN4 b (by simpa using hN3 b hb),rfl⟩) fun _ _=>rfl⟩
    split at hk
    ·refine ji h hv (v := .val t1 .i e) ?_ hk
     obtain⟨cs,g1,g2⟩:=h6
     have:=g2.plain
     subst this
     exact .inl ⟨cs,g1,g2⟩
    ·exact gen hk
  ·cases hk
 ·cases hk
theorem jh5 {o:Oper}{x:Operand}{k:St→Option ρ}{r:ρ}(ho:o.op = .nilCheck x) (h:Inv c own [] st a w)
  (hk:(match opd st x with
  | .val (.opt t) _ y=>y.bind fun e=>k (st.putO o.dst (.val (.ptr t) .i e))
  | .val (.ptr t) _ e=>k (st.putO o.dst (.val (.ptr t) .i e))
  | .ref s p c=>if(asAddr st (.ref s p c)).isSome then k (st.putO o.dst (.ref s p c)) else none
  | _=>none)=some r):OpGoal P c o k r a w:=by
 have hxv:=jt h x
 have hex:∀ad,a.eval x = .pointer (some ad)→(execOp a.eval o).run P w = .ok (.value (.pointer (some ad))) w:=by
  intro ad h1
  unfold execOp
  simp[ho,h1]
 split at hk
 ·rename_i t f y hx
  rw[hx]at hxv
  cases y with
  | none=>cases hk
  | some e =>
   obtain⟨cs,hh,hrep⟩:=hxv.rep (by intro u hu;cases hu)
   simp only[Holds]at hh
   subst hh
   have hrep:=hrep.asPlain
   simp only[Rep]at hrep
   obtain⟨_,b,off,arr,et,fr,g1,g2,g3,g5,g4⟩:=hrep
   simp only[List.cons.injEq,and_true]at g1
   refine ji h (hex _ g1) (v := .val (.ptr t) .i e) (.inl ⟨_,rfl, ?_⟩) hk
   simp only[Rep]
   exact⟨trivial,b,off,arr,et,fr,rfl,g2,g3,g5,g4⟩
 ·rename_i t f e hx
  rw[hx]at hxv
  obtain⟨cs,hh,hrep⟩:=hxv.rep (by intro u hu;cases hu)
  simp only[Holds]at hh
  subst hh
  have hrep:=hrep.asPlain
  simp only[Rep]at hrep
  obtain⟨_,b,off,arr,et,fr,g1,g2,g3,g5,g4⟩:=hrep
  simp only[List.cons.injEq,and_true]at g1
  refine ji h (hex _ g1) (v := .val (.ptr t) .i e) (.inl ⟨_,rfl, ?_⟩) hk
  simp only[Rep]
  exact⟨trivial,b,off,arr,et,fr,rfl,g2,g3,g5,g4⟩
 ·rename_i s p cc hx
  split at hk
  ·rename_i hsome
   rw[hx]at hxv
   obtain⟨q,hq⟩:=Option.isSome_iff_exists.1 hsome
   have hadr:=jb8 h hxv hq
   have hptr:∃ad,a.eval x = .pointer (some ad):=by
    obtain⟨_,⟨_,e,_⟩|⟨t1,f1,x1,cs,t',cs',l',e1,e5,e2,e3,b,off,e4,e6⟩⟩:=hadr
    ·cases e
    ·exact⟨_,e6⟩
   obtain⟨ad,had⟩:=hptr
   refine ji h (hex ad had) (v := .ref s p cc) ?_ hk
   rw[←had]
   rcases hxv with h'|h'
   ·cases h'
   ·exact h'
  ·cases hk
 ·cases hk
theorem jkk (hA:CfgOk P A){o:Oper}{e:TypeId}{t:Ty}{f:Fl}{k:St→Option ρ}{r:ρ}(ho:o.op = .alloc e) (hT:A.ty e=some (t,f)) (hz:t.hasZero=true) (h:Inv c own [] st a w)
  (hk:k (st.putO o.dst (.val (.ptr t) (.o f) (zeroTy t)))=some r):OpGoal P c o k r a w:=by
 obtain⟨i,z,d,h1,h2,h3,h4,h5,_⟩:=hA.ty e t f hT
 obtain⟨hinv,hN⟩:=h.newBlock (F':=[]) z.cells e (by simp) (by simp)
 refine qq hinv (v := .val (.ptr t) (.o f) (zeroTy t)) (value := .pointer (some ⟨w.heap.size,0,none⟩)) ?_ (.inl ⟨_,rfl, ?_⟩) hk
 ·unfold execOp
  simp[ho,Instr.alloc,zeroValue,typeInfo,h1,h3,newVar,newRow]
 ·simp only[Rep]
  exact⟨w.heap.size,z.cells,e,[],rfl,heap_alloc_new w _,rfl,by rw[h4.1 hz];exact jbc hz⟩
theorem jmk (hA:CfgOk P A){o:Oper}{e:TypeId}{x:Operand}{t:Ty}{f:Fl}{k:St→Option ρ}{r:ρ}(ho:o.op = .box e x) (hT:A.ty e=some (t,f)) (h:Inv c own [] st a w)
  (hk:consumeAs st (opd st x) t f (fun st' g x=>k (st'.putO o.dst (.val (.ptr t) (.o g) x)))=some r):OpGoal P c o k r a w:=by
 have hty:=hA.ty e t f hT
 obtain⟨own',F,st',g,y,cs,hk,hinv,hh,hr,hN⟩:=jaf h hty.notTup (jt h x) hk
 rw[List.append_nil]at hinv hr
 obtain⟨hinv2,hN2⟩:=hinv.newBlock (F':=F) (a.eval x).cells e (fun _ h=>h) hinv.ndE
 have hcs:=hh.cells hty.notAny hr
 refine qq hinv2 (v := .val (.ptr t) (.o g) y) (value := .pointer (some ⟨w.heap.size,0,none⟩)) ?_ (.inl ⟨_,rfl, ?_⟩) hk
 ·unfold execOp
  simp[ho,Instr.box,newVar,newRow]
 ·simp only[Rep]
  refine⟨w.heap.size,_,e,F,rfl,heap_alloc_new w _,rfl, ?_⟩
  rw[hcs]
  exact hr.mono hN2 fun b hb=>qa w _ b (hinv.ltE b hb)
end
end Go.Gx
