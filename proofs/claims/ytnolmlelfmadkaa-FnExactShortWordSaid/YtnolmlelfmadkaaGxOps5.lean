import Derived.Test.YtnolmlelfmadkaaGxOps4
import Derived.Laws.CopyRow
set_option linter.unusedSimpArgs false
set_option linter.unusedVariables false
namespace Go.Gx
open Go
section
variable {P:Program} {A:Cfg} {c:Ctx} {own:Nat→List Nat} {st:St} {a:Act} {w:World} {ρ:Type}
theorem jdh {s:Nat}{v:V}(h:v.isOwner=true):V.dropIn s v=v:=by
 cases v<;>simp_all [V.isOwner,V.dropIn]
theorem Inv.rewrite {E F G:List Nat}{w':World}{s:Nat}{n:Node}(h:Inv c own (F++E) st a w) (ho:(st.get s).isOwner=true) (hn:(V.val n.1 n.2.1 n.2.2).isOwner=true)
  (hsame:∀b,b ∉ own s→w'.heap[b]? = w.heap[b]?) (hsz:w'.heap.size=w.heap.size) (h1:w'.os=w.os) (h2:w'.tape=w.tape) (h3:w'.output=w.output) (hfz:∀a,w'.frozen? a=w.frozen? a)
  (hG:∀b∈G,b∈own s∨b∈F) (ndG:G.Nodup)
  (hrep:∀N':Nat→Prop,(∀b,NB c own (F++E) w b→N' b)→RepV w' N' n.1 n.2.1 n.2.2 (Act.at_ a s) G) :
  Inv c (fun i=>if i=s then G else own i) E ((dropInner s st).set s (.val n.1 n.2.1 n.2.2)) a w':=by
 have hs:s<st.length:=by
  rcases Nat.lt_or_ge s st.length with hlt|hge
  ·exact hlt
  ·rw[qe st s hge]at ho;cases ho
 have hget:∀i,St.get ((dropInner s st).set s (.val n.1 n.2.1 n.2.2)) i=if i=s then .val n.1 n.2.1 n.2.2 else V.dropIn s (st.get i):=by
  intro i
  rw[qg]
  unfold dropInner
  rw[qy _ _ rfl]
  simp[hs]
 have ndFE:=h.ndE
 rw[List.nodup_append]at ndFE
 have hGi:∀i b,i≠s→b∈own i→b ∉ G:=by
  intro i b hi hb hg
  rcases hG b hg with h'|h'
  ·exact hi (h.dj i s b hb h')
  ·exact h.djE i b hb (List.mem_append_left _ h')
 have hGE:∀b∈G,b ∉ E:=by
  intro b hg hE
  rcases hG b hg with h'|h'
  ·exact h.djE s b h' (List.mem_append_right _ hE)
  ·exact ndFE.2.2 b h' b hE rfl
 have hN:∀b,NB c own (F++E) w b→NB c (fun i=>if i=s then G else own i) E w' b∧w'.heap[b]? = w.heap[b]? := by
  intro b hb
  have h3:=hb.2.2.1
  simp only[List.mem_append,not_or]at h3
  refine⟨⟨by rw[hsz];exact hb.1,fun i => ?_,h3.2,hb.2.2.2⟩,hsame b (hb.2.1 s)⟩
  show b ∉ (if i=s then G else own i)
  split
  ·intro hg
   rcases hG b hg with h'|h'
   ·exact hb.2.1 s h'
   ·exact h3.1 h'
  ·exact hb.2.1 i
 have hown:∀i,i≠s→∀b∈own i,w'.heap[b]? = w.heap[b]? := fun i hi b hb=>hsame b fun h'=>hi (h.dj i s b hb h')
 refine⟨by rw[h.size];simp[dropInner],h.defers,fun i => ?_,fun i => ?_,ndFE.2.1,fun i j b hb hb' => ?_,fun i b hb => ?_,fun b hb => ?_,fun i b hb => ?_,fun b hb=>h.bndE b (List.mem_append_right _ hb),fun b hb hM => ?_,by rw[hsz];exact h.grow,h1.trans h.os,h2.trans h.tape,h3.trans h.output,trivial,h.fixed⟩
 ·rw[hget]
  by_cases hi:i=s
  ·subst hi
   simp only[if_true]
   exact hrep _ fun b hb=>(hN b hb).1
  ·simp only[hi,if_false]
   have hsl:=h.slot i
   cases hvi:st.get i with
   | val t f x=>rw[hvi]at hsl;exact RepV.mono hN hsl (hown i hi)
   | u=>rw[hvi]at hsl;exact hsl
   | nilS=>rw[hvi]at hsl;exact hsl
   | nilP=>rw[hvi]at hsl;exact hsl
   | win q lo hi tt =>
    rw[hvi]at hsl
    simp only[SlotOk]at hsl
    by_cases hq:q=s
    ·subst hq
     simp only[V.dropIn,if_true]
     exact hsl.1
    ·simp only[V.dropIn,hq,if_false,SlotOk]
     refine⟨hsl.1,hsl.2.congr ?_ rfl⟩
     rw[hget,if_neg hq,jdh hsl.2.owner]
   | ref q p k =>
    rw[hvi]at hsl
    simp only[SlotOk]at hsl
    by_cases hq:q=s
    ·subst hq
     simp only[V.dropIn,if_true]
     cases p with
     | nil =>
      cases k with
      | val =>
       refine⟨hsl.1, ?_,.inl ⟨rfl,rfl,RefOk.whole hsl.2⟩⟩
       rw[hget,if_pos rfl]
       exact hn
      | addr=>exact hsl.1
     | cons _ _=>exact hsl.1
    ·simp only[V.dropIn,hq,if_false,SlotOk]
     refine⟨hsl.1,(hsl.2.keep (h.slot q) (fun b hb=>(hN b hb).2) (hown q hq)).congr ?_ rfl⟩
     rw[hget,if_neg hq,jdh hsl.2.1]
 ·split
  ·exact ndG
  ·exact h.nd i
 ·split at hb<;>split at hb'
  ·rename_i e1 e2;rw[e1,e2]
  ·rename_i e1 e2;exact absurd hb (hGi j b e2 hb')
  ·rename_i e1 e2;exact absurd hb' (hGi i b e1 hb)
  ·exact h.dj i j b hb hb'
 ·split at hb
  ·exact hGE b hb
  ·exact fun hE=>h.djE i b hb (List.mem_append_right _ hE)
 ·rw[hsz];exact h.ltE b (List.mem_append_right _ hb)
 ·split at hb
  ·rcases hG b hb with h'|h'
   ·exact h.bnd s b h'
   ·exact h.bndE b (List.mem_append_left _ h')
  ·exact h.bnd i b hb
 ·rw[hsame b fun h' => ?_]
  ·exact h.frame b hb hM
  ·rcases h.bnd s b h' with h0|h0
   ·exact hM h0
   ·omega
theorem jhq {T:TypeId}{t:Ty}(ht:TyOk P T t){b off:Nat}{arr:Array Value}{e:TypeId}(hb:w.heap[b]? = some (.cells arr e (0,0))){v:Value}{cs:List Value}(hv:v.cells.toList=cs) (hl:cs.length=t.cells) (hone:∀v∈cs,v.oneCell'=true) (hfit:off+cs.length≤arr.size) :
  (storeVar T ⟨b,off,none⟩ v).run P w = .ok () (w.setRow b (arr.toList.take off++cs++arr.toList.drop (off+cs.length)).toArray):=by
 obtain⟨i,z,d,h1,h2,h3,h4,h5,_⟩:=ht
 have hsz:v.cells.size=i.size:=by rw[h2,←hl,←hv];simp
 have hst:=run_storeCells_at P b off e cs 0 arr w hb (by simpa using hfit) hone
 unfold storeVar
 simp only[sizeOf,typeInfo,Sem.run_bind,run_program,Result.andThen_ok,h1,Sem.run_pure,hsz,ne_eq,not_true_eq_false,if_false,hv,hst,Nat.add_zero]
theorem jlk (hA:CfgOk P A){o:Oper}{T:TypeId}{x v:Operand}{k:St→Option ρ}{r:ρ}(ho:o.op = .store T x v) (h:Inv c own [] st a w)
  (hk:storeK A T st x v (fun st'=>k (st'.putO o.dst .u))=some r):OpGoal P c o k r a w:=by
 unfold storeK at hk
 split at hk
 case h_2=>cases hk
 rename_i t f hT
 have hty:=hA.ty T t f hT
 obtain⟨own1,F,st1,g,y,cs,hk,hinv,hh,hr,hN⟩:=jaf h hty.notTup (jt h v) hk
 split at hk
 case h_2=>cases hk
 rename_i s p ha
 have hadr:=jb8 hinv (jt hinv x) ha
 split at hk
 case h_2=>cases hk
 rename_i τ h0 y0 hs
 obtain⟨n,hset,hk⟩:=jch hk
 split at hk
 case isFalse=>cases hk
 rename_i hcond
 simp only[Bool.and_eq_true,decide_eq_true_eq]at hcond
 have hslot:=hinv.slot s
 rw[hs]at hslot
 simp only[SlotOk]at hslot
 obtain⟨hown,⟨_,e,_⟩|⟨t1,f1,x1,cs1,t',cs',l',e1,e5,e2,hat,b,off,rfl,hav⟩⟩:=hadr
 ·cases e
 rw[hs]at e1
 cases e1
 rcases hslot with hslot|⟨u,_,_,h1,_⟩
 rotate_left
 ·subst h1;exact e2.elim
 obtain⟨cs0,hh0,hrep⟩:=hslot
 obtain rfl:=Holds.uniq e5.1 hh0 e2
 have hpne:p≠[]:=by
  rintro rfl
  simp only[At]at hat
  cases hat.2.2
 obtain⟨g1,g2,_,F1,F0,F2,f0,x0,hFo,r0,hgd,hbF,hfin⟩:=jfg t g y (N:=NB c own1 (F++[]) w) hrep (hinv.nd s) (fun q hq=>by cases hq) (fun q hq=>by cases hq) hat hset
 have hb:b∈F1++F2:=by
  rcases hbF with hb|⟨o',ho'⟩
  ·exact hb
  ·cases ho'
 have hin1:∀c'∈F1++F2,c'∈own1 s:=by
  intro c' hc';rw[hFo];simp only[List.mem_append]at hc' ⊢;rcases hc' with hb|hb<;>simp[hb]
 obtain⟨arr,e,q1,q2⟩:=hat.seg (fun q hq=>by cases hq) _ rfl
 simp only at q1 q2
 have hlr:=hr.len
 have hfit:off+cs.length≤arr.size:=by
  have:=r0.len
  rw[q2]at this
  simp only[List.length_take,List.length_drop,Array.length_toList]at this
  omega
 have hrun:=jhq hty q1 (hh.cells hty.notAny hr) hlr hr.one hfit
 let arr':Array Value:=(arr.toList.take off++cs++arr.toList.drop (off+cs.length)).toArray
 have hw1:(w.setRow b arr').heap[b]? = some (.cells arr' e (0,0)):=setRow_heap w b arr arr' e (0,0) q1
 have hother:∀c',c'≠b→(w.setRow b arr').heap[c']? = w.heap[c']? := fun c' hc'=>setRow_other w b c' arr' hc'
 have hFdis:∀c'∈F,c' ∉ own1 s:=fun c' hc' ho=>hinv.djE s c' ho (List.mem_append_left _ hc')
 have hnew:=Inv.rewrite (G:=F1++F++F2) (w':=w.setRow b arr') hinv (by rw[hs]at hown ⊢;exact hown) hcond.1 (fun c' hc'=>hother c' fun e'=>hc' (e'▸hin1 b hb)) ?_ rfl rfl rfl (jde q1 arr') ?_ ?_ ?_
 ·unfold OpGoal
  intro hfx K Q hK
  obtain⟨own2,h2⟩:=Inv.putO (F:=[]) (E:=[]) (v := .u) (value:=undef) o.dst (by simpa using hnew) rfl (vp hfx)
  refine jhw ?_ (hK _ _ _ _ hk h2)
  unfold execOp
  simp only[ho,hav,Instr.storeAt,Instr.sureAddr,Sem.run_bind,Sem.run_pure,Result.andThen_ok,hrun]
  rfl
 ·exact setRow_size _ _ _
 ·intro c' hc'
  simp only[List.mem_append]at hc'
  rcases hc' with(hc'|hc')|hc'
  ·exact .inl (hin1 c' (List.mem_append_left _ hc'))
  ·exact .inr hc'
  ·exact .inl (hin1 c' (List.mem_append_right _ hc'))
 ·have nd:=hinv.nd s
  rw[hFo]at nd
  have ndF:=hinv.ndE
  rw[List.append_nil]at ndF
  have hd:∀c'∈F,c' ∉ F1++F2:=fun c' hc' h'=>hFdis c' hc' (hin1 c' h')
  simp only[List.nodup_append,List.mem_append,not_or]at nd hd ⊢
  refine⟨⟨nd.1.1,ndF,fun x hx z hz e' => ?_⟩,nd.2.1,fun x hx z hz e' => ?_⟩
  ·subst e';exact(hd x hz).1 hx
  ·subst e'
   rcases hx with hx|hx
   ·exact nd.2.2 x (.inl hx) x hz rfl
   ·exact(hd x hx).2 hz
 ·intro N' hN'
  refine .inl ⟨cs0,setD_holds hpne hset hh0, ?_⟩
  refine hfin (w.setRow b arr') N' F arr arr' e e cs cs0 q1 hw1 rfl (by simpa using hfit) hlr ?_ (fun c' _ hcb=>hother c' hcb) (fun c' hc'=>⟨hN' c' hc',hother c' fun e'=>hc'.2.1 s (e'▸hin1 b hb)⟩) (fun q hq=>by cases hq) (fun _=>rfl) (fun q hq=>by cases hq)
  exact hr.mono (fun c' hc'=>⟨hN' c' hc',hother c' fun e'=>hc'.2.1 s (e'▸hin1 b hb)⟩) fun c' hc'=>hother c' fun e'=>hFdis c' hc' (e'▸hin1 b hb)
end
end Go.Gx
