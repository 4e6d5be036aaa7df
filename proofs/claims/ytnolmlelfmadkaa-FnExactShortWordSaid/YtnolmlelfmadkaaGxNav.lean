import Derived.Test.YtnolmlelfmadkaaGxRep
namespace Go.Gx
open Go
theorem RepL.focus {α:Type}{f:α→List Value→List Nat→Prop}{sz:Nat}:∀{xs:List α}{cs:List Value}{F:List Nat}{i:Nat}{x:α},
  RepL f sz xs cs F→xs[i]? = some x→∃F1 F0 F2,F=F1++F0++F2∧i*sz+sz≤cs.length∧f x ((cs.drop (i*sz)).take sz) F0 ∧
   ∀(g:α→List Value→List Nat→Prop) (x':α) (F0':List Nat) (seg:List Value),seg.length=sz→g x' seg F0' →
    (∀y ds G,(∀b∈G,b∈F1++F2)→f y ds G→g y ds G)→RepL g sz (xs.set i x') (cs.take (i*sz)++seg++cs.drop (i*sz+sz)) (F1++F0'++F2)
 | [],_,_,i,_,_,hi=>by simp at hi
 | y::ys,cs,_,0,x,⟨F1,F2,hF,hl,hx,hr⟩,hi=>by
  simp only[List.getElem?_cons_zero,Option.some.injEq]at hi
  subst hi
  subst hF
  refine⟨[],F1,F2,by simp,by simpa using hl,by simpa using hx,fun g x' F0' seg hs hg hm => ?_⟩
  refine⟨F0',F2,by simp,by simp[hs], ?_, ?_⟩
  ·simp[←hs]
   exact hg
  ·have:(List.take (0*sz) cs++seg++List.drop (0*sz+sz) cs).drop sz=cs.drop sz:=by simp[←hs]
   rw[this]
   exact hr.mono fun x ds G hG hf=>hm x ds G (by simpa using hG) hf
 | y::ys,cs,_,i+1,x,⟨F1,F2,hF,hl,hx,hr⟩,hi=>by
  simp only[List.getElem?_cons_succ]at hi
  obtain⟨E1,E0,E2,hE,hb,h0,hre⟩:=hr.focus hi
  subst hF
  have e1:(i+1)*sz=sz+i*sz:=by rw[Nat.succ_mul];omega
  refine⟨F1++E1,E0,E2,by rw[hE];simp, ?_, ?_,fun g x' F0' seg hs hg hm => ?_⟩
  ·simp only[List.length_drop]at hb;omega
  ·rw[e1,←List.drop_drop];exact h0
  ·refine⟨F1,E1++F0'++E2,by simp, ?_, ?_, ?_⟩
   ·simp only[List.length_append,List.length_take,List.length_drop];omega
   ·have:(List.take ((i+1)*sz) cs++seg++List.drop ((i+1)*sz+sz) cs).take sz=cs.take sz:=by
     rw[List.append_assoc,List.take_append_of_le_length (by simp;omega),List.take_take]
     congr 1;omega
    rw[this]
    exact hm _ _ _ (fun b hb=>by simp[hb]) hx
   ·have:(List.take ((i+1)*sz) cs++seg++List.drop ((i+1)*sz+sz) cs).drop sz=(cs.drop sz).take (i*sz)++seg++(cs.drop sz).drop (i*sz+sz):=by
     rw[e1,List.append_assoc,List.drop_append_of_le_length (by simp;omega),List.drop_take,List.drop_drop]
     rw[List.append_assoc]
     congr 2
     ·omega
     ·congr 1;omega
    rw[this]
    exact hre g x' F0' seg hs hg fun y ds G hG hf=>hm y ds G (fun b hb=>by
     have h:=hG b hb
     simp only[List.mem_append]at h ⊢
     rcases h with h|h
     ·exact .inl (.inr h)
     ·exact .inr h) hf
def At (w:World):Ty→List Value→Option (Nat×Nat)→List Stp→Ty→List Value→Option (Nat×Nat)→Prop
 | t,cs,l,[],t',cs',l'=>t'=t∧cs'=cs∧l'=l
 | .sl t,cs,_,.idx i::p,t',cs',l'=>∃b len cap arr e,cs=[.slice (some ⟨b,0,none⟩) len cap]∧w.heap[b]? = some (.cells arr e (0,0)) ∧
   At w t ((arr.toList.drop (i*t.cells)).take t.cells) (some (b,i*t.cells)) p t' cs' l'
 | .pair a _,cs,l,.fst::p,t',cs',l'=>At w a (cs.take a.cells) l p t' cs' l'
 | .pair a b,cs,l,.snd::p,t',cs',l'=>At w b (cs.drop a.cells) (l.map fun q=>(q.1,q.2+a.cells)) p t' cs' l'
 | .ptr t,cs,_,.deref::p,t',cs',l'=>∃b arr e,cs=[.pointer (some ⟨b,0,none⟩)]∧w.heap[b]? = some (.cells arr e (0,0))∧arr.size=t.cells ∧
   At w t arr.toList (some (b,0)) p t' cs' l'
 | _,_,_,_::_,_,_,_=>False
abbrev Node:=(t:Ty)×Fl×t.den
def getD (t:Ty) (f:Fl) (x:t.den) (p:List Stp):Option Node:=getP t f x p fun t f x=>some ⟨t,f,x⟩
def setD (t:Ty) (f:Fl) (x:t.den) (p:List Stp) (t':Ty) (f':Fl) (y:t'.den):Option Node:=setP t f x p t' f' y fun t f x=>some ⟨t,f,x⟩
theorem ja9 {ρ:Type}(k:(t:Ty)→Fl→t.den→Option ρ):∀(p:List Stp) (t:Ty) (f:Fl) (x:t.den),getP t f x p k=(getD t f x p).bind fun n=>k n.1 n.2.1 n.2.2:=by
 intro p
 induction p with
 | nil=>intro t f x;simp[getD,getP]
 | cons s p ih =>
  intro t f x
  unfold getD
  cases t<;>cases s<;>simp only[getP,Option.bind_none]
  ·rename_i t i
   cases(show List t.den from x)[i]?<;>simp[ih,getD]
  all_goals exact ih _ _ _
theorem jdc (t':Ty) (f':Fl) (y:t'.den):∀(p:List Stp) (ρ:Type) (k:(t:Ty)→Fl→t.den→Option ρ) (t:Ty) (f:Fl) (x:t.den),
  setP t f x p t' f' y k=(setD t f x p t' f' y).bind fun n=>k n.1 n.2.1 n.2.2:=by
 intro p
 induction p with
 | nil=>intro ρ k t f x;simp only[setD,setP];split<;>simp
 | cons s p ih =>
  intro ρ k t f x
  unfold setD
  cases t<;>cases s<;>(try simp only[setP,Option.bind_none])
  ·rename_i t i
   cases f<;>simp only[setP,Option.bind_none]
   rename_i g
   cases(show List t.den from x)[i]? with
   | none=>simp
   | some x0 =>
    simp only[Option.bind_some]
    rw[ih,ih Node (fun t'' f'' z=>if h:t''=t then if f''=g then _ else none else none)]
    cases setD t g x0 p t' f' y with
    | none=>rfl
    | some n=>simp only[Option.bind_some];split<;>(try split)<;>simp
  ·cases f<;>simp only[setP,Option.bind_none]
   rw[ih,ih Node]
   cases setD _ _ _ p t' f' y<;>simp
  ·rw[ih,ih Node]
   cases setD _ _ _ p t' f' y<;>simp
  ·rw[ih,ih Node]
   cases setD _ _ _ p t' f' y<;>simp
theorem vn {ρ:Type}(k:(t:Ty)→Fl→t.den→Option ρ) (t':Ty) (f':Fl) (y:t'.den) (p:List Stp) (t:Ty) (f:Fl) (x:t.den) :
  setP t f x p t' f' y k=(setD t f x p t' f' y).bind fun n=>k n.1 n.2.1 n.2.2:=jdc t' f' y p ρ k t f x
theorem At.det {w:World}:∀{p:List Stp}{t:Ty}{cs:List Value}{l:Option (Nat×Nat)}{t1 t2:Ty}{c1 c2:List Value}{l1 l2:Option (Nat×Nat)},
  At w t cs l p t1 c1 l1→At w t cs l p t2 c2 l2→t1=t2∧c1=c2∧l1=l2:=by
 intro p
 induction p with
 | nil=>intro t cs l t1 t2 c1 c2 l1 l2 h1 h2;simp only[At]at h1 h2;obtain⟨rfl,rfl,rfl⟩:=h1;obtain⟨rfl,rfl,rfl⟩:=h2;exact⟨rfl,rfl,rfl⟩
 | cons s p ih =>
  intro t cs l t1 t2 c1 c2 l1 l2 h1 h2
  cases t<;>cases s<;>simp only[At]at h1 h2
  ·obtain⟨b,len,cap,arr,e,e1,e2,h1⟩:=h1
   obtain⟨b',len',cap',arr',e',e1',e2',h2⟩:=h2
   rw[e1]at e1'
   simp only[List.cons.injEq,Value.slice.injEq,Option.some.injEq,Addr.mk.injEq,and_true]at e1'
   obtain⟨rfl,rfl,rfl⟩:=e1'
   rw[e2]at e2'
   simp only[Option.some.injEq,Obj.cells.injEq,and_true]at e2'
   obtain⟨rfl,rfl⟩:=e2'
   exact ih h1 h2
  ·obtain⟨b,arr,e,e1,e2,e3,h1⟩:=h1
   obtain⟨b',arr',e',e1',e2',e3',h2⟩:=h2
   rw[e1]at e1'
   simp only[List.cons.injEq,Value.pointer.injEq,Option.some.injEq,Addr.mk.injEq,and_true]at e1'
   subst e1'
   rw[e2]at e2'
   simp only[Option.some.injEq,Obj.cells.injEq,and_true]at e2'
   obtain⟨rfl,rfl⟩:=e2'
   exact ih h1 h2
  ·exact ih h1 h2
  ·exact ih h1 h2
theorem At.snoc {w:World}{q:List Stp}{t2:Ty}{c2:List Value}{l2:Option (Nat×Nat)}:∀{p:List Stp}{t:Ty}{cs:List Value}{l:Option (Nat×Nat)}{t1:Ty}{c1:List Value}{l1:Option (Nat×Nat)},
  At w t cs l p t1 c1 l1→At w t1 c1 l1 q t2 c2 l2→At w t cs l (p++q) t2 c2 l2:=by
 intro p
 induction p with
 | nil=>intro t cs l t1 c1 l1 h1 h2;simp only[At]at h1;obtain⟨rfl,rfl,rfl⟩:=h1;exact h2
 | cons s p ih =>
  intro t cs l t1 c1 l1 h1 h2
  cases t<;>cases s<;>simp only[At,List.cons_append]at h1 ⊢
  ·obtain⟨b,len,cap,arr,e,e1,e2,h1⟩:=h1
   exact⟨b,len,cap,arr,e,e1,e2,ih h1 h2⟩
  ·obtain⟨b,arr,e,e1,e2,e3,h1⟩:=h1
   exact⟨b,arr,e,e1,e2,e3,ih h1 h2⟩
  ·exact ih h1 h2
  ·exact ih h1 h2
theorem RepL.nth {α:Type}{f:α→List Value→List Nat→Prop}{sz:Nat}{xs:List α}{cs:List Value}{F:List Nat}{i:Nat}{x:α}
  (h:RepL f sz xs cs F) (hi:xs[i]? = some x):∃F0,(∀b∈F0,b∈F)∧i*sz+sz≤cs.length∧f x ((cs.drop (i*sz)).take sz) F0:=by
 obtain⟨F1,F0,F2,e,hb,hf,_⟩:=h.focus hi
 exact⟨F0,fun b hb=>by rw[e];simp[hb],hb,hf⟩
theorem nav {w:World}{N:Nat→Prop}:∀{p:List Stp}{t:Ty}{f:Fl}{x:t.den}{cs:List Value}{F:List Nat}{l:Option (Nat×Nat)}{t1:Ty}{c1:List Value}{l1:Option (Nat×Nat)}{n:Node},
  Rep w N t f x cs F→At w t cs l p t1 c1 l1→getD t f x p=some n→t1=n.1∧∃F0,(∀b∈F0,b∈F)∧Rep w N n.1 n.2.1 n.2.2 c1 F0:=by
 intro p
 induction p with
 | nil =>
  intro t f x cs F l t1 c1 l1 n hr ha hg
  simp only[At]at ha
  obtain⟨rfl,rfl,rfl⟩:=ha
  simp only[getD,getP,Option.some.injEq]at hg
  subst hg
  exact⟨rfl,F,fun _ h=>h,hr⟩
 | cons s p ih =>
  intro t f x cs F l t1 c1 l1 n hr ha hg
  cases t<;>cases s<;>simp only[At]at ha
  ·rename_i t i
   obtain⟨b,len,cap,arr,e,e1,e2,ha⟩:=ha
   simp only[getD,getP]at hg
   cases hx:(show List t.den from x)[i]? with
   | none=>rw[hx]at hg;cases hg
   | some x0 =>
    rw[hx]at hg
    simp only[Option.bind_some]at hg
    simp only[Rep]at hr
    split at hr
    ·rcases hr with⟨h0,_⟩|⟨b',cap',arr',e',G,g1,g2,g3,g4,g5,g6,g7⟩
     ·rw[h0]at hx;simp at hx
     ·rw[e1]at g1
      simp only[List.cons.injEq,Value.slice.injEq,Option.some.injEq,Addr.mk.injEq,and_true]at g1
      obtain⟨rfl,rfl,rfl⟩:=g1
      rw[e2]at g2
      simp only[Option.some.injEq,Obj.cells.injEq,and_true]at g2
      obtain⟨rfl,rfl⟩:=g2
      obtain⟨F0,m0,_,r0⟩:=g7.nth hx
      obtain⟨h1,F1,m1,r1⟩:=ih r0 ha hg
      exact⟨h1,F1,fun c hc=>by rw[g6];exact List.mem_cons_of_mem _ (m0 c (m1 c hc)),r1⟩
    ·rename_i hno
     obtain⟨h0,a,cap',g1,g2,g3,g4⟩:=hr
     have hne:(show List t.den from x)≠[]:=by intro h;rw[h]at hx;simp at hx
     obtain⟨b',off,arr',e',fr,g5,g6,g7,g8⟩:=g4 hne
     rw[e1]at g1
     simp only[List.cons.injEq,Value.slice.injEq,and_true]at g1
     obtain⟨rfl,rfl,rfl⟩:=g1
     simp only[Option.some.injEq,Addr.mk.injEq,and_true]at g5
     obtain⟨rfl,rfl⟩:=g5
     rw[e2]at g7
     simp only[Option.some.injEq,Obj.cells.injEq]at g7
     obtain⟨rfl,rfl,rfl⟩:=g7
     obtain⟨F0,m0,_,r0⟩:=g8.nth hx
     have hi:f.inn = .i:=by cases f<;>simp_all [Fl.inn]
     simp only[List.drop_zero]at r0
     rw[hi]at hg
     obtain⟨h1,F1,m1,r1⟩:=ih r0 ha hg
     exact⟨h1,F1,fun c hc=>absurd (m0 c (m1 c hc)) (by simp),r1⟩
  ·rename_i t
   obtain⟨b,arr,e,e1,e2,e3,ha⟩:=ha
   simp only[getD,getP]at hg
   simp only[Rep]at hr
   split at hr
   ·obtain⟨b',arr',e',G,g1,g2,g3,g4⟩:=hr
    rw[e1]at g1
    simp only[List.cons.injEq,Value.pointer.injEq,Option.some.injEq,Addr.mk.injEq,and_true]at g1
    subst g1
    rw[e2]at g2
    simp only[Option.some.injEq,Obj.cells.injEq,and_true]at g2
    obtain⟨rfl,rfl⟩:=g2
    obtain⟨h1,F1,m1,r1⟩:=ih g4 ha hg
    exact⟨h1,F1,fun c hc=>by rw[g3];exact List.mem_cons_of_mem _ (m1 c hc),r1⟩
   ·rename_i hno
    obtain⟨h0,b',off,arr',e',fr,g1,g2,g3,g5,g4⟩:=hr
    rw[e1]at g1
    simp only[List.cons.injEq,Value.pointer.injEq,Option.some.injEq,Addr.mk.injEq,and_true]at g1
    obtain⟨rfl,rfl⟩:=g1
    rw[e2]at g3
    simp only[Option.some.injEq,Obj.cells.injEq]at g3
    obtain⟨rfl,rfl,rfl⟩:=g3
    have hi:f.inn = .i:=by cases f<;>simp_all [Fl.inn]
    rw[hi]at hg
    simp only[List.drop_zero]at g4
    rw[List.take_of_length_le (by simp[e3])]at g4
    obtain⟨h1,F1,m1,r1⟩:=ih g4 ha hg
    exact⟨h1,F1,fun c hc=>absurd (m1 c hc) (by simp),r1⟩
  ·rename_i a c
   simp only[getD,getP]at hg
   simp only[Rep]at hr
   obtain⟨F1,F2,e0,hl,r1,r2⟩:=hr
   obtain⟨h1,F0,m1,r0⟩:=ih r1 ha hg
   exact⟨h1,F0,fun b hb=>by rw[e0];exact List.mem_append_left _ (m1 b hb),r0⟩
  ·rename_i a c
   simp only[getD,getP]at hg
   simp only[Rep]at hr
   obtain⟨F1,F2,e0,hl,r1,r2⟩:=hr
   obtain⟨h1,F0,m1,r0⟩:=ih r2 ha hg
   exact⟨h1,F0,fun b hb=>by rw[e0];exact List.mem_append_right _ (m1 b hb),r0⟩
theorem RepL.nthS {α:Type}{f:α→List Value→List Nat→Prop}{sz:Nat}{xs:List α}{cs:List Value}{F:List Nat}{i:Nat}{x:α}
  (h:RepL f sz xs cs F) (hi:xs[i]? = some x):∃F0,F0.Sublist F∧i*sz+sz≤cs.length∧f x ((cs.drop (i*sz)).take sz) F0:=by
 obtain⟨F1,F0,F2,e,hb,hf,_⟩:=h.focus hi
 exact⟨F0,by rw[e];exact(List.sublist_append_right _ _).trans (List.sublist_append_left _ _),hb,hf⟩
theorem nav2 {w:World}{N:Nat→Prop}:∀{p:List Stp}{t:Ty}{f:Fl}{x:t.den}{cs:List Value}{F:List Nat}{l:Option (Nat×Nat)}{t1:Ty}{c1:List Value}{l1:Option (Nat×Nat)}{n:Node},
  Rep w N t f x cs F→At w t cs l p t1 c1 l1→getD t f x p=some n→t1=n.1∧∃F0,F0.Sublist F∧Rep w N n.1 n.2.1 n.2.2 c1 F0:=by
 intro p
 induction p with
 | nil =>
  intro t f x cs F l t1 c1 l1 n hr ha hg
  simp only[At]at ha
  obtain⟨rfl,rfl,rfl⟩:=ha
  simp only[getD,getP,Option.some.injEq]at hg
  subst hg
  exact⟨rfl,F,List.Sublist.refl _,hr⟩
 | cons s p ih =>
  intro t f x cs F l t1 c1 l1 n hr ha hg
  cases t<;>cases s<;>simp only[At]at ha
  ·rename_i t i
   obtain⟨b,len,cap,arr,e,e1,e2,ha⟩:=ha
   simp only[getD,getP]at hg
   cases hx:(show List t.den from x)[i]? with
   | none=>rw[hx]at hg;cases hg
   | some x0 =>
    rw[hx]at hg
    simp only[Option.bind_some]at hg
    simp only[Rep]at hr
    split at hr
    ·rcases hr with⟨h0,_⟩|⟨b',cap',arr',e',G,g1,g2,g3,g4,g5,g6,g7⟩
     ·rw[h0]at hx;simp at hx
     ·rw[e1]at g1
      simp only[List.cons.injEq,Value.slice.injEq,Option.some.injEq,Addr.mk.injEq,and_true]at g1
      obtain⟨rfl,rfl,rfl⟩:=g1
      rw[e2]at g2
      simp only[Option.some.injEq,Obj.cells.injEq,and_true]at g2
      obtain⟨rfl,rfl⟩:=g2
      obtain⟨F0,m0,_,r0⟩:=g7.nthS hx
      obtain⟨h1,F1,m1,r1⟩:=ih r0 ha hg
      exact⟨h1,F1,by rw[g6];exact(m1.trans m0).trans (List.sublist_cons_self _ _),r1⟩
    ·rename_i hno
     obtain⟨h0,a,cap',g1,g2,g3,g4⟩:=hr
     have hne:(show List t.den from x)≠[]:=by intro h;rw[h]at hx;simp at hx
     obtain⟨b',off,arr',e',fr,g5,g6,g7,g8⟩:=g4 hne
     rw[e1]at g1
     simp only[List.cons.injEq,Value.slice.injEq,and_true]at g1
     obtain⟨rfl,rfl,rfl⟩:=g1
     simp only[Option.some.injEq,Addr.mk.injEq,and_true]at g5
     obtain⟨rfl,rfl⟩:=g5
     rw[e2]at g7
     simp only[Option.some.injEq,Obj.cells.injEq]at g7
     obtain⟨rfl,rfl,rfl⟩:=g7
     obtain⟨F0,m0,_,r0⟩:=g8.nthS hx
     have hi:f.inn = .i:=by cases f<;>simp_all [Fl.inn]
     simp only[List.drop_zero]at r0
     rw[hi]at hg
     obtain⟨h1,F1,m1,r1⟩:=ih r0 ha hg
     exact⟨h1,F1,by have:=List.sublist_nil.1 (m1.trans m0);rw[this];exact List.nil_sublist _,r1⟩
  ·rename_i t
   obtain⟨b,arr,e,e1,e2,e3,ha⟩:=ha
   simp only[getD,getP]at hg
   simp only[Rep]at hr
   split at hr
   ·obtain⟨b',arr',e',G,g1,g2,g3,g4⟩:=hr
    rw[e1]at g1
    simp only[List.cons.injEq,Value.pointer.injEq,Option.some.injEq,Addr.mk.injEq,and_true]at g1
    subst g1
    rw[e2]at g2
    simp only[Option.some.injEq,Obj.cells.injEq,and_true]at g2
    obtain⟨rfl,rfl⟩:=g2
    obtain⟨h1,F1,m1,r1⟩:=ih g4 ha hg
    exact⟨h1,F1,by rw[g3];exact m1.trans (List.sublist_cons_self _ _),r1⟩
   ·rename_i hno
    obtain⟨h0,b',off,arr',e',fr,g1,g2,g3,g5,g4⟩:=hr
    rw[e1]at g1
    simp only[List.cons.injEq,Value.pointer.injEq,Option.some.injEq,Addr.mk.injEq,and_true]at g1
    obtain⟨rfl,rfl⟩:=g1
    rw[e2]at g3
    simp only[Option.some.injEq,Obj.cells.injEq]at g3
    obtain⟨rfl,rfl,rfl⟩:=g3
    have hi:f.inn = .i:=by cases f<;>simp_all [Fl.inn]
    rw[hi]at hg
    simp only[List.drop_zero]at g4
    rw[List.take_of_length_le (by simp[e3])]at g4
    obtain⟨h1,F1,m1,r1⟩:=ih g4 ha hg
    exact⟨h1,F1,by have:=List.sublist_nil.1 m1;rw[this];exact List.nil_sublist _,r1⟩
  ·rename_i a c
   simp only[getD,getP]at hg
   simp only[Rep]at hr
   obtain⟨F1,F2,e0,hl,r1,r2⟩:=hr
   obtain⟨h1,F0,m1,r0⟩:=ih r1 ha hg
   exact⟨h1,F0,by rw[e0];exact m1.trans (List.sublist_append_left _ _),r0⟩
  ·rename_i a c
   simp only[getD,getP]at hg
   simp only[Rep]at hr
   obtain⟨F1,F2,e0,hl,r1,r2⟩:=hr
   obtain⟨h1,F0,m1,r0⟩:=ih r2 ha hg
   exact⟨h1,F0,by rw[e0];exact m1.trans (List.sublist_append_right _ _),r0⟩
theorem RepL.uniq {α:Type}{f g:α→List Value→List Nat→Prop}{sz:Nat}:∀{xs:List α}{cs:List Value}{F G:List Nat},RepL f sz xs cs F→RepL g sz xs cs G→(∀x ds A B,f x ds A→g x ds B→A=B)→F=G
 | [],_,_,_,h,h',_=>by simp only[RepL]at h h';rw[h,h']
 | _::_,_,_,_,⟨F1,F2,e,_,hx,hr⟩,⟨G1,G2,e',_,hx',hr'⟩,k=>by
  rw[e,e',k _ _ _ _ hx hx',RepL.uniq hr hr' k]
theorem Rep.uniq {w:World}{N N':Nat→Prop}:∀{t:Ty}{f:Fl}{x:t.den}{cs:List Value}{F G:List Nat},Rep w N t f x cs F→Rep w N' t f x cs G→F=G
 | .int _,_,_,_,_,_,h,h'=>by rw[h.2,h'.2]
 | .bool,_,_,_,_,_,h,h'=>by rw[h.2,h'.2]
 | .str,_,_,_,_,_,h,h'=>by rw[h.2,h'.2]
 | .unit,_,_,_,_,_,h,h'=>by rw[h.2,h'.2]
 | .any _,_,_,_,_,_,h,h'=>by rw[h.2,h'.2]
 | .sl t,f,x,cs,F,G,h,h'=>by
  simp only[Rep]at h h'
  cases f with
  | o g =>
   simp only at h h'
   rcases h with⟨h1,h2,h3⟩|⟨b,cap,arr,e,H,h1,h2,h3,h4,h5,h6,h7⟩
   ·rcases h' with⟨_,_,h3'⟩|⟨b',cap',arr',e',H',h1',_⟩
    ·rw[h3,h3']
    ·rw[h2]at h1';simp at h1'
   ·rcases h' with⟨_,h2',h3'⟩|⟨b',cap',arr',e',H',h1',h2',h3',h4',h5',h6',h7'⟩
    ·rw[h2']at h1;simp at h1
    ·rw[h1]at h1'
     simp only[List.cons.injEq,Value.slice.injEq,Option.some.injEq,Addr.mk.injEq,and_true,true_and]at h1'
     obtain⟨rfl,rfl⟩:=h1'
     rw[h2]at h2'
     simp only[Option.some.injEq,Obj.cells.injEq,and_true]at h2'
     obtain⟨rfl,rfl⟩:=h2'
     rw[h6,h6',RepL.uniq h7 h7' fun x ds A B ha hb=>Rep.uniq ha hb]
  | i=>rw[h.1,h'.1]
  | p _ _=>rw[h.1,h'.1]
 | .ptr t,f,x,cs,F,G,h,h'=>by
  simp only[Rep]at h h'
  cases f with
  | o g =>
   simp only at h h'
   obtain⟨b,arr,e,H,h1,h2,h3,h4⟩:=h
   obtain⟨b',arr',e',H',h1',h2',h3',h4'⟩:=h'
   rw[h1]at h1'
   simp only[List.cons.injEq,Value.pointer.injEq,Option.some.injEq,Addr.mk.injEq,and_true]at h1'
   subst h1'
   rw[h2]at h2'
   simp only[Option.some.injEq,Obj.cells.injEq,and_true]at h2'
   obtain⟨rfl,rfl⟩:=h2'
   rw[h3,h3',Rep.uniq h4 h4']
  | i=>rw[h.1,h'.1]
  | p _ _=>rw[h.1,h'.1]
 | .map _ _,f,x,cs,F,G,h,h'=>by
  simp only[Rep]at h h'
  cases f with
  | o g =>
   obtain⟨b,es,ck,h1,_,h3,_⟩:=h
   obtain⟨b',es',ck',h1',_,h3',_⟩:=h'
   rw[h1]at h1'
   simp only[List.cons.injEq,Value.map.injEq,Option.some.injEq,and_true]at h1'
   rw[h3,h3',h1']
  | i=>rw[h.1,h'.1]
  | p _ _=>rw[h.1,h'.1]
 | .opt t,f,x,cs,F,G,h,h'=>by
  simp only[Rep]at h h'
  cases f with
  | o g =>
   cases x with
   | none=>rw[h.2,h'.2]
   | some x =>
    simp only at h h'
    obtain⟨b,arr,e,H,h1,h2,h3,h4⟩:=h
    obtain⟨b',arr',e',H',h1',h2',h3',h4'⟩:=h'
    rw[h1]at h1'
    simp only[List.cons.injEq,Value.pointer.injEq,Option.some.injEq,Addr.mk.injEq,and_true]at h1'
    subst h1'
    rw[h2]at h2'
    simp only[Option.some.injEq,Obj.cells.injEq,and_true]at h2'
    obtain⟨rfl,rfl⟩:=h2'
    rw[h3,h3',Rep.uniq h4 h4']
  | i=>rw[h.1,h'.1]
  | p _ _=>rw[h.1,h'.1]
 | .pair a b,f,x,cs,_,_,h,h'=>by
  simp only[Rep]at h h'
  obtain⟨F1,F2,e,_,h1,h2⟩:=h
  obtain⟨G1,G2,e',_,h1',h2'⟩:=h'
  rw[e,e',Rep.uniq h1 h1',Rep.uniq h2 h2']
 | .tup _,_,_,_,_,_,h,_=>h.elim
 | .ns t,f,x,cs,F,G,h,h'=>by
  simp only[Rep]at h h'
  cases f with
  | o g =>
   cases x with
   | none=>rw[h.2,h'.2]
   | some x =>
    simp only at h h'
    obtain⟨_,b,cap,arr,e,H,h1,h2,h3,h4,h5,h6,h7⟩:=h
    obtain⟨_,b',cap',arr',e',H',h1',h2',h3',h4',h5',h6',h7'⟩:=h'
    rw[h1]at h1'
    simp only[List.cons.injEq,Value.slice.injEq,Option.some.injEq,Addr.mk.injEq,and_true,true_and]at h1'
    obtain⟨rfl,rfl⟩:=h1'
    rw[h2]at h2'
    simp only[Option.some.injEq,Obj.cells.injEq,and_true]at h2'
    obtain⟨rfl,rfl⟩:=h2'
    rw[h6,h6',RepL.uniq h7 h7' fun x ds A B ha hb=>Rep.uniq ha hb]
  | i=>rw[h.1,h'.1]
  | p _ _=>rw[h.1,h'.1]
 | .clo _ _ _,_,x,_,_,_,h,h'=>by
  simp only[Rep]at h h'
  rw[h.1,h'.1]
def Seg (w:World) (l:Option (Nat×Nat)) (n:Nat) (cs:List Value):Prop :=
 ∀q,l=some q→∃arr e,w.heap[q.1]? = some (.cells arr e (0,0))∧cs=(arr.toList.drop q.2).take n∧q.2+n≤arr.size
theorem jei {α:Type}{xs ys seg:List α}{off k:Nat}(h:ys=xs.take off++seg++xs.drop (off+seg.length)) (hb:off+seg.length≤xs.length) (hk:k≤off):ys.take k=xs.take k:=by
 subst h
 rw[List.append_assoc,List.take_append_of_le_length (by simp;omega),List.take_take]
 congr 1;omega
theorem jeh {α:Type}{xs ys seg:List α}{off k:Nat}(h:ys=xs.take off++seg++xs.drop (off+seg.length)) (hb:off+seg.length≤xs.length) (hk:off+seg.length≤k):ys.drop k=xs.drop k:=by
 subst h
 rw[List.drop_append,List.drop_eq_nil_of_le (by simp;omega)]
 simp only[List.nil_append,List.length_append,List.length_take,List.drop_drop]
 congr 1;omega
theorem jfa {α:Type}{xs ys seg:List α}{off:Nat}(h:ys=xs.take off++seg++xs.drop (off+seg.length)) (hb:off+seg.length≤xs.length):ys.length=xs.length:=by
 subst h;simp only[List.length_append,List.length_take,List.length_drop];omega
theorem jja {α:Type}{xs ys seg:List α}{off:Nat}(h:ys=xs.take off++seg++xs.drop (off+seg.length)) (hb:off+seg.length≤xs.length):(ys.drop off).take seg.length=seg:=by
 subst h
 rw[List.append_assoc,List.drop_append_of_le_length (by simp;omega),List.drop_eq_nil_of_le (by simp;omega)]
 simp
theorem seg_eq {α:Type}{ys:List α}{a n:Nat}:ys.take a++(ys.drop a).take n++ys.drop (a+n)=ys:=by
 rw[List.append_assoc,←List.drop_drop,List.take_append_drop,List.take_append_drop]
theorem Rep.mkP {w:World}{N:Nat→Prop}{a b:Ty}{g h:Fl}{x:(Ty.pair a b).den}{cs:List Value}{F:List Nat} :
  Rep w N (.pair a b) (Fl.mkP g h) x cs F↔∃F1 F2,F=F1++F2∧a.cells≤cs.length∧Rep w N a g x.1 (cs.take a.cells) F1∧Rep w N b h x.2 (cs.drop a.cells) F2:=by
 cases g<;>cases h<;>simp[Fl.mkP,Rep,Fl.l,Fl.r]
end Go.Gx
