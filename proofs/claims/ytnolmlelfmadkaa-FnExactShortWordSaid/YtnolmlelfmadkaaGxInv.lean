import Derived.Test.YtnolmlelfmadkaaGxWeak
set_option linter.unusedVariables false
namespace Go.Gx
open Go
def Holds:Ty→Value→List Value→Prop
 | .pair _ _,v,cs=>v = .agg cs.toArray
 | .unit,v,cs=>v = .agg cs.toArray
 | .any _,_,_=>True
 | .tup _,_,_=>False
 | _,v,cs=>cs=[v]
theorem Holds.uniq {t:Ty}{v:Value}{cs cs':List Value}(ht:∀n,t ≠ .any n) (h:Holds t v cs) (h':Holds t v cs'):cs=cs':=by
 cases t<;>simp only[Holds]at h h'<;>(try (subst h;simpa using h'))<;>(try (rw[h,h']))
 ·exact absurd rfl (ht _)
def RepS (w:World) (N:Nat→Prop) (t:Ty) (f:Fl) (x:t.den) (v:Value) (F:List Nat):Prop:=∃cs,Holds t v cs∧Rep w N t f x cs F
def RepT (w:World) (N:Nat→Prop):(u:Ty)→Fl→u.den→List Value→List Nat→Prop
 | .unit,_,_,vs,F=>vs=[]∧F=[]
 | .pair a b,f,x,vs,F=>∃v vs' F1 F2,vs=v::vs'∧F=F1++F2∧RepS w N a f.l x.1 v F1∧RepT w N b f.r x.2 vs' F2
 | _,_,_,_,_=>False
def RepV (w:World) (N:Nat→Prop) (t:Ty) (f:Fl) (x:t.den) (v:Value) (F:List Nat):Prop :=
 RepS w N t f x v F∨∃u y vs,t = .tup u∧HEq x y∧v = .tuple vs∧RepT w N u f y vs.toList F
theorem RepS.mono {w w':World}{N N':Nat→Prop}(hN:∀b,N b→N' b∧w'.heap[b]? = w.heap[b]?){t:Ty}{f:Fl}{x:t.den}{v:Value}{F:List Nat}
  (h:RepS w N t f x v F) (hF:∀b∈F,w'.heap[b]? = w.heap[b]?):RepS w' N' t f x v F:=by
 obtain⟨cs,h1,h2⟩:=h
 exact⟨cs,h1,h2.mono hN hF⟩
theorem RepT.mono {w w':World}{N N':Nat→Prop}(hN:∀b,N b→N' b∧w'.heap[b]? = w.heap[b]?):∀{u:Ty}{f:Fl}{x:u.den}{vs:List Value}{F:List Nat},
  RepT w N u f x vs F→(∀b∈F,w'.heap[b]? = w.heap[b]?)→RepT w' N' u f x vs F
 | .unit,_,_,_,_,h,_=>h
 | .pair a b,_,_,_,_,⟨v,vs',F1,F2,h1,h2,h3,h4⟩,hF =>
  ⟨v,vs',F1,F2,h1,h2,h3.mono hN fun c hc=>hF c (by rw[h2];exact List.mem_append_left _ hc),RepT.mono hN h4 fun c hc=>hF c (by rw[h2];exact List.mem_append_right _ hc)⟩
 | .int _,_,_,_,_,h,_=>h.elim
 | .bool,_,_,_,_,h,_=>h.elim
 | .str,_,_,_,_,h,_=>h.elim
 | .any _,_,_,_,_,h,_=>h.elim
 | .sl _,_,_,_,_,h,_=>h.elim
 | .ptr _,_,_,_,_,h,_=>h.elim
 | .opt _,_,_,_,_,h,_=>h.elim
 | .tup _,_,_,_,_,h,_=>h.elim
 | .clo _ _ _,_,_,_,_,h,_=>h.elim
 | .ns _,_,_,_,_,h,_=>h.elim
 | .map _ _,_,_,_,_,h,_=>h.elim
theorem RepV.mono {w w':World}{N N':Nat→Prop}(hN:∀b,N b→N' b∧w'.heap[b]? = w.heap[b]?){t:Ty}{f:Fl}{x:t.den}{v:Value}{F:List Nat}
  (h:RepV w N t f x v F) (hF:∀b∈F,w'.heap[b]? = w.heap[b]?):RepV w' N' t f x v F:=by
 rcases h with h|⟨u,y,vs,h1,h2,h3,h4⟩
 ·exact .inl (h.mono hN hF)
 ·exact .inr ⟨u,y,vs,h1,h2,h3,h4.mono hN hF⟩
theorem RepT.lt {w:World}{N:Nat→Prop}:∀{u:Ty}{f:Fl}{x:u.den}{vs:List Value}{F:List Nat},RepT w N u f x vs F→∀b∈F,b<w.heap.size
 | .unit,_,_,_,_,h=>by simp[h.2]
 | .pair a b,_,_,_,_,⟨v,vs',F1,F2,h1,h2,⟨cs,_,h3⟩,h4⟩=>by
  intro c hc
  rw[h2]at hc
  rcases List.mem_append.1 hc with hc|hc
  ·exact h3.lt c hc
  ·exact RepT.lt h4 c hc
 | .int _,_,_,_,_,h=>h.elim
 | .bool,_,_,_,_,h=>h.elim
 | .str,_,_,_,_,h=>h.elim
 | .any _,_,_,_,_,h=>h.elim
 | .sl _,_,_,_,_,h=>h.elim
 | .ptr _,_,_,_,_,h=>h.elim
 | .opt _,_,_,_,_,h=>h.elim
 | .tup _,_,_,_,_,h=>h.elim
 | .clo _ _ _,_,_,_,_,h=>h.elim
 | .ns _,_,_,_,_,h=>h.elim
 | .map _ _,_,_,_,_,h=>h.elim
theorem RepV.lt {w:World}{N:Nat→Prop}{t:Ty}{f:Fl}{x:t.den}{v:Value}{F:List Nat}(h:RepV w N t f x v F):∀b∈F,b<w.heap.size:=by
 rcases h with⟨cs,_,h⟩|⟨u,y,vs,h1,h2,h3,h4⟩
 ·exact h.lt
 ·exact h4.lt
theorem RepT.toPlain {w:World}{N N2:Nat→Prop}(hN:∀b,N b→N2 b):∀{u:Ty}{f:Fl}{x:u.den}{vs:List Value}{F:List Nat},
  RepT w N u f x vs F→(∀b∈F,N2 b)→RepT w N2 u .i x vs []
 | .unit,_,_,_,_,h,_=>⟨h.1,rfl⟩
 | .pair a b,_,_,_,_,⟨v,vs',F1,F2,h1,h2,⟨cs,hh,h3⟩,h4⟩,hF =>
  ⟨v,vs',[],[],h1,rfl,⟨cs,hh,h3.toPlain hN fun c hc=>hF c (by rw[h2];exact List.mem_append_left _ hc)⟩,RepT.toPlain hN h4 fun c hc=>hF c (by rw[h2];exact List.mem_append_right _ hc)⟩
 | .int _,_,_,_,_,h,_=>h.elim
 | .bool,_,_,_,_,h,_=>h.elim
 | .str,_,_,_,_,h,_=>h.elim
 | .any _,_,_,_,_,h,_=>h.elim
 | .sl _,_,_,_,_,h,_=>h.elim
 | .ptr _,_,_,_,_,h,_=>h.elim
 | .opt _,_,_,_,_,h,_=>h.elim
 | .tup _,_,_,_,_,h,_=>h.elim
 | .clo _ _ _,_,_,_,_,h,_=>h.elim
 | .ns _,_,_,_,_,h,_=>h.elim
 | .map _ _,_,_,_,_,h,_=>h.elim
theorem RepT.plain {w:World}{N:Nat→Prop}:∀{u:Ty}{x:u.den}{vs:List Value}{F:List Nat},RepT w N u .i x vs F→F=[]
 | .unit,_,_,_,h=>h.2
 | .pair a b,_,_,_,⟨v,vs',F1,F2,h1,h2,⟨cs,hh,h3⟩,h4⟩=>by
  have e1:=Rep.plain h3
  have e2:=RepT.plain h4
  rw[h2,e1,e2];rfl
 | .int _,_,_,_,h=>h.elim
 | .bool,_,_,_,h=>h.elim
 | .str,_,_,_,h=>h.elim
 | .any _,_,_,_,h=>h.elim
 | .sl _,_,_,_,h=>h.elim
 | .ptr _,_,_,_,h=>h.elim
 | .opt _,_,_,_,h=>h.elim
 | .tup _,_,_,_,h=>h.elim
 | .clo _ _ _,_,_,_,h=>h.elim
 | .ns _,_,_,_,h=>h.elim
 | .map _ _,_,_,_,h=>h.elim
theorem RepV.plain {w:World}{N:Nat→Prop}{t:Ty}{x:t.den}{v:Value}{F:List Nat}(h:RepV w N t .i x v F):F=[]:=by
 rcases h with⟨cs,_,h⟩|⟨u,y,vs,h1,h2,h3,h4⟩
 ·exact h.plain
 ·exact h4.plain
theorem RepV.toPlain {w:World}{N N2:Nat→Prop}(hN:∀b,N b→N2 b){t:Ty}{f:Fl}{x:t.den}{v:Value}{F:List Nat}(h:RepV w N t f x v F) (hF:∀b∈F,N2 b):RepV w N2 t .i x v []:=by
 rcases h with⟨cs,h0,h⟩|⟨u,y,vs,h1,h2,h3,h4⟩
 ·exact .inl ⟨cs,h0,h.toPlain hN hF⟩
 ·exact .inr ⟨u,y,vs,h1,h2,h3,h4.toPlain hN hF⟩
structure Ctx where
 w0:World
 M0:List Nat
 N0:Nat→Prop
 mn:∀b∈M0,N0 b
 fix:Nat→Option Value
def NB (c:Ctx) (own:Nat→List Nat) (E:List Nat) (w:World):Nat→Prop :=
 fun b=>b<w.heap.size∧(∀i,b ∉ own i)∧b ∉ E∧(b<c.w0.heap.size→c.N0 b)
abbrev Act.at_ (a:Act) (i:Nat):Value:=a.tmps.getD i undef
def Named:RK→Ty→Value→List Value→Option (Nat×Nat)→Prop
 | .val,t,v,cs,_=>Holds t v cs
 | .addr,_,v,_,l=>∃b off,l=some (b,off)∧v = .pointer (some ⟨b,off,none⟩)
def RefOk (w:World) (st:St) (a:Act) (s:Nat) (p:List Stp) (k:RK) (v:Value):Prop :=
 (st.get s).isOwner=true∧((p=[]∧k = .val∧v=Act.at_ a s) ∨
  ∃t f x cs t' cs' l',st.get s = .val t f x∧((∀n,t ≠ .any n)∧(getD t f x p).isSome=true)∧Holds t (Act.at_ a s) cs∧At w t cs none p t' cs' l'∧Named k t' v cs' l')
def WinOk (st:St) (a:Act) (s lo hi:Nat) (tight:Bool) (value:Value):Prop :=
 ∃(t:Ty) (f:Fl) (xs:List t.den) (ad:Option Addr) (cap:Nat),st.get s = .val (.sl t) (.o f) xs∧Act.at_ a s = .slice ad xs.length cap∧lo≤hi∧hi≤xs.length∧xs.length≤cap ∧
  value = .slice (if(if tight then hi else cap)=lo then ad else ad.map (·.add (lo*t.cells))) (hi-lo) ((if tight then hi else cap)-lo)
theorem WinOk.owner {st:St}{a:Act}{s lo hi:Nat}{tight:Bool}{value:Value}(h:WinOk st a s lo hi tight value):(st.get s).isOwner=true:=by
 obtain⟨t,f,xs,_,_,e,_⟩:=h;rw[e];rfl
theorem WinOk.congr {st st':St}{a a':Act}{s lo hi:Nat}{tight:Bool}{value:Value}(h:WinOk st a s lo hi tight value) (h1:st'.get s=st.get s) (h2:Act.at_ a' s=Act.at_ a s):WinOk st' a' s lo hi tight value:=by
 unfold WinOk at *;rw[h1,h2];exact h
theorem WinOk.moved {st st':St}{a a':Act}{s d lo hi:Nat}{tight:Bool}{value:Value}(h:WinOk st a s lo hi tight value) (h1:st'.get d=st.get s) (h2:Act.at_ a' d=Act.at_ a s):WinOk st' a' d lo hi tight value:=by
 unfold WinOk at *;rw[h1,h2];exact h
def SlotOk (w:World) (N:Nat→Prop) (st:St) (a:Act) (F:List Nat) (value:Value):V→Prop
 | .u=>F=[]
 | .val t f x=>RepV w N t f x value F
 | .nilS=>F=[]∧value = .slice none 0 0
 | .nilP=>F=[]∧value = .pointer none
 | .ref s p k=>F=[]∧RefOk w st a s p k value
 | .win s lo hi tight=>F=[]∧WinOk st a s lo hi tight value
structure Inv (c:Ctx) (own:Nat→List Nat) (E:List Nat) (st:St) (a:Act) (w:World):Prop where
 size:a.tmps.size=st.length
 defers:a.defers=[]
 slot:∀i,SlotOk w (NB c own E w) st a (own i) (Act.at_ a i) (st.get i)
 nd:∀i,(own i).Nodup
 ndE:E.Nodup
 dj:∀i j b,b∈own i→b∈own j→i=j
 djE:∀i b,b∈own i→b ∉ E
 ltE:∀b∈E,b<w.heap.size
 bnd:∀i,∀b∈own i,b∈c.M0∨c.w0.heap.size≤b
 bndE:∀b∈E,b∈c.M0∨c.w0.heap.size≤b
 frame:∀b,b<c.w0.heap.size→b ∉ c.M0→w.heap[b]? = c.w0.heap[b]?
 grow:c.w0.heap.size≤w.heap.size
 os:w.os=c.w0.os
 tape:w.tape=c.w0.tape
 output:w.output=c.w0.output
 frozen:True
 fixed:∀i v,c.fix i=some v→Act.at_ a i=v
theorem qy (st:St) (g:V→V) (hg:g .u = .u) (i:Nat):St.get (st.map g) i=g (St.get st i):=by
 unfold St.get
 rw[List.getD_eq_getElem?_getD,List.getD_eq_getElem?_getD,List.getElem?_map]
 cases st[i]?<;>simp[hg]
theorem qg (st:St) (d:Nat) (v:V) (i:Nat):St.get (st.set d v) i=if i=d∧d<st.length then v else St.get st i:=by
 unfold St.get
 rw[List.getD_eq_getElem?_getD,List.getD_eq_getElem?_getD,List.getElem?_set]
 by_cases h:d=i
 ·subst h
  by_cases hl:d<st.length
  ·simp[hl]
  ·simp[hl]
 ·simp[h,Ne.symm h]
theorem qe (st:St) (i:Nat) (h:st.length≤i):St.get st i = .u:=by
 unfold St.get
 rw[List.getD_eq_getElem?_getD,List.getElem?_eq_none h]
 rfl
theorem jgo (a:Act) (d:Nat) (v:Value) (i:Nat):Act.at_ (a.put (some d) v) i=if i=d∧d<a.tmps.size then v else Act.at_ a i:=by
 simp only[Act.at_,Act.put,Array.getD_eq_getD_getElem?,Array.getElem?_setIfInBounds]
 by_cases h:d=i
 ·subst h
  by_cases hl:d<a.tmps.size
  ·simp[hl]
  ·simp[hl]
 ·simp[h,Ne.symm h]
theorem Inv.lt {c:Ctx}{own:Nat→List Nat}{E:List Nat}{st:St}{a:Act}{w:World}(h:Inv c own E st a w) (i b:Nat) (hb:b∈own i):b<w.heap.size:=by
 have hs:=h.slot i
 cases hv:st.get i with
 | val t f x=>rw[hv]at hs;exact RepV.lt hs b hb
 | u=>rw[hv]at hs;simp only[SlotOk]at hs;rw[hs]at hb;cases hb
 | nilS=>rw[hv]at hs;simp only[SlotOk]at hs;rw[hs.1]at hb;cases hb
 | nilP=>rw[hv]at hs;simp only[SlotOk]at hs;rw[hs.1]at hb;cases hb
 | ref _ _ _=>rw[hv]at hs;simp only[SlotOk]at hs;rw[hs.1]at hb;cases hb
 | win _ _ _ _=>rw[hv]at hs;simp only[SlotOk]at hs;rw[hs.1]at hb;cases hb
theorem RefOk.congr {w:World}{st st':St}{a a':Act}{s:Nat}{p:List Stp}{k:RK}{v:Value}(h:RefOk w st a s p k v) (h1:st'.get s=st.get s) (h2:Act.at_ a' s=Act.at_ a s):RefOk w st' a' s p k v:=by
 unfold RefOk at *
 rw[h1,h2]
 exact h
theorem At.keep {w w':World}{N:Nat→Prop}(hN:∀b,N b→w'.heap[b]? = w.heap[b]?):∀{p:List Stp}{t:Ty}{f:Fl}{x:t.den}{cs:List Value}{F:List Nat}{l:Option (Nat×Nat)}{t1:Ty}{c1:List Value}{l1:Option (Nat×Nat)}{n:Node},
  Rep w N t f x cs F→(∀b∈F,w'.heap[b]? = w.heap[b]?)→getD t f x p=some n→At w t cs l p t1 c1 l1→At w' t cs l p t1 c1 l1:=by
 intro p
 induction p with
 | nil=>intro t f x cs F l t1 c1 l1 n _ _ _ h;simp only[At]at h ⊢;exact h
 | cons s p ih =>
  intro t f x cs F l t1 c1 l1 n hr hF hg h
  cases t<;>cases s<;>simp only[At]at h ⊢
  ·rename_i t i
   obtain⟨b,len,cap,arr,e,e1,e2,h⟩:=h
   simp only[getD,getP]at hg
   cases hx:(show List t.den from x)[i]? with
   | none=>rw[hx]at hg;cases hg
   | some x0 =>
    rw[hx]at hg
    simp only[Option.bind_some]at hg
    simp only[Rep]at hr
    split at hr
    ·rcases hr with⟨h0,_⟩|⟨b',cap',arr',e',G,g1,g2,g3,g4,g5,g6,g7⟩
     ·rw[h0]at hx;simp at hx
     ·rw[e1]at g1
      simp only[List.cons.injEq,Value.slice.injEq,Option.some.injEq,Addr.mk.injEq,and_true]at g1
      obtain⟨rfl,rfl,rfl⟩:=g1
      rw[e2]at g2
      simp only[Option.some.injEq,Obj.cells.injEq,and_true]at g2
      obtain⟨rfl,rfl⟩:=g2
      obtain⟨F0,m0,_,r0⟩:=g7.nth hx
      exact⟨b,_,cap,arr,e,e1,by rw[hF b (by simp[g6])];exact e2,ih r0 (fun c hc=>hF c (by rw[g6];exact List.mem_cons_of_mem _ (m0 c hc))) hg h⟩
    ·rename_i hno
     obtain⟨h0,a,cap',g1,g2,g3,g4⟩:=hr
     have hne:(show List t.den from x)≠[]:=by intro h;rw[h]at hx;simp at hx
     obtain⟨b',off,arr',e',fr,g5,g6,g7,g8⟩:=g4 hne
     rw[e1]at g1
     simp only[List.cons.injEq,Value.slice.injEq,and_true]at g1
     obtain⟨rfl,rfl,rfl⟩:=g1
     simp only[Option.some.injEq,Addr.mk.injEq,and_true]at g5
     obtain⟨rfl,rfl⟩:=g5
     rw[e2]at g7
     simp only[Option.some.injEq,Obj.cells.injEq]at g7
     obtain⟨rfl,rfl,rfl⟩:=g7
     obtain⟨F0,m0,_,r0⟩:=g8.nth hx
     have hi:f.inn = .i:=by cases f<;>simp_all [Fl.inn]
     simp only[List.drop_zero]at r0
     rw[hi]at hg
     exact⟨b,_,cap,arr,e,e1,by rw[hN b g6];exact e2,ih r0 (fun c hc=>absurd (m0 c hc) (by simp)) hg h⟩
  ·rename_i t
   obtain⟨b,arr,e,e1,e2,e3,h⟩:=h
   simp only[getD,getP]at hg
   simp only[Rep]at hr
   split at hr
   ·obtain⟨b',arr',e',G,g1,g2,g3,g4⟩:=hr
    rw[e1]at g1
    simp only[List.cons.injEq,Value.pointer.injEq,Option.some.injEq,Addr.mk.injEq,and_true]at g1
    subst g1
    rw[e2]at g2
    simp only[Option.some.injEq,Obj.cells.injEq,and_true]at g2
    obtain⟨rfl,rfl⟩:=g2
    exact⟨b,arr,e,e1,by rw[hF b (by simp[g3])];exact e2,e3,ih g4 (fun c hc=>hF c (by rw[g3];exact List.mem_cons_of_mem _ hc)) hg h⟩
   ·rename_i hno
    obtain⟨h0,b',off,arr',e',fr,g1,g2,g3,g5,g4⟩:=hr
    rw[e1]at g1
    simp only[List.cons.injEq,Value.pointer.injEq,Option.some.injEq,Addr.mk.injEq,and_true]at g1
    obtain⟨rfl,rfl⟩:=g1
    rw[e2]at g3
    simp only[Option.some.injEq,Obj.cells.injEq]at g3
    obtain⟨rfl,rfl,rfl⟩:=g3
    have hi:f.inn = .i:=by cases f<;>simp_all [Fl.inn]
    rw[hi]at hg
    simp only[List.drop_zero]at g4
    rw[List.take_of_length_le (by simp[e3])]at g4
    exact⟨b,arr,e,e1,by rw[hN b g2];exact e2,e3,ih g4 (fun c hc=>absurd hc (by simp)) hg h⟩
  ·simp only[getD,getP]at hg
   simp only[Rep]at hr
   obtain⟨F1,F2,e0,hl,r1,r2⟩:=hr
   exact ih r1 (fun c hc=>hF c (by rw[e0];exact List.mem_append_left _ hc)) hg h
  ·simp only[getD,getP]at hg
   simp only[Rep]at hr
   obtain⟨F1,F2,e0,hl,r1,r2⟩:=hr
   exact ih r2 (fun c hc=>hF c (by rw[e0];exact List.mem_append_right _ hc)) hg h
theorem jfm {q:List Stp}{m:Node}:∀{p:List Stp}{t:Ty}{f:Fl}{x:t.den}{n:Node},getD t f x p=some n→getD n.1 n.2.1 n.2.2 q=some m→getD t f x (p++q)=some m:=by
 intro p
 induction p with
 | nil=>intro t f x n h1 h2;simp only[getD,getP,Option.some.injEq]at h1;subst h1;exact h2
 | cons s p ih =>
  intro t f x n h1 h2
  cases t<;>cases s<;>simp only[getD,getP,List.cons_append]at h1 ⊢
  all_goals (try (cases h1;done))
  ·rename_i t i
   cases hx:(show List t.den from x)[i]? with
   | none=>rw[hx]at h1;cases h1
   | some x0=>rw[hx]at h1;simp only[Option.bind_some]at h1 ⊢;exact ih h1 h2
  ·exact ih h1 h2
  ·exact ih h1 h2
  ·exact ih h1 h2
theorem RefOk.keep {w w':World}{N:Nat→Prop}{st:St}{a:Act}{s:Nat}{p:List Stp}{k:RK}{v:Value}{F:List Nat}(h:RefOk w st a s p k v) (hs:SlotOk w N st a F (Act.at_ a s) (st.get s))
  (hN:∀b,N b→w'.heap[b]? = w.heap[b]?) (hF:∀b∈F,w'.heap[b]? = w.heap[b]?):RefOk w' st a s p k v:=by
 obtain⟨h0,h|⟨t,f,x,cs,t',cs',l',h1,h5,h2,h3,h4⟩⟩:=h
 ·exact⟨h0,.inl h⟩
 ·refine⟨h0,.inr ⟨t,f,x,cs,t',cs',l',h1,h5,h2, ?_,h4⟩⟩
  rw[h1]at hs
  obtain⟨n,hn⟩:=Option.isSome_iff_exists.1 h5.2
  rcases hs with⟨cs0,g1,g2⟩|⟨u,_,_,g1,_⟩
  ·obtain rfl:=Holds.uniq h5.1 g1 h2
   exact At.keep hN g2 hF hn h3
  ·subst g1;exact h2.elim
theorem vh {d:Nat}{v:V}(h:v.isOwner=true):V.drop d v=v:=by
 cases v<;>simp_all [V.isOwner,V.drop]
theorem Inv.grown {pz:Prop}{c:Ctx}{own:Nat→List Nat}{E E':List Nat}{st:St}{a:Act}{w w':World}(h:Inv c own E st a w) (hsame:∀b,b<w.heap.size→b ∉ E→w'.heap[b]? = w.heap[b]?)
  (hsz:w.heap.size≤w'.heap.size) (h1:w'.os=w.os) (h2:w'.tape=w.tape) (h3:w'.output=w.output) (hfz:pz) (hnd:E'.Nodup) (hE':∀b∈E',w.heap.size≤b∧b<w'.heap.size):Inv c own (E'++E) st a w':=by
 have hN:∀b,NB c own E w b→NB c own (E'++E) w' b∧w'.heap[b]? = w.heap[b]? := by
  intro b hb
  refine⟨⟨by have:=hb.1;omega,hb.2.1, ?_,hb.2.2.2⟩,hsame b hb.1 hb.2.2.1⟩
  simp only[List.mem_append,not_or]
  exact⟨fun h=>by have:=(hE' b h).1;have:=hb.1;omega,hb.2.2.1⟩
 have hown:∀i,∀b∈own i,w'.heap[b]? = w.heap[b]? := fun i b hb=>hsame b (h.lt i b hb) (h.djE i b hb)
 refine⟨h.size,h.defers,fun i => ?_,h.nd, ?_,h.dj, ?_, ?_,h.bnd, ?_,fun b hb hM => ?_,by have:=h.grow;omega,h1.trans h.os,h2.trans h.tape,h3.trans h.output,trivial,h.fixed⟩
 ·have hs:=h.slot i
  cases hv:st.get i with
  | val t f x=>rw[hv]at hs;exact RepV.mono hN hs (hown i)
  | u=>rw[hv]at hs;exact hs
  | nilS=>rw[hv]at hs;exact hs
  | nilP=>rw[hv]at hs;exact hs
  | ref s _ _=>rw[hv]at hs;exact⟨hs.1,hs.2.keep (h.slot s) (fun b hb=>(hN b hb).2) (hown s)⟩
  | win _ _ _ _=>rw[hv]at hs;exact hs
 ·rw[List.nodup_append]
  exact⟨hnd,h.ndE,fun x hx y hy hxy=>by have:=(hE' x hx).1;have:=h.ltE y hy;omega⟩
 ·intro i b hb
  simp only[List.mem_append,not_or]
  exact⟨fun h'=>by have:=(hE' b h').1;have:=h.lt i b hb;omega,h.djE i b hb⟩
 ·intro b hb
  rcases List.mem_append.1 hb with hb|hb
  ·exact(hE' b hb).2
  ·have:=h.ltE b hb;omega
 ·intro b hb
  rcases List.mem_append.1 hb with hb|hb
  ·right;have:=(hE' b hb).1;have:=h.grow;omega
  ·exact h.bndE b hb
 ·have hE:b ∉ E:=fun hE=>(h.bndE b hE).elim hM fun h'=>by omega
  rw[hsame b (by have:=h.grow;omega) hE]
  exact h.frame b hb hM
theorem Inv.letgo {c:Ctx}{own:Nat→List Nat}{E E':List Nat}{st:St}{a:Act}{w:World}(h:Inv c own E st a w) (hs:E'.Sublist E):Inv c own E' st a w:=by
 have hN:∀b,NB c own E w b→NB c own E' w b∧w.heap[b]? = w.heap[b]? := fun b hb=>⟨⟨hb.1,hb.2.1,fun h=>hb.2.2.1 (hs.subset h),hb.2.2.2⟩,rfl⟩
 refine⟨h.size,h.defers,fun i => ?_,h.nd,hs.nodup h.ndE,h.dj,fun i b hb hE=>h.djE i b hb (hs.subset hE),fun b hb=>h.ltE b (hs.subset hb),h.bnd,fun b hb=>h.bndE b (hs.subset hb),h.frame,h.grow,h.os,h.tape,h.output,h.frozen,h.fixed⟩
 have hs:=h.slot i
 cases hv:st.get i with
 | val t f x=>rw[hv]at hs;exact RepV.mono hN hs fun b _=>rfl
 | u=>rw[hv]at hs;exact hs
 | nilS=>rw[hv]at hs;exact hs
 | nilP=>rw[hv]at hs;exact hs
 | ref _ _ _=>rw[hv]at hs;exact hs
 | win _ _ _ _=>rw[hv]at hs;exact hs
theorem Inv.put {c:Ctx}{own:Nat→List Nat}{E F:List Nat}{st:St}{a:Act}{w:World}{v:V}{value:Value}(d:Nat) (h:Inv c own (F++E) st a w)
  (hv:SlotOk w (NB c own (F++E) w) st a F value v) (hfx:∀u,c.fix d=some u→u=value):∃own',Inv c own' E (st.put d v) (a.put (some d) value) w∧∀b,NB c own (F++E) w b→NB c own' E w b:=by
 by_cases hd:d<st.length
 case neg =>
  have e1:st.put d v=st:=by
   unfold St.put
   rw[qe st d (by omega)]
   simp only[V.isOwner,Bool.false_eq_true,if_false]
   exact List.set_eq_of_length_le (by omega)
  have e2:a.put (some d) value=a:=by
   simp only[Act.put]
   rw[Array.setIfInBounds_eq_of_size_le (by rw[h.size];omega)]
  rw[e1,e2]
  exact⟨own,h.letgo (List.sublist_append_right _ _),fun b hb=>⟨hb.1,hb.2.1,fun hE=>hb.2.2.1 (List.mem_append_right _ hE),hb.2.2.2⟩⟩
 case pos =>
 have hd':d<a.tmps.size:=by rw[h.size];exact hd
 have hget:∀i,St.get (st.put d v) i=if i=d then(if(st.get d).isOwner then v.drop d else v) else(if(st.get d).isOwner then V.drop d (st.get i) else st.get i):=by
  intro i
  unfold St.put
  split
  ·rw[qg]
   unfold dropRefs
   rw[qy _ _ rfl]
   simp[hd]
  ·rw[qg];simp[hd]
 have hlen:(st.put d v).length=st.length:=by unfold St.put dropRefs;split<;>simp
 have hat:∀i,Act.at_ (a.put (some d) value) i=if i=d then value else Act.at_ a i:=by intro i;rw[jgo];simp[hd']
 have hN:∀b,NB c own (F++E) w b→NB c (fun i=>if i=d then F else own i) E w b∧w.heap[b]? = w.heap[b]? := by
  intro b hb
  have h3:=hb.2.2.1
  simp only[List.mem_append,not_or]at h3
  refine⟨⟨hb.1,fun i => ?_,h3.2,hb.2.2.2⟩,rfl⟩
  simp only
  split
  ·exact h3.1
  ·exact hb.2.1 i
 refine⟨fun i=>if i=d then F else own i, ?_,fun b hb=>(hN b hb).1⟩
 have hndFE:=h.ndE
 rw[List.nodup_append]at hndFE
 have hwin:∀s lo hi t v',s≠d→WinOk st a s lo hi t v'→WinOk (st.put d v) (a.put (some d) value) s lo hi t v':=by
  intro s lo hi t v' hs hr
  refine hr.congr ?_ ?_
  ·rw[hget,if_neg hs]
   split
   ·exact vh hr.owner
   ·rfl
  ·rw[hat,if_neg hs]
 have href:∀s p k value',s≠d→RefOk w st a s p k value'→RefOk w (st.put d v) (a.put (some d) value) s p k value':=by
  intro s p k value' hs hr
  refine hr.congr ?_ (by rw[hat,if_neg hs])
  rw[hget,if_neg hs]
  split
  ·exact vh hr.1
  ·rfl
 refine⟨by rw[hlen];simpa [Act.put] using h.size,h.defers,fun i => ?_,fun i => ?_,hndFE.2.1,fun i j b hb hb' => ?_,fun i b hb => ?_,fun b hb=>h.ltE b (List.mem_append_right _ hb),fun i b hb => ?_,fun b hb=>h.bndE b (List.mem_append_right _ hb),h.frame,h.grow,h.os,h.tape,h.output,h.frozen,fun i u hu => ?_⟩
 rotate_right
 ·rw[hat]
  split
  ·rename_i e;subst e;exact(hfx u hu).symm
  ·exact h.fixed i u hu
 ·rw[hget,hat]
  by_cases hi:i=d
  ·simp only[hi,if_true]
   cases v with
   | val t f x=>simp only[V.drop,ite_self];exact RepV.mono hN hv fun b _=>rfl
   | u=>simp only[V.drop,ite_self];exact hv
   | nilS=>simp only[V.drop,ite_self];exact hv
   | nilP=>simp only[V.drop,ite_self];exact hv
   | win s lo hi t =>
    simp only[SlotOk]at hv
    by_cases hs:s=d
    ·have ho:=hv.2.owner
     rw[hs]at ho
     simp only[ho,if_true,V.drop,hs,SlotOk]
     exact hv.1
    ·simp only[V.drop,hs,if_false,ite_self,SlotOk]
     exact⟨hv.1,hwin s lo hi t value hs hv.2⟩
   | ref s p k =>
    simp only[SlotOk]at hv
    by_cases hs:s=d
    ·have ho:=hv.2.1
     rw[hs]at ho
     simp only[ho,if_true,V.drop,hs,SlotOk]
     exact hv.1
    ·simp only[V.drop,hs,if_false,ite_self,SlotOk]
     exact⟨hv.1,href s p k value hs hv.2⟩
  ·simp only[hi,if_false]
   have hs:=h.slot i
   cases hvi:st.get i with
   | val t f x=>rw[hvi]at hs;simp only[V.drop,ite_self];exact RepV.mono hN hs fun b _=>rfl
   | u=>rw[hvi]at hs;simp only[V.drop,ite_self];exact hs
   | nilS=>rw[hvi]at hs;simp only[V.drop,ite_self];exact hs
   | nilP=>rw[hvi]at hs;simp only[V.drop,ite_self];exact hs
   | win s lo hi t =>
    rw[hvi]at hs
    simp only[SlotOk]at hs
    by_cases hsd:s=d
    ·have ho:=hs.2.owner
     rw[hsd]at ho
     simp only[ho,if_true,V.drop,hsd,SlotOk]
     exact hs.1
    ·simp only[V.drop,hsd,if_false,ite_self,SlotOk]
     exact⟨hs.1,hwin s lo hi t _ hsd hs.2⟩
   | ref s p k =>
    rw[hvi]at hs
    simp only[SlotOk]at hs
    by_cases hsd:s=d
    ·have ho:=hs.2.1
     rw[hsd]at ho
     simp only[ho,if_true,V.drop,hsd,SlotOk]
     exact hs.1
    ·simp only[V.drop,hsd,if_false,ite_self,SlotOk]
     exact⟨hs.1,href s p k _ hsd hs.2⟩
 ·split
  ·exact hndFE.1
  ·exact h.nd i
 ·split at hb<;>split at hb'
  ·rename_i e1 e2;rw[e1,e2]
  ·exact absurd (List.mem_append_left _ hb) (h.djE j b hb')
  ·exact absurd (List.mem_append_left _ hb') (h.djE i b hb)
  ·exact h.dj i j b hb hb'
 ·split at hb
  ·exact fun hE=>hndFE.2.2 b hb b hE rfl
  ·exact fun hE=>h.djE i b hb (List.mem_append_right _ hE)
 ·split at hb
  ·exact h.bndE b (List.mem_append_left _ hb)
  ·exact h.bnd i b hb
theorem Inv.takeSlot {c:Ctx}{own:Nat→List Nat}{E:List Nat}{st:St}{a:Act}{w:World}{s:Nat}(h:Inv c own E st a w) (ho:(st.get s).isOwner=true) :
  Inv c (fun i=>if i=s then [] else own i) (own s++E) ((dropRefs s st).set s .u) a w∧(∀i,St.get ((dropRefs s st).set s .u) i=if i=s then .u else V.drop s (st.get i))∧(∀b,NB c own E w b→NB c (fun i=>if i=s then [] else own i) (own s++E) w b):=by
 have hs:s<st.length:=by
  rcases Nat.lt_or_ge s st.length with hlt|hge
  ·exact hlt
  ·rw[qe st s hge]at ho;cases ho
 have hget:∀i,St.get ((dropRefs s st).set s .u) i=if i=s then .u else V.drop s (st.get i):=by
  intro i
  rw[qg]
  unfold dropRefs
  rw[qy _ _ rfl]
  simp[hs]
 have hN:∀b,NB c own E w b→NB c (fun i=>if i=s then [] else own i) (own s++E) w b:=by
  intro b hb
  refine⟨hb.1,fun i => ?_, ?_,hb.2.2.2⟩
  ·show b ∉ (if i=s then [] else own i)
   split
   ·simp
   ·exact hb.2.1 i
  ·simp only[List.mem_append,not_or]
   exact⟨hb.2.1 s,hb.2.2.1⟩
 refine⟨⟨by rw[h.size];simp[dropRefs],h.defers,fun i => ?_,fun i => ?_, ?_,fun i j b hb hb' => ?_,fun i b hb => ?_, ?_,fun i b hb => ?_, ?_,h.frame,h.grow,h.os,h.tape,h.output,h.frozen,h.fixed⟩,hget,hN⟩
 ·rw[hget]
  by_cases hi:i=s
  ·simp[hi,SlotOk]
  ·simp only[hi,if_false]
   have hsl:=h.slot i
   cases hvi:st.get i with
   | val t f x=>rw[hvi]at hsl;exact RepV.mono (fun b hb=>⟨hN b hb,rfl⟩) hsl fun b _=>rfl
   | u=>rw[hvi]at hsl;exact hsl
   | nilS=>rw[hvi]at hsl;exact hsl
   | nilP=>rw[hvi]at hsl;exact hsl
   | win q lo hi t =>
    rw[hvi]at hsl
    simp only[SlotOk]at hsl
    by_cases hq:q=s
    ·simp only[V.drop,hq,if_true,SlotOk];exact hsl.1
    ·simp only[V.drop,hq,if_false,SlotOk]
     exact⟨hsl.1,hsl.2.congr (by rw[hget,if_neg hq];exact vh hsl.2.owner) rfl⟩
   | ref q p k =>
    rw[hvi]at hsl
    simp only[SlotOk]at hsl
    by_cases hq:q=s
    ·simp only[V.drop,hq,if_true,SlotOk];exact hsl.1
    ·simp only[V.drop,hq,if_false,SlotOk]
     exact⟨hsl.1,hsl.2.congr (by rw[hget,if_neg hq];exact vh hsl.2.1) rfl⟩
 ·split
  ·simp
  ·exact h.nd i
 ·rw[List.nodup_append]
  exact⟨h.nd s,h.ndE,fun x hx y hy hxy=>h.djE s x hx (hxy▸hy)⟩
 ·split at hb<;>split at hb'
  ·simp at hb
  ·simp at hb
  ·simp at hb'
  ·exact h.dj i j b hb hb'
 ·split at hb
  ·simp at hb
  ·rename_i hi
   simp only[List.mem_append,not_or]
   exact⟨fun h'=>hi (h.dj i s b hb h'),h.djE i b hb⟩
 ·intro b hb
  rcases List.mem_append.1 hb with hb|hb
  ·exact h.lt s b hb
  ·exact h.ltE b hb
 ·split at hb
  ·simp at hb
  ·exact h.bnd i b hb
 ·intro b hb
  rcases List.mem_append.1 hb with hb|hb
  ·exact h.bnd s b hb
  ·exact h.bndE b hb
end Go.Gx
