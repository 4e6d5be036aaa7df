import Derived.Test.YtnolmlelfmadkaaGxMem
set_option linter.unusedSimpArgs false
set_option linter.unusedVariables false
namespace Go.Gx
open Go
theorem Holds.cells {w:World}{N:Nat→Prop}{t:Ty}{f:Fl}{x:t.den}{v:Value}{cs F:_}(ht:∀n,t ≠ .any n) (h:Holds t v cs) (hr:Rep w N t f x cs F):v.cells.toList=cs:=by
 have key:∀{v:Value} {cs:List Value},cs=[v]→(∀v∈cs,v.oneCell'=true)→v.cells.toList=cs:=by
  intro v cs h1 h2
  subst h1
  have:=h2 v (by simp)
  cases v<;>simp_all [Value.cells,Value.oneCell']
 have h1:=hr.one
 cases t<;>simp only[Holds]at h
 case pair=>subst h;rfl
 case unit=>subst h;rfl
 case any=>exact absurd rfl (ht _)
 all_goals first|exact key h h1|exact h.elim
section
variable {P:Program} {A:Cfg} {c:Ctx} {own:Nat→List Nat} {st:St} {a:Act} {w:World} {ρ:Type}
theorem coerceTy_holds:∀{s:Ty}{f:Fl}{x:s.den}{t:Ty}{g:Fl}{k:t.den→Option ρ}{r:ρ}{v:Value}{cs:List Value},coerceTy s f x t g k=some r→Holds s v cs→Holds t v cs:=by
 have base:∀{s:Ty} {f:Fl} {x:s.den} {t:Ty} {g:Fl} {k:t.den→Option ρ} {r:ρ} {v:Value} {cs:List Value},(if h:s=t then if f.le g then k (cast (congrArg Ty.den h) x) else none else none)=some r→Holds s v cs→Holds t v cs:=by
  intro s f x t g k r v cs h hh
  split at h
  ·rename_i e
   subst e
   exact hh
  ·cases h
 intro s f x t g k r v cs h hh
 cases s
 case ptr s =>
  cases t<;>cases g<;>simp only[coerceTy]at h<;>first|exact base h hh|(simp only[Holds]at hh ⊢;exact hh)
 case sl s =>
  cases t<;>cases g<;>simp only[coerceTy]at h<;>first|exact base h hh|(simp only[Holds]at hh ⊢;exact hh)
 case ns s =>
  cases t<;>cases g<;>simp only[coerceTy]at h<;>first|exact base h hh|(simp only[Holds]at hh ⊢;exact hh)
 case pair a b =>
  cases t<;>simp only[coerceTy]at h<;>first|exact base h hh|(simp only[Holds]at hh ⊢;exact hh)
 all_goals (simp only[coerceTy]at h;exact base h hh)
theorem jlx {N:Nat→Prop}{s t:Ty}{g:Fl}{x:s.den}{k:Fl→t.den→Option ρ}{r:ρ}{value:Value}{F:List Nat}(ht:∀u,t ≠ .tup u) (hnd:F.Nodup) (hr:RepV w N s g x value F) (hk:into s g x t k=some r) :
  ∃g' y cs F',k g' y=some r∧F'.Sublist F∧Holds t value cs∧∀N2:Nat→Prop,(∀b,N b→N2 b)→(∀b∈F,b ∉ F'→N2 b)→Rep w N2 t g' y cs F':=by
 unfold into at hk
 split at hk
 ·rename_i t0 k0
  rcases hr with⟨cs,hh,hrep⟩|⟨u,_,_,rfl,_⟩
  ·obtain⟨y,F',hk',hsub,hre⟩:=jao hk hrep hnd
   exact⟨.i,y,cs,F',hk',hsub,coerceTy_holds hk hh,hre⟩
  ·simp[coerceTy]at hk
 ·split at hk
  ·rename_i e
   subst e
   rcases hr with⟨cs,hh,hrep⟩|⟨u,_,_,e,_⟩
   ·exact⟨g,x,cs,F,hk,List.Sublist.refl _,hh,fun N2 h1 _=>hrep.mono (fun b hb=>⟨h1 b hb,rfl⟩) fun _ _=>rfl⟩
   ·exact absurd e (ht u)
  ·cases hk
theorem jc0 {N:Nat→Prop}{t:Ty}{f:Fl}{k:t.den→Option ρ}{r:ρ}(hk:emptyOf t k=some r):∃x,k x=some r∧Holds t (.slice none 0 0) [.slice none 0 0]∧Rep w N t f x [.slice none 0 0] []:=by
 unfold emptyOf at hk
 split at hk
 ·rename_i t
  refine⟨_,hk,rfl, ?_⟩
  simp only[Rep]
  split
  ·exact .inl ⟨trivial,trivial,trivial⟩
  ·exact⟨trivial,none,0,rfl,Nat.le_refl _,Nat.zero_le _,fun h=>absurd rfl h⟩
 ·rename_i t
  refine⟨_,hk,rfl, ?_⟩
  cases f<;>simp[Rep]
 ·cases hk
theorem jdu {N:Nat→Prop}{t:Ty}{f:Fl}{k:t.den→Option ρ}{r:ρ}(hk:noneOf t k=some r):∃x,k x=some r∧Holds t (.pointer none) [.pointer none]∧Rep w N t f x [.pointer none] []:=by
 unfold noneOf at hk
 split at hk
 ·rename_i t
  exact⟨_,hk,rfl,by cases f<;>simp[Rep]⟩
 ·cases hk
theorem VOk.nilS {N:Nat→Prop}{value:Value}(h:VOk w N st a .nilS value):value = .slice none 0 0:=by
 rcases h with h|h
 ·cases h
 ·exact h.2
theorem VOk.nilP {N:Nat→Prop}{value:Value}(h:VOk w N st a .nilP value):value = .pointer none:=by
 rcases h with h|h
 ·cases h
 ·exact h.2
theorem Fl.le_i (f:Fl):f.le .i=true:=by cases f<;>rfl
theorem jge:∀{s:Ty}{f f':Fl}{x:s.den}{t:Ty}{k:t.den→Option ρ},coerceTy s f x t .i k=coerceTy s f' x t .i k:=by
 intro s
 induction s with
 | ptr s _=>intro f f' x t k;cases t<;>simp[coerceTy,Fl.le_i]
 | sl s _=>intro f f' x t k;cases t<;>simp[coerceTy,Fl.le_i]
 | ns s _=>intro f f' x t k;cases t<;>simp[coerceTy,Fl.le_i]
 | pair a b iha ihb =>
  intro f f' x t k
  cases t<;>simp only[coerceTy,Fl.le_i]
  rename_i c d
  show coerceTy a f.l x.1 c .i _=coerceTy a f'.l x.1 c .i _
  rw[iha (f:=f.l) (f':=f'.l)]
  congr 1
  funext y
  exact ihb
 | _=>intro f f' x t k;simp[coerceTy,Fl.le_i]
theorem ja1 {E:List Nat}(h:Inv c own E st a w){v:V}{value:Value}{t:Ty}{k:t.den→Option ρ}{r:ρ}(hv:VOk w (NB c own E w) st a v value) (hk:fetchAs st v t k=some r) :
  ∃x cs,k x=some r∧∀N2:Nat→Prop,(∀b,NB c own E w b→N2 b)→(∀s,v.names s→∀b∈own s,N2 b)→(Holds t value cs∧Rep w N2 t .i x cs []):=by
 unfold fetchAs at hk
 split at hk
 ·obtain⟨x,hk,hh,hr⟩:=jc0 (w:=w) (N:=fun _=>False) (f := .i) hk
  rw[hv.nilS]
  exact⟨x,_,hk,fun N2 _ _=>⟨hh,hr.mono (fun _ hb=>hb.elim) fun _ _=>rfl⟩⟩
 ·obtain⟨x,hk,hh,hr⟩:=jdu (w:=w) (N:=fun _=>False) (f := .i) hk
  rw[hv.nilP]
  exact⟨x,_,hk,fun N2 _ _=>⟨hh,hr.mono (fun _ hb=>hb.elim) fun _ _=>rfl⟩⟩
 ·obtain⟨s,f,x,hk,hf⟩:=jb0 h hv hk
  rcases hf with⟨u,rfl⟩|⟨cs,F0,hh,hr,hF⟩
  ·simp[Ty.isTup]at hk
  ·split at hk
   ·cases hk
   rw[jge (f' := .i)]at hk
   have hp:∀N2:Nat→Prop,(∀b,NB c own E w b→N2 b)→(∀s,v.names s→∀b∈own s,N2 b)→Rep w N2 s .i x cs []:=by
    intro N2 h1 h2
    refine hr.toPlain h1 fun b hb => ?_
    rcases hF with rfl|⟨s',hs',hF⟩
    ·cases hb
    ·exact h2 s' hs' b (hF b hb)
   obtain⟨y,F',hk',hsub,hre⟩:=jao hk (hp (fun b=>NB c own E w b∨∃s,v.names s∧b∈own s) (fun _ h => .inl h) fun s hs b hb => .inr ⟨s,hs,hb⟩) (by simp)
   obtain rfl:F'=[]:=List.sublist_nil.1 hsub
   refine⟨y,cs,hk',fun N2 h1 h2=>⟨coerceTy_holds hk hh,hre N2 (fun b hb => ?_) (by simp)⟩⟩
   rcases hb with hb|⟨s',hs',hb⟩
   ·exact h1 b hb
   ·exact h2 s' hs' b hb
theorem Rep.flat {N:Nat→Prop}:∀{t:Ty}{f:Fl}{x:t.den}{cs:List Value}{F:List Nat},t.flat=true→Rep w N t f x cs F→∀(w':World) (N':Nat→Prop) (g:Fl),Rep w' N' t g x cs []
 | .int _,_,_,_,_,_,h,_,_,_=>⟨h.1,rfl⟩
 | .bool,_,_,_,_,_,h,_,_,_=>⟨h.1,rfl⟩
 | .str,_,_,_,_,_,h,_,_,_=>⟨h.1,rfl⟩
 | .unit,_,_,_,_,_,h,_,_,_=>⟨h.1,rfl⟩
 | .any _,_,_,_,_,hf,_,_,_,_=>by simp[Ty.flat]at hf
 | .sl _,_,_,_,_,hf,_,_,_,_=>by simp[Ty.flat]at hf
 | .ptr _,_,_,_,_,hf,_,_,_,_=>by simp[Ty.flat]at hf
 | .opt _,_,_,_,_,hf,_,_,_,_=>by simp[Ty.flat]at hf
 | .ns _,_,_,_,_,hf,_,_,_,_=>by simp[Ty.flat]at hf
 | .map _ _,_,_,_,_,hf,_,_,_,_=>by simp[Ty.flat]at hf
 | .tup _,_,_,_,_,hf,_,_,_,_=>by simp[Ty.flat]at hf
 | .clo _ _ _,_,_,_,_,hf,_,_,_,_=>by simp[Ty.flat]at hf
 | .pair a b,f,x,cs,F,hf,h,w',N',g=>by
  simp only[Ty.flat,Bool.and_eq_true]at hf
  simp only[Rep]at h ⊢
  obtain⟨F1,F2,_,hl,h1,h2⟩:=h
  exact⟨[],[],rfl,hl,Rep.flat hf.1 h1 w' N' _,Rep.flat hf.2 h2 w' N' _⟩
theorem jaf {E:List Nat}(h:Inv c own E st a w){v:V}{value:Value}{t:Ty}{f:Fl}{k:St→Fl→t.den→Option ρ}{r:ρ}(ht:∀u,t ≠ .tup u) (hv:VOk w (NB c own E w) st a v value)
  (hk:consumeAs st v t f k=some r) :
  ∃own' F st' g x cs,k st' g x=some r∧Inv c own' (F++E) st' a w∧Holds t value cs∧Rep w (NB c own' (F++E) w) t g x cs F∧(∀b,NB c own E w b→NB c own' (F++E) w b):=by
 unfold consumeAs at hk
 split at hk
 ·rename_i hfl
  obtain⟨x,cs,hk,hx⟩:=ja1 h hv hk
  obtain⟨hh,hr⟩:=hx (fun b=>NB c own E w b∨∃s,v.names s∧b∈own s) (fun _ h => .inl h) fun s hs b hb => .inr ⟨s,hs,hb⟩
  exact⟨own,[],st,.i,x,cs,hk,by simpa using h,hh,Rep.flat hfl hr _ _ _,fun b hb=>by simpa using hb⟩
 split at hk
 ·obtain⟨x,hk,hh,hr⟩:=jc0 (w:=w) (N:=NB c own E w) (f:=f) hk
  rw[hv.nilS]
  exact⟨own,[],st,f,x,_,hk,by simpa using h,hh,by simpa using hr,fun b hb=>by simpa using hb⟩
 ·obtain⟨x,hk,hh,hr⟩:=jdu (w:=w) (N:=NB c own E w) (f := .i) hk
  rw[hv.nilP]
  exact⟨own,[],st,.i,x,_,hk,by simpa using h,hh,by simpa using hr,fun b hb=>by simpa using hb⟩
 ·obtain⟨own',F,st',s,g,x,hk,hinv,hrep,hN⟩:=jbr h hv hk
  have hnd:=hinv.ndE
  rw[List.nodup_append]at hnd
  obtain⟨g',y,cs,F',hk,hsub,hh,hre⟩:=jlx ht hnd.1 hrep hk
  have hsub2:∀b∈F'++E,b∈F++E:=fun b hb=>by
   rcases List.mem_append.1 hb with hb|hb
   ·exact List.mem_append_left _ (hsub.subset hb)
   ·exact List.mem_append_right _ hb
  have hinv2:Inv c own' (F'++E) st' a w:=hinv.letgo (List.Sublist.append hsub (List.Sublist.refl _))
  refine⟨own',F',st',g',y,cs,hk,hinv2,hh,hre _ (fun b hb=>hb.hand hsub2) fun b hb hb' => ?_,fun b hb=>(hN b hb).hand hsub2⟩
  refine⟨hinv.ltE b (List.mem_append_left _ hb),fun i hi=>hinv.djE i b hi (List.mem_append_left _ hb), ?_,fun hlt => ?_⟩
  ·simp only[List.mem_append,not_or]
   exact⟨hb',fun hE=>hnd.2.2 b hb b hE rfl⟩
  ·rcases hinv.bndE b (List.mem_append_left _ hb) with h0|h0
   ·exact c.mn b h0
   ·omega
def PartsR (w:World) (N:Nat→Prop) (t:Ty):List Fl→List t.den→List (List Value)→List Nat→Prop
 | [],[],[],F=>F=[]
 | g::gs,x::xs,cs::css,F=>∃F1 F2,F=F1++F2∧Rep w N t g x cs F1∧PartsR w N t gs xs css F2
 | _,_,_,_=>False
theorem PartsR.mono {N N':Nat→Prop}{t:Ty}(hN:∀b,N b→N' b):∀{gs:List Fl}{xs:List t.den}{css:List (List Value)}{F:List Nat},PartsR w N t gs xs css F→PartsR w N' t gs xs css F
 | [],[],[],_,h=>h
 | _::_,_::_,_::_,_,⟨F1,F2,e,h1,h2⟩=>⟨F1,F2,e,h1.mono (fun b hb=>⟨hN b hb,rfl⟩) (fun _ _=>rfl),h2.mono hN⟩
 | [],_::_,_,_,h=>h.elim
 | [],[],_::_,_,h=>h.elim
 | _::_,[],_,_,h=>h.elim
 | _::_,_::_,[],_,h=>h.elim
theorem PartsR.one {N N2:Nat→Prop}{t:Ty}{f:Fl}(hN:∀b,N b→N2 b):∀{gs:List Fl}{xs:List t.den}{css:List (List Value)}{F:List Nat},PartsR w N t gs xs css F→(∀g∈gs,g=f)→RepL (Rep w N2 t f) t.cells xs css.flatten F
 | [],[],[],_,h,_=>h
 | g::gs,_::_,cs::css,_,⟨F1,F2,e,h1,h2⟩,hg=>by
  have hl:=h1.len
  obtain rfl:=hg g (by simp)
  refine⟨F1,F2,e,by simp;omega, ?_, ?_⟩
  ·rw[List.flatten_cons,←hl,List.take_left']
   ·exact h1.mono (fun b hb=>⟨hN b hb,rfl⟩) (fun _ _=>rfl)
   ·rfl
  ·rw[List.flatten_cons,←hl,List.drop_left']
   ·rw[hl];exact PartsR.one hN h2 fun g' hg'=>hg g' (by simp[hg'])
   ·rfl
 | [],_::_,_,_,h,_=>h.elim
 | [],[],_::_,_,h,_=>h.elim
 | _::_,[],_,_,h,_=>h.elim
 | _::_,_::_,[],_,h,_=>h.elim
theorem PartsR.plain {N N2:Nat→Prop}{t:Ty}(hN:∀b,N b→N2 b):∀{gs:List Fl}{xs:List t.den}{css:List (List Value)}{F:List Nat},PartsR w N t gs xs css F→(∀b∈F,N2 b)→RepL (Rep w N2 t .i) t.cells xs css.flatten []
 | [],[],[],_,h,_=>rfl
 | g::gs,_::_,cs::css,_,⟨F1,F2,e,h1,h2⟩,hg=>by
  have hl:=h1.len
  refine⟨[],[],rfl,by simp;omega, ?_, ?_⟩
  ·rw[List.flatten_cons,←hl,List.take_left']
   ·exact h1.toPlain hN fun b hb=>hg b (by rw[e];exact List.mem_append_left _ hb)
   ·rfl
  ·rw[List.flatten_cons,←hl,List.drop_left']
   ·rw[hl];exact PartsR.plain hN h2 fun b hb=>hg b (by rw[e];exact List.mem_append_right _ hb)
   ·rfl
 | [],_::_,_,_,h,_=>h.elim
 | [],[],_::_,_,h,_=>h.elim
 | _::_,[],_,_,h,_=>h.elim
 | _::_,_::_,[],_,h,_=>h.elim
theorem PartsR.len {N:Nat→Prop}{t:Ty}:∀{gs:List Fl}{xs:List t.den}{css:List (List Value)}{F:List Nat},PartsR w N t gs xs css F→css.length=xs.length∧gs.length=xs.length∧∀cs∈css,cs.length=t.cells
 | [],[],[],_,h=>by simp
 | g::gs,_::_,cs::css,_,⟨F1,F2,e,h1,h2⟩=>by
  have hl:=h1.len
  obtain⟨h3,h4,h5⟩:=h2.len
  simp[h3,h4,hl]
  exact h5
 | [],_::_,_,_,h=>h.elim
 | [],[],_::_,_,h=>h.elim
 | _::_,[],_,_,h=>h.elim
 | _::_,_::_,[],_,h=>h.elim
def PartsV (a:Act):Nat→List (Nat×Operand)→List (List Value)→Prop
 | _,[],[]=>True
 | n,p::ps,cs::css=>p.1=n∧(a.eval p.2).cells.toList=cs∧PartsV a (n+1) ps css
 | _,_,_=>False
theorem jf4 {t:Ty}{f:Fl}(ht:∀u,t ≠ .tup u) (htn:∀n,t ≠ .any n):∀{ps:List (Nat×Operand)}{n:Nat}{own:Nat→List Nat}{E:List Nat}{st:St}{k:St→List Fl→List t.den→Option ρ}{r:ρ},
  Inv c own E st a w→partsK t f st ps n k=some r→∃own' F st' gs xs css,k st' gs xs=some r∧Inv c own' (F++E) st' a w∧PartsR w (NB c own' (F++E) w) t gs xs css F∧PartsV a n ps css∧(∀b,NB c own E w b→NB c own' (F++E) w b)
 | [],n,own,E,st,k,r,h,hk=>⟨own,[],st,[],[],[],hk,by simpa using h,rfl,trivial,fun b hb=>by simpa using hb⟩
 | (i,o)::ps,n,own,E,st,k,r,h,hk=>by
  simp only[partsK]at hk
  split at hk
  ·rename_i hi
   obtain⟨own1,F1,st1,g,x,cs,hk,hinv,hh,hr,hN⟩:=jaf h ht (jt h o) hk
   obtain⟨own2,F2,st2,gs,xs,css,hk,hinv2,hps,hpv,hN2⟩:=jf4 ht htn hinv hk
   have hnd:=hinv2.ndE
   have hsub:∀b∈F1++F2++E,b∈F2++(F1++E):=by intro b hb;simp at hb ⊢;rcases hb with hb|hb|hb<;>simp[hb]
   have hsub':∀b∈F2++(F1++E),b∈F1++F2++E:=by intro b hb;simp at hb ⊢;rcases hb with hb|hb|hb<;>simp[hb]
   refine⟨own2,F1++F2,st2,g::gs,x::xs,cs::css,hk,hinv2.hand hsub ?_,⟨F1,F2,rfl, ?_,hps.mono fun b hb=>hb.hand hsub⟩,⟨hi,hh.cells htn hr,hpv⟩,fun b hb=>(hN2 b (hN b hb)).hand hsub⟩
   ·rw[List.append_assoc]
    exact(List.perm_append_comm_assoc F2 F1 E).nodup hnd
   ·exact hr.mono (fun b hb=>⟨(hN2 b hb).hand hsub,rfl⟩) fun _ _=>rfl
  ·cases hk
theorem jbm (off:Nat):∀(vs:List Value) (k:Nat) (cells:Array Value),off+k+vs.length≤cells.size →
  ((vs.zipIdx k).foldl (fun cs (p:Value×Nat)=>cs.setIfInBounds (off+p.2) p.1) cells).toList=cells.toList.take (off+k)++vs++cells.toList.drop (off+k+vs.length)
 | [],k,cells,_=>by simp
 | v::vs,k,cells,h=>by
  simp only[List.length_cons]at h
  rw[List.zipIdx_cons,List.foldl_cons,jbm off vs (k+1) _ (by simp;omega)]
  simp only[Array.toList_setIfInBounds,List.length_cons]
  have hlt:off+k<cells.toList.length:=by simp;omega
  rw[List.take_set,List.drop_set_of_lt (by omega),←Nat.add_assoc off k 1,List.take_succ_eq_append_getElem hlt,List.set_append_right _ _ (by simp only[List.length_take];exact Nat.min_le_left _ _)]
  have e1:off+k-(List.take (off+k) cells.toList).length=0:=by simp;omega
  rw[e1]
  have e2:off+k+1+vs.length=off+k+(vs.length+1):=by omega
  rw[e2]
  simp
theorem jew {size:Nat}:∀{ps:List (Nat×Operand)}{n:Nat}{css:List (List Value)}{cells:Array Value},PartsV a n ps css→(∀cs∈css,cs.length=size)→(n+ps.length)*size≤cells.size →
  ∃cells',Instr.fill (fun i=>some (i*size,size)) cells (ps.map fun p=>(p.1,a.eval p.2))=some cells'∧cells'.toList=cells.toList.take (n*size)++css.flatten++cells.toList.drop ((n+ps.length)*size)
 | [],n,[],cells,_,_,_=>⟨cells,rfl,by simp⟩
 | p::ps,n,cs::css,cells,⟨h1,h2,h3⟩,hl,hsz=>by
  have hcs:(a.eval p.2).cells.size=size:=by rw[←Array.length_toList,h2];exact hl cs (by simp)
  have hcl:cs.length=size:=hl cs (by simp)
  have hb:n*size+size≤cells.size:=by
   have:(n+1)*size≤(n+(ps.length+1))*size:=Nat.mul_le_mul_right _ (by omega)
   rw[Nat.succ_mul]at this
   simp only[List.length_cons]at hsz
   omega
  have hz:=jbm (n*size) (a.eval p.2).cells.toList 0 cells (by rw[h2,hcl];simpa using hb)
  have hstep:((a.eval p.2).cells.zipIdx.foldl (fun cs (q:Value×Nat)=>cs.setIfInBounds (n*size+q.2) q.1) cells)=(((a.eval p.2).cells.toList.zipIdx 0).foldl (fun cs (q:Value×Nat)=>cs.setIfInBounds (n*size+q.2) q.1) cells):=by
   rw[←Array.foldl_toList]
   simp
  obtain⟨cells',e1,e2⟩:=jew (size:=size) (cells:=((a.eval p.2).cells.zipIdx.foldl (fun cs (q:Value×Nat)=>cs.setIfInBounds (n*size+q.2) q.1) cells)) h3 (fun cs' hcs'=>hl cs' (by simp[hcs'])) (by
   have:((a.eval p.2).cells.zipIdx.foldl (fun cs (q:Value×Nat)=>cs.setIfInBounds (n*size+q.2) q.1) cells).size=cells.size:=by
    rw[hstep,←Array.length_toList,hz,h2]
    simp[hcl];omega
   rw[this]
   simp only[List.length_cons]at hsz
   rw[Nat.add_assoc,Nat.add_comm 1];exact hsz)
  refine⟨cells', ?_, ?_⟩
  ·simp only[List.map_cons,Instr.fill]
   rw[if_neg (by rw[h1,hcs];simp;omega),h1]
   exact e1
  ·rw[e2,hstep,hz,h2]
   simp only[Nat.add_zero,hcl,List.flatten_cons,List.length_cons]
   have l1:(List.take (n*size) cells.toList++cs).length=(n+1)*size:=by rw[Nat.succ_mul];simp[hcl];omega
   have hd:List.drop ((n+1+ps.length)*size) (List.take (n*size) cells.toList++cs++List.drop (n*size+size) cells.toList)=List.drop ((n+(ps.length+1))*size) cells.toList:=by
    have l2:(n+1+ps.length)*size=(List.take (n*size) cells.toList++cs).length+ps.length*size:=by rw[l1,←Nat.add_mul]
    rw[l2,List.drop_append,List.drop_eq_nil_of_le (by omega),List.nil_append,List.drop_drop]
    congr 1
    simp only[Nat.add_mul,Nat.one_mul];omega
   rw[hd,←l1,List.take_left]
   simp only[List.append_assoc]
 | [],_,_::_,_,h,_,_=>h.elim
 | _::_,_,[],_,h,_,_=>h.elim
theorem qa (w:World) (o:Obj) (b:Nat) (h:b<w.heap.size):(w.alloc o).heap[b]? = w.heap[b]? := by
 show(w.heap.push o)[b]? = w.heap[b]?
 rw[Array.getElem?_push,if_neg (Nat.ne_of_lt h)]
theorem Inv.newBlock {F:List Nat}(h:Inv c own F st a w) (cells:Array Value) (e:TypeId){F':List Nat}(hs:∀b∈F',b∈F) (hnd:F'.Nodup) :
  Inv c own (w.heap.size::F') st a (w.alloc (.cells cells e))∧∀b,NB c own F' w b→NB c own (w.heap.size::F') (w.alloc (.cells cells e)) b∧(w.alloc (.cells cells e)).heap[b]? = w.heap[b]? := by
 have h1:=h.hand hs hnd
 have hg:=h1.grown (w':=w.alloc (.cells cells e)) (E':=[w.heap.size]) (fun b hb _=>qa w _ b hb) (by simp) rfl rfl rfl trivial (by simp) (by intro b hb;simp at hb;subst hb;simp)
 refine⟨hg,fun b hb=>⟨⟨by have:=hb.1;simp;omega,hb.2.1, ?_,hb.2.2.2⟩,qa w _ b hb.1⟩⟩
 simp only[List.mem_cons,not_or]
 exact⟨fun e=>by have:=hb.1;omega,hb.2.2.1⟩
theorem NB.ofHand {F F':List Nat}(h:Inv c own F st a w){b:Nat}(hb:b∈F) (hb':b ∉ F'):NB c own F' w b:=by
 refine⟨h.ltE b hb,fun i hi=>h.djE i b hi hb,hb',fun hlt => ?_⟩
 rcases h.bndE b hb with h0|h0
 ·exact c.mn b h0
 ·omega
theorem jgd (hA:CfgOk P A){o:Oper}{T:TypeId}{n:Nat}{ps:Array (Nat×Operand)}{t:Ty}{f:Fl}{k:St→Option ρ}{r:ρ}(ho:o.op = .buildSlice T n ps) (hT:A.elem T=some (t,f)) (hn:ps.toList.length=n) (hn2:n≤65536) (h:Inv c own [] st a w)
  (hk:partsK t f st ps.toList 0 (fun st' gs xs=>k (st'.putO o.dst (.val (.sl t) (.o (oneFl f gs)) xs)))=some r):OpGoal P c o k r a w:=by
 obtain⟨e,i,hu,hty,hi,hb,hpos,h64⟩:=hA.elem T t f hT
 obtain⟨i',z,d,h1,h2,h3,h4,h5,_,_,_,hna,hnt⟩:=hty
 rw[hi]at h1
 simp only[Option.some.injEq]at h1
 subst h1
 obtain⟨own',F,st',gs,xs,css,hk,hinv,hps,hpv,hN⟩:=jf4 hnt.1 hna h hk
 rw[List.append_nil]at hinv hps
 obtain⟨hl1,hl2,hl3⟩:=hps.len
 have hcl:∀{ps:List (Nat×Operand)} {n:Nat} {css:List (List Value)},PartsV a n ps css→ps.length=css.length:=by
  intro ps
  induction ps with
  | nil=>intro n css h;cases css<;>simp_all [PartsV]
  | cons p ps ih=>intro n css h;cases css<;>simp_all [PartsV];exact ih h.2.2
 have hlen:xs.length=n:=by rw[←hl1,←hcl hpv,hn]
 have hcells:∀z:Array Value,((Array.range (n*i.size)).map (z[· % z.size]!)).size=n*i.size:=by intro z;simp
 have hflat:css.flatten.length=n*t.cells:=by
  have key:∀l:List (List Value),(∀cs∈l,cs.length=t.cells)→l.flatten.length=l.length*t.cells:=by
   intro l
   induction l with
   | nil=>intro _;simp
   | cons x l ih=>intro hx;simp only[List.flatten_cons,List.length_append,List.length_cons,Nat.succ_mul];rw[ih fun cs hcs=>hx cs (by simp[hcs]),hx x (by simp)];omega
  rw[key css hl3,hl1,hlen]
 have hfill:∀z:Array Value,∃cells',Instr.fill (fun j=>some (j*i.size,i.size)) ((Array.range (n*i.size)).map (z[· % z.size]!)) (ps.map fun p=>(p.1,a.eval p.2)).toList=some cells'∧cells'.toList=css.flatten:=by
  intro z
  obtain⟨cells',e1,e2⟩:=jew (a:=a) (size:=i.size) (cells:=(Array.range (n*i.size)).map (z[· % z.size]!)) hpv (fun cs hcs=>by rw[h2];exact hl3 cs hcs) (by simp[hn])
  refine⟨cells',by rw[Array.toList_map];exact e1, ?_⟩
  rw[e2]
  simp[hn]
 have hsz:¬(n*i.size > 2 ^ 24):=by
  have:n*i.size≤65536*64:=Nat.mul_le_mul hn2 (by rw[h2];exact h64)
  omega
 have hrun:∃cells',cells'.toList=css.flatten∧(execOp a.eval o).run P w = .ok (.value (.slice (some ⟨w.heap.size,0,none⟩) n n)) (w.alloc (.cells cells' e)):=by
  have hbs:∃cells',cells'.toList=css.flatten∧(Instr.buildSlice T n (ps.map fun p=>(p.1,a.eval p.2))).run P w = .ok (.slice (some ⟨w.heap.size,0,none⟩) n n) (w.alloc (.cells cells' e)):=by
   by_cases hq:n*i.size=0
   ·obtain⟨cells',hf1,hf2⟩:=hfill #[]
    refine⟨cells',hf2, ?_⟩
    unfold Instr.buildSlice
    rw[hq]at hf1 hsz
    simp only[Sem.run_bind,run_underlying hu,Result.andThen_ok,sizeOf,typeInfo,Sem.run_pure,run_program,hi,hsz,hq,if_false,if_true,hf1]
    rfl
   ·obtain⟨cells',hf1,hf2⟩:=hfill z.cells
    refine⟨cells',hf2, ?_⟩
    unfold Instr.buildSlice
    simp only[Sem.run_bind,run_underlying hu,Result.andThen_ok,sizeOf,typeInfo,Sem.run_pure,run_program,hi,hsz,hq,if_false,zeroValue,h3,hf1]
    rfl
  obtain⟨cells',e1,e2⟩:=hbs
  refine⟨cells',e1, ?_⟩
  unfold execOp
  simp only[ho]
  simp only[Sem.run_bind,e2,Result.andThen_ok,Sem.run_pure]
 obtain⟨cells',hf2,hrun⟩:=hrun
 have fin:∀(g:Fl) (F':List Nat),(∀b∈F',b∈F)→F'.Nodup→RepL (Rep w (NB c own' F' w) t g) t.cells xs css.flatten F'→oneFl f gs=g→OpGoal P c o k r a w:=by
  intro g F' hs hnd hrl hg
  obtain⟨hi2,hN2⟩:=hinv.newBlock cells' e hs hnd
  rw[hg]at hk
  refine qq hi2 hrun ?_ hk
  refine .inl ⟨_,rfl, ?_⟩
  simp only[Rep]
  refine .inr ⟨w.heap.size,n,cells',e,F',by rw[hlen],heap_alloc_new w _, ?_,by omega,by simp only[maxLen];omega,rfl, ?_⟩
  ·rw[←Array.length_toList,hf2,hflat];exact Nat.le_refl _
  ·rw[hf2]
   exact hrl.mono fun x ds G hG hr=>hr.mono hN2 fun b hb=>qa w _ b (hinv.ltE b (hs b (hG b hb)))
 cases gs with
 | nil =>
  have hx:xs=[]:=List.eq_nil_of_length_eq_zero (by simpa using hl2.symm)
  subst hx
  have hc:css=[]:=List.eq_nil_of_length_eq_zero (by simpa using hl1)
  subst hc
  exact fin f [] (by simp) (by simp) rfl rfl
 | cons g gs =>
  by_cases hall:gs.all (·==g)=true
  ·refine fin g F (fun _ h=>h) hinv.ndE (hps.one (fun _ h=>h) fun g' hg' => ?_) (by simp[oneFl,hall])
   rcases List.mem_cons.1 hg' with rfl|hg'
   ·rfl
   ·simpa using List.all_eq_true.1 hall g' hg'
  ·exact fin .i [] (by simp) (by simp) (hps.plain (fun b hb=>hb.hand (by simp)) fun b hb=>NB.ofHand hinv hb (by simp)) (by simp[oneFl,hall])
end
end Go.Gx
