import Derived.Test.YtnolmlelfmadkaaGxMem2
set_option linter.unusedSimpArgs false
set_option linter.unusedVariables false
namespace Go.Gx
open Go
section
variable {P:Program} {A:Cfg} {c:Ctx} {own:Nat→List Nat} {st:St} {a:Act} {w:World} {ρ:Type}
def SrcOk (w:World) (size m:Nat) (x:Value) (news:List Value):Prop :=
 ∃xa cap,x = .slice xa m cap∧news.length=m*size∧(m≠0→∃ad,xa=some ad∧∀j u,news[j]? = some u→w.cell? (ad.add j)=some u)∧∀u∈news,u.oneCell'=true
def BaseOk (w:World) (size n:Nat) (v:Value) (olds:List Value):Option Nat→Prop
 | none=>v = .slice none 0 0∧n=0∧olds=[]
 | some b=>∃cap arr e,v = .slice (some ⟨b,0,none⟩) n cap∧w.heap[b]? = some (.cells arr e (0,0))∧cap*size≤arr.size∧n≤cap∧cap≤maxLen∧olds=arr.toList.take (n*size)
theorem BaseOk.len {size n:Nat}{v:Value}{olds:List Value}{ob:Option Nat}(h:BaseOk w size n v olds ob):olds.length=n*size:=by
 cases ob with
 | none=>obtain⟨_,rfl,rfl⟩:=h;simp
 | some b =>
  obtain⟨cap,arr,e,_,_,h1,h2,_,rfl⟩:=h
  have:n*size≤cap*size:=Nat.mul_le_mul_right _ h2
  rw[List.length_take,Array.length_toList];omega
theorem ja0 {T T2 ty e e2:TypeId}{i:TypeInfo}{z:Value}(ht:P.underlying T=some (.slice e)) (ht2:P.underlying T2=some (.slice e2)) (hi:P.info? e=some i) (hz:i.zero=some z) (hzs:z.cells.size=i.size)
  {v x:Value} {n m:Nat} {olds news:List Value} {ob:Option Nat} (hv:BaseOk w i.size n v olds ob) (hx:SrcOk w i.size m x news) (h63:n+m≤maxLen) (hby:(n+m)*i.bytes≤140737488355328) :
  ∃v' w' ob',(Builtin.append_ #[T,T2] ty #[v,x]).run P w = .ok v' w'∧BaseOk w' i.size (n+m) v' (olds++news) ob'∧((ob'=ob∧w'.heap.size=w.heap.size)∨(ob'=some w.heap.size∧w'.heap.size=w.heap.size+1)) ∧
   (∀b,b<w.heap.size→some b≠ob→w'.heap[b]? = w.heap[b]?)∧w'.os=w.os∧w'.tape=w.tape∧w'.output=w.output∧∀a,w'.frozen? a=w.frozen? a:=by
 obtain⟨xa,xcap,rfl,hnl,hxa,hone⟩:=hx
 have hlen:(olds++news).length=(n+m)*i.size:=by rw[List.length_append,hv.len,hnl,Nat.add_mul]
 have grown:∀old:Nat,old<n+m→BaseOk (w.drew.alloc (.cells (olds.toArray++news.toArray++Builtin.zeroCells z.cells (grownCap w (n+m) old e-(n+m))) e)) i.size (n+m) (.slice (some ⟨w.heap.size,0,none⟩) (n+m) (grownCap w (n+m) old e)) (olds++news) (some w.heap.size):=by
  intro old ho
  have hge:=grownCap_ge w (n+m) old e
  have hcm:grownCap w (n+m) old e≤maxLen:=grownCap_le_maxLen w (n+m) old e h63
  refine⟨_,_,e,rfl,heap_alloc_new w.drew _, ?_,hge,hcm, ?_⟩
  ·refine Nat.le_of_eq (Eq.symm ?_)
   simp only[Array.size_append,List.size_toArray,size_zeroCells,hzs,hv.len,hnl,←Nat.add_mul]
   congr 1
   omega
  ·simp only[Array.toList_append,List.append_assoc]
   rw[←List.append_assoc,←hlen]
   exact List.take_left.symm
 have fr:∀o:Obj,∀b,b<w.heap.size→(w.drew.alloc o).heap[b]? = w.heap[b]? := fun o b hb=>qa w.drew o b hb
 by_cases hm:m=0
 ·subst hm
  have hn:news=[]:=List.eq_nil_of_length_eq_zero (by simpa using hnl)
  subst hn
  cases ob with
  | none =>
   obtain⟨rfl,rfl,rfl⟩:=hv
   refine⟨_,w,none, ?_,⟨rfl,rfl,rfl⟩,.inl ⟨rfl,rfl⟩,fun _ _ _=>rfl,rfl,rfl,rfl,fun _=>rfl⟩
   cases xa<;>simp[Builtin.append_,run_underlying ht,run_underlying ht2,sizeOf,typeInfo,hi,Builtin.lenOf,Builtin.firstCells,loadCells,loadCellsFrom]
  | some b =>
   obtain⟨cap,arr,e',rfl,hb,hs,hnc,hcm,ho⟩:=hv
   refine⟨.slice (some ⟨b,0,none⟩) n cap,w,some b, ?_,⟨cap,arr,e',rfl,hb,hs,hnc,hcm,by simp[ho]⟩,.inl ⟨rfl,rfl⟩,fun _ _ _=>rfl,rfl,rfl,rfl,fun _=>rfl⟩
   ·cases xa<;>simp[Builtin.append_,run_underlying ht,run_underlying ht2,sizeOf,typeInfo,hi,Builtin.lenOf,Builtin.firstCells,loadCells,loadCellsFrom,hnc,storeCells]
 ·obtain⟨ad,rfl,hnews⟩:=hxa hm
  cases ob with
  | none =>
   obtain⟨rfl,rfl,rfl⟩:=hv
   have hm':0<m:=by omega
   have h63':¬(9223372036854775807<(m:Int)):=by simp only[maxLen]at h63;omega
   have h48':¬(281474976710656<Builtin.nextslicecap m 0*i.bytes):=by rw[nextslicecap_zero hm'];simp only[Nat.zero_add]at hby;omega
   have hf:=run_firstCells_some (P:=P) w.drew i.size m ad m xcap news hnl (by simpa using hnews)
   have hg:=grown 0 (by omega)
   simp only[Nat.zero_add,List.nil_append]at hg ⊢
   refine⟨_,_,_, ?_,hg,.inr ⟨rfl,by simp⟩,fun b hb _=>fr _ b hb,rfl,rfl,rfl,ja2 w.drew _ _⟩
   simp[Builtin.append_,run_underlying ht,run_underlying ht2,sizeOf,typeInfo,zeroValue,hi,hz,Builtin.lenOf,hm,h63',h48',Question.forced,run_firstCells_none,hf,newRow,grownCap]
  | some b =>
   have hvl:=hv.len
   obtain⟨cap,arr,e',rfl,hb,hs,hnc,hcm,ho⟩:=hv
   by_cases hroom:n+m≤cap
   ·have hfit:n*i.size+news.length≤arr.size:=by rw[hnl,←Nat.add_mul];exact Nat.le_trans (Nat.mul_le_mul_right _ hroom) hs
    have hf:=run_firstCells_some (P:=P) w i.size m ad m xcap news hnl hnews
    have hst:=run_storeCells_at P b (n*i.size) e' news 0 arr w hb (by simpa using hfit) hone
    simp only[Nat.add_zero]at hst
    refine⟨.slice (some ⟨b,0,none⟩) (n+m) cap,w.setRow b (arr.toList.take (n*i.size)++news++arr.toList.drop (n*i.size+news.length)).toArray,some b, ?_,⟨cap,_,e',rfl,setRow_heap w b arr _ e' _ hb, ?_,hroom,hcm, ?_⟩,.inl ⟨rfl,by simp⟩,fun k hk hne=>setRow_other w b k _ (fun e=>hne (by rw[e])),rfl,rfl,rfl,jde hb _⟩
    ·simp[Builtin.append_,run_underlying ht,run_underlying ht2,sizeOf,typeInfo,hi,Builtin.lenOf,hroom,hf,Addr.add_lit,hst]
    ·simp only[List.size_toArray,List.length_append,List.length_take,List.length_drop,Array.length_toList]
     omega
    ·rw[ho,←hlen,ho]
     exact List.take_left.symm
   ·have holds:∀j u,olds[j]? = some u→w.cell? ((⟨b,0,none⟩:Addr).add j)=some u:=by
     intro j u hu
     rw[jbx hb,List.drop_zero]
     rw[ho,List.getElem?_take]at hu
     split at hu
     ·exact hu
     ·cases hu
    have hg:=grown cap (by omega)
    have hn:¬(n+m≤cap):=by omega
    have h63':¬(9223372036854775807<((n:Int)+(m:Int))):=by simp only[maxLen]at h63;omega
    have h48':¬(281474976710656<Builtin.nextslicecap (n+m) cap*i.bytes):=by have:=growslice_fits (need:=n+m) (old:=cap) (by omega) hby;omega
    have hf:=run_firstCells_some (P:=P) w.drew i.size m ad m xcap news hnl (by simpa using hnews)
    have hfo:=run_firstCells_some (P:=P) w.drew i.size n ⟨b,0,none⟩ n cap olds hvl (by simpa using holds)
    refine⟨_,_,_, ?_,hg,.inr ⟨rfl,by simp⟩,fun b hb _=>fr _ b hb,rfl,rfl,rfl,ja2 w.drew _ _⟩
    simp[Builtin.append_,run_underlying ht,run_underlying ht2,sizeOf,typeInfo,zeroValue,hi,hz,Builtin.lenOf,hn,h63',h48',Question.forced,hf,hfo,newRow,grownCap]
    congr 2
    apply Array.ext'
    simp[List.append_assoc]
theorem RepL.ext {α:Type}{f:α→List Value→List Nat→Prop}{sz:Nat}(es:List Value):∀{xs:List α}{cs:List Value}{F:List Nat},RepL f sz xs cs F→RepL f sz xs (cs++es) F
 | [],_,_,h=>h
 | x::xs,cs,F,⟨F1,F2,e,hl,hx,hr⟩=>⟨F1,F2,e,by simp;omega,by rw[List.take_append_of_le_length hl];exact hx,by rw[List.drop_append_of_le_length hl];exact RepL.ext es hr⟩
theorem RepL.cutTo {α:Type}{f:α→List Value→List Nat→Prop}{sz:Nat}:∀{xs:List α}{cs:List Value}{F:List Nat},RepL f sz xs cs F→RepL f sz xs (cs.take (xs.length*sz)) F
 | [],_,_,h=>h
 | x::xs,cs,F,h=>by
  have hlen:=h.len
  obtain⟨F1,F2,e,hl,hx,hr⟩:=h
  simp only[List.length_cons,Nat.succ_mul]at hlen ⊢
  refine⟨F1,F2,e,by simp;omega, ?_, ?_⟩
  ·rw[List.take_take,Nat.min_eq_left (by omega)];exact hx
  ·rw[List.drop_take]
   have:xs.length*sz+sz-sz=xs.length*sz:=by omega
   rw[this]
   exact RepL.cutTo hr
theorem RepL.app {α:Type}{f:α→List Value→List Nat→Prop}{sz:Nat}:∀{xs ys:List α}{cs ds:List Value}{F1 F2:List Nat},RepL f sz xs cs F1→cs.length=xs.length*sz→RepL f sz ys ds F2→RepL f sz (xs++ys) (cs++ds) (F1++F2)
 | [],ys,cs,ds,F1,F2,h1,hl,h=>by
  have:cs=[]:=List.eq_nil_of_length_eq_zero (by simpa using hl)
  subst this
  simp only[RepL]at h1
  subst h1
  exact h
 | x::xs,ys,cs,ds,F1,F2,⟨G1,G2,e,hc,hx,hr⟩,hl,h=>by
  simp only[List.length_cons,Nat.succ_mul]at hl
  refine⟨G1,G2++F2,by rw[e,List.append_assoc],by simp;omega, ?_, ?_⟩
  ·rw[List.take_append_of_le_length hc];exact hx
  ·rw[List.drop_append_of_le_length hc]
   exact RepL.app hr (by simp only[List.length_drop];omega) h
theorem RepL.one {N:Nat→Prop}{t:Ty}{f:Fl}:∀{xs:List t.den}{cs:List Value}{F:List Nat},RepL (Rep w N t f) t.cells xs cs F→∀v∈cs.take (xs.length*t.cells),v.oneCell'=true
 | [],cs,F,_,v,hv=>by simp at hv
 | x::xs,cs,F,⟨F1,F2,_,hl,hx,hr⟩,v,hv=>by
  simp only[List.length_cons,Nat.succ_mul]at hv
  rw[Nat.add_comm,List.take_add]at hv
  rcases List.mem_append.1 hv with hv|hv
  ·exact hx.one v hv
  ·exact RepL.one hr v hv
theorem jfj {N:Nat→Prop}{t:Ty}{f:Fl}{ys:List t.den}{value:Value}{F:List Nat}(h:Rep w N (.sl t) f ys [value] F) :
  ∃news G,SrcOk w t.cells ys.length value news∧RepL (Rep w N t f.inn) t.cells ys news G∧G.Sublist F:=by
 have go:∀{b off:Nat} {arr:Array Value} {e:TypeId} {fr:Nat×Nat} {cap:Nat} {g:Fl} {G:List Nat},w.heap[b]? = some (.cells arr e fr)→RepL (Rep w N t g) t.cells ys (arr.toList.drop off) G →
   SrcOk w t.cells ys.length (.slice (some ⟨b,off,none⟩) ys.length cap) ((arr.toList.drop off).take (ys.length*t.cells))∧RepL (Rep w N t g) t.cells ys ((arr.toList.drop off).take (ys.length*t.cells)) G:=by
  intro b off arr e fr cap g G hb hr
  have hl:=hr.len
  refine⟨⟨_,_,rfl,by rw[List.length_take];omega,fun _=>⟨_,rfl,fun j u hu => ?_⟩,hr.one⟩,hr.cutTo⟩
  rw[jbx hb]
  rw[List.getElem?_take]at hu
  split at hu
  ·exact hu
  ·cases hu
 simp only[Rep]at h
 split at h
 ·rename_i g
  rcases h with⟨rfl,h,rfl⟩|⟨b,cap,arr,e,G,h1,h2,h3,h4,h5,rfl,h7⟩
  ·simp only[List.cons.injEq,and_true]at h
   subst h
   exact⟨[],[],⟨none,0,rfl,by simp,fun h=>absurd rfl h,by simp⟩,rfl,by simp⟩
  ·simp only[List.cons.injEq,and_true]at h1
   subst h1
   obtain⟨g1,g2⟩:=go (cap:=cap) (off:=0) h2 (by simpa using h7)
   exact⟨_,G,g1,g2,List.sublist_cons_self _ _⟩
 ·rename_i hno
  have hi:f.inn = .i:=by cases f<;>simp_all [Fl.inn]
  obtain⟨rfl,ad,cap,h1,h2,h3,h4⟩:=h
  simp only[List.cons.injEq,and_true]at h1
  subst h1
  by_cases hy:ys=[]
  ·subst hy
   exact⟨[],[],⟨ad,cap,rfl,by simp,fun h=>absurd rfl h,by simp⟩,rfl,by simp⟩
  ·obtain⟨b,off,arr,e,fr,rfl,g2,g3,g4⟩:=h4 hy
   obtain⟨k1,k2⟩:=go (cap:=cap) g3 g4
   exact⟨_,[],k1,by rw[hi];exact k2,by simp⟩
theorem jau {N:Nat→Prop}{t:Ty}{g:Fl}{xs:List t.den}{v:Value}{F:List Nat}(h:Rep w N (.sl t) (.o g) xs [v] F) :
  ∃ob olds G,BaseOk w t.cells xs.length v olds ob∧RepL (Rep w N t g) t.cells xs olds G∧F=ob.toList++G:=by
 simp only[Rep]at h
 rcases h with⟨rfl,h,rfl⟩|⟨b,cap,arr,e,G,h1,h2,h3,h4,h5,rfl,h7⟩
 ·simp only[List.cons.injEq,and_true]at h
  exact⟨none,[],[],⟨h,rfl,rfl⟩,rfl,rfl⟩
 ·simp only[List.cons.injEq,and_true]at h1
  exact⟨some b,_,G,⟨cap,arr,e,h1,h2,h3,h4,h5,rfl⟩,h7.cutTo,rfl⟩
theorem jan {N:Nat→Prop}{t:Ty}{g:Fl}{xs:List t.den}{v:Value}{olds:List Value}{ob:Option Nat}{G:List Nat}(h:BaseOk w t.cells xs.length v olds ob) (hr:RepL (Rep w N t g) t.cells xs olds G):Rep w N (.sl t) (.o g) xs [v] (ob.toList++G):=by
 simp only[Rep]
 cases ob with
 | none =>
  obtain⟨rfl,h,rfl⟩:=h
  have hx:xs=[]:=List.eq_nil_of_length_eq_zero h
  subst hx
  exact .inl ⟨rfl,rfl,hr⟩
 | some b =>
  obtain⟨cap,arr,e,rfl,h2,h3,h4,h5,rfl⟩:=h
  refine .inr ⟨b,cap,arr,e,G,rfl,h2,h3,h4,h5,rfl, ?_⟩
  have:=hr.ext (arr.toList.drop (xs.length*t.cells))
  rwa [List.take_append_drop]at this
theorem jaz (hA:CfgOk P A){o:Oper}{cc:Call}{s x:Operand}{T T2:TypeId}{t:Ty}{f g:Fl}{xs ys:List t.den}{k:St→Option ρ}{r:ρ}{E G:List Nat}{ob:Option Nat}{olds news:List Value}
  (ho:o.op = .call cc) (hc:cc.callee = .builtin .append) (hx:cc.args.toList=[s,x]) (hTs:cc.argTypes.toList=[T,T2]) (hT:A.elem T=some (t,f)) (hT2:(A.elem T2).isSome=true)
  (h:Inv c own E st a w) (hb:BaseOk w t.cells xs.length (a.eval s) olds ob) (hs:SrcOk w t.cells ys.length (a.eval x) news) (hE:∀b∈ob.toList++G,b∈E) (hnd:(ob.toList++G).Nodup)
  (hr:RepL (Rep w (NB c own (ob.toList++G) w) t g) t.cells (xs++ys) (olds++news) G) (hlim:xs.length+ys.length≤4294967296)
  (hk:k (st.putO o.dst (.val (.sl t) (.o g) (xs++ys)))=some r):OpGoal P c o k r a w:=by
 obtain⟨e,i,hu,hty,hi,hby,hpos,h64⟩:=hA.elem T t f hT
 obtain⟨e2,hu2⟩:=jbt hA hT2
 obtain⟨i',z,d,h1,h2,h3,h4,h5,_⟩:=hty
 rw[hi]at h1
 simp only[Option.some.injEq]at h1
 subst h1
 have hzs:z.cells.size=i.size:=by rw[h4.2,h2]
 have hbytes:(xs.length+ys.length)*i.bytes≤140737488355328:=by
  have:=Nat.mul_le_mul hlim hby
  omega
 obtain⟨v',w',ob',hrun,hb',hob,hsame,e1,e2',e3,hfz⟩:=ja0 (ty:=o.type) hu hu2 hi h3 hzs (by rw[h2];exact hb) (by rw[h2];exact hs) (by simp only[maxLen];omega) hbytes
 have h0:=h.hand hE hnd
 have hsz:w.heap.size≤w'.heap.size:=by omega
 have hargs:cc.args.map a.eval = #[a.eval s,a.eval x]:=by
  apply Array.ext'
  simp[hx]
 have htys:cc.argTypes = #[T,T2]:=by
  apply Array.ext'
  simp[hTs]
 have hex:(execOp a.eval o).run P w = .ok (.value v') w':=by
  unfold execOp
  simp only[ho,hc,resolve,invoke,builtin,Sem.run_bind,Sem.run_pure,Result.andThen_ok,hargs,htys,hrun]
 have hnob:∀b∈G,some b≠ob:=by
  intro b hb e
  rw[List.nodup_append]at hnd
  exact hnd.2.2 b (by rw[←e];simp) b hb rfl
 rw[h2]at hb'
 have fin:Inv c own (ob'.toList++G) st a w'→OpGoal P c o k r a w:=by
  intro hinv
  have hNN:∀b,NB c own (ob.toList++G) w b→NB c own (ob'.toList++G) w' b∧w'.heap[b]? = w.heap[b]? := by
   intro b hb
   have h3:=hb.2.2.1
   simp only[List.mem_append,not_or]at h3
   refine⟨⟨by have:=hb.1;omega,hb.2.1, ?_,hb.2.2.2⟩,hsame b hb.1 fun e=>h3.1 (by rw[←e];simp)⟩
   simp only[List.mem_append,not_or]
   refine⟨?_,h3.2⟩
   rcases hob with⟨rfl,_⟩|⟨rfl,_⟩
   ·exact h3.1
   ·simp only[Option.toList_some,List.mem_singleton]
    have:=hb.1;omega
  refine qq hinv (v := .val (.sl t) (.o g) (xs++ys)) hex (.inl ⟨_,rfl, ?_⟩) hk
  refine jan (by rw[List.length_append];exact hb') ?_
  exact hr.mono fun y ds G' hG hr=>hr.mono hNN fun b hb=>hsame b (h0.ltE b (List.mem_append_right _ (hG b hb))) (hnob b (hG b hb))
 have hG:(ob'.toList++G).Nodup→Inv c own (ob'.toList++G) st a w'→OpGoal P c o k r a w:=fun _=>fin
 have hsame':∀b,b<w.heap.size→b ∉ ob.toList++G→w'.heap[b]? = w.heap[b]? := fun b hb hn=>hsame b hb fun e=>hn (by rw[←e];simp)
 rcases hob with⟨rfl,hs1⟩|⟨rfl,hs1⟩
 ·exact fin (by simpa using h0.grown (E':=[]) hsame' hsz e1 e2' e3 hfz (by simp) (by simp))
 ·have hg:=h0.grown (E':=[w.heap.size]) hsame' hsz e1 e2' e3 hfz (by simp) (by intro b hb;simp at hb;subst hb;omega)
  refine fin (hg.hand (fun b hb => ?_) ?_)
  ·simp at hb ⊢
   rcases hb with hb|hb<;>simp[hb]
  ·have:=hg.ndE
   rw[List.nodup_append]at this
   simp only[Option.toList_some,List.cons_append,List.nil_append,List.nodup_cons]
   refine⟨fun hm => ?_, ?_⟩
   ·have:=h0.ltE _ (List.mem_append_right _ hm);omega
   ·rw[List.nodup_append]at hnd;exact hnd.2.1
theorem RepL.flat {N:Nat→Prop}{t:Ty}{f:Fl}(hf:t.flat=true) (w':World) (N':Nat→Prop) (g:Fl):∀{xs:List t.den}{cs:List Value}{F:List Nat},RepL (Rep w N t f) t.cells xs cs F→RepL (Rep w' N' t g) t.cells xs cs []
 | [],_,_,_=>rfl
 | x::xs,cs,F,⟨F1,F2,_,hl,hx,hr⟩=>⟨[],[],rfl,hl,hx.flat hf w' N' g,RepL.flat hf w' N' g hr⟩
theorem RepL.takeS {α:Type}{f:α→List Value→List Nat→Prop}{sz:Nat}:∀{hi:Nat}{xs:List α}{cs:List Value}{F:List Nat},RepL f sz xs cs F→∃F',F'.Sublist F∧RepL f sz (xs.take hi) cs F'
 | 0,_,_,F,_=>⟨[],List.nil_sublist _,by rw[List.take_zero];rfl⟩
 | _+1,[],_,F,_=>⟨[],List.nil_sublist _,rfl⟩
 | hi+1,x::xs,cs,F,⟨F1,F2,e,hl,hx,hr⟩=>by
  obtain⟨F',s,r⟩:=RepL.takeS (hi:=hi) hr
  exact⟨F1++F',by rw[e];exact List.Sublist.append (List.Sublist.refl _) s,F1,F',rfl,hl,hx,r⟩
theorem jmc {N:Nat→Prop}{t:Ty}{g:Fl}{xs:List t.den}{v value:Value}{F:List Nat}{hi cap:Nat}{ad:Option Addr}(h:Rep w N (.sl t) (.o g) xs [v] F) (hv:v = .slice ad xs.length cap) (hhi:hi≤xs.length)
  (hval:value = .slice (if hi=0 then ad else ad.map (·.add (0*t.cells))) (hi-0) (hi-0)):∃F',F'.Sublist F∧Rep w N (.sl t) (.o g) (xs.take hi) [value] F':=by
 simp only[Rep]at h ⊢
 rcases h with⟨rfl,h1,rfl⟩|⟨b,cap',arr,e,G,h1,h2,h3,h4,h5,rfl,h7⟩
 ·have h0:hi=0:=by simpa using hhi
  subst h0
  simp only[List.cons.injEq,and_true]at h1
  rw[h1]at hv
  simp only[Value.slice.injEq]at hv
  obtain⟨rfl,_,rfl⟩:=hv
  exact⟨[],List.Sublist.refl _,.inl ⟨rfl,by rw[hval];rfl,rfl⟩⟩
 ·simp only[List.cons.injEq,and_true]at h1
  rw[h1]at hv
  simp only[Value.slice.injEq,true_and]at hv
  obtain⟨rfl,rfl⟩:=hv
  obtain⟨G',s,r⟩:=RepL.takeS (hi:=hi) h7
  have hm:hi*t.cells≤cap'*t.cells:=Nat.mul_le_mul_right _ (by omega)
  refine⟨b::G',s.cons_cons b,.inr ⟨b,hi,arr,e,G', ?_,h2,by omega,by rw[List.length_take];omega,by omega,rfl,r⟩⟩
  rw[hval,List.length_take,Nat.min_eq_left hhi,Nat.sub_zero]
  split
  ·rfl
  ·simp[Addr.add]
theorem jhj {N:Nat→Prop}{t:Ty}{g:Fl}{xs:List t.den}{v value:Value}{F:List Nat}{hi cap:Nat}{ad:Option Addr}(h:Rep w N (.sl t) (.o g) xs [v] F) (hv:v = .slice ad xs.length cap) (hhi:hi≤xs.length)
  (hval:value = .slice (if cap=0 then ad else ad.map (·.add (0*t.cells))) (hi-0) (cap-0)):∃F',F'.Sublist F∧Rep w N (.sl t) (.o g) (xs.take hi) [value] F':=by
 simp only[Rep]at h ⊢
 rcases h with⟨rfl,h1,rfl⟩|⟨b,cap',arr,e,G,h1,h2,h3,h4,h5,rfl,h7⟩
 ·have h0:hi=0:=by simpa using hhi
  subst h0
  simp only[List.cons.injEq,and_true]at h1
  rw[h1]at hv
  simp only[Value.slice.injEq]at hv
  obtain⟨rfl,_,rfl⟩:=hv
  exact⟨[],List.Sublist.refl _,.inl ⟨rfl,by rw[hval];rfl,rfl⟩⟩
 ·simp only[List.cons.injEq,and_true]at h1
  rw[h1]at hv
  simp only[Value.slice.injEq,true_and]at hv
  obtain⟨rfl,rfl⟩:=hv
  obtain⟨G',s,r⟩:=RepL.takeS (hi:=hi) h7
  refine⟨b::G',s.cons_cons b,.inr ⟨b,cap',arr,e,G', ?_,h2,h3,by rw[List.length_take];omega,h5,rfl,r⟩⟩
  rw[hval,List.length_take,Nat.min_eq_left hhi,Nat.sub_zero]
  split
  ·rfl
  ·simp[Addr.add]
theorem RepL.plainNil {N:Nat→Prop}{t:Ty}:∀{xs:List t.den}{cs:List Value}{F:List Nat},RepL (Rep w N t .i) t.cells xs cs F→F=[]
 | [],_,_,h=>h
 | x::xs,cs,F,⟨F1,F2,e,_,hx,hr⟩=>by rw[e,Rep.plain hx,RepL.plainNil hr];rfl
theorem ji6 {N:Nat→Prop}{t:Ty}{g:Fl}{ys:List t.den}{v value:Value}{F:List Nat}{lo hi mx cap:Nat}{ad:Option Addr}(h:Rep w N (.sl t) (.o g) ys [v] F) (hv:v = .slice ad ys.length cap) (hlo:lo≤hi) (hhi:hi≤ys.length) (hmx:hi≤mx)
  (hg:g = .i∨t.flat=true) (hval:value = .slice (if mx=lo then ad else ad.map (·.add (lo*t.cells))) (hi-lo) (mx-lo)) :
  ∃news,SrcOk w t.cells ((ys.drop lo).take (hi-lo)).length value news∧RepL (Rep w N t .i) t.cells ((ys.drop lo).take (hi-lo)) news []:=by
 have hlen:((ys.drop lo).take (hi-lo)).length=hi-lo:=by simp;omega
 by_cases h0:hi-lo=0
 ·refine⟨[],⟨_,_,by rw[hval,hlen],by rw[hlen,h0];simp,fun q=>absurd (by rw[hlen];exact h0) q,by simp⟩, ?_⟩
  rw[h0,List.take_zero];rfl
 ·simp only[Rep]at h
  rcases h with⟨rfl,h1,rfl⟩|⟨b,cap',arr,e,G,h1,h2,h3,h4,h5,rfl,h7⟩
  ·simp at hhi;omega
  ·simp only[List.cons.injEq,and_true]at h1
   rw[h1]at hv
   simp only[Value.slice.injEq,true_and]at hv
   obtain⟨rfl,rfl⟩:=hv
   have hp:RepL (Rep w N t .i) t.cells ys arr.toList []:=by
    rcases hg with rfl|hf
    ·obtain rfl:=RepL.plainNil h7
     exact h7
    ·exact h7.flat hf _ _ _
   have hr:RepL (Rep w N t .i) t.cells ((ys.drop lo).take (hi-lo)) (arr.toList.drop (lo*t.cells)) []:=hp.drop.take
   have hl:=hr.len
   refine⟨(arr.toList.drop (lo*t.cells)).take (((ys.drop lo).take (hi-lo)).length*t.cells),⟨some ⟨b,lo*t.cells,none⟩,mx-lo, ?_,by rw[List.length_take];omega,fun _=>⟨_,rfl,fun j u hu => ?_⟩,hr.one⟩,hr.cutTo⟩
   ·rw[hval,hlen,if_neg (by omega)]
    simp only[Option.map_some,Addr.add,Value.slice.injEq,Option.some.injEq,and_true]
    split<;>simp_all
   ·rw[jbx h2]
    rw[List.getElem?_take]at hu
    split at hu
    ·exact hu
    ·cases hu
theorem jgp (h:Inv c own [] st a w){v:V}{value:Value}{t:Ty}{f:Fl}{k:St→Fl→List t.den→Option ρ}{r:ρ}(hv:VOk w (NB c own [] w) st a v value) (hk:baseK st v t f k=some r) :
  ∃own' F st' g xs,k st' g xs=some r∧Inv c own' F st' a w∧Rep w (NB c own' F w) (.sl t) (.o g) xs [value] F∧∀b,NB c own [] w b→NB c own' F w b:=by
 unfold baseK at hk
 split at hk
 ·rw[hv.nilS]
  refine⟨own,[],st,f,[],hk,h, ?_,fun _ h=>h⟩
  simp only[Rep]
  exact .inl ⟨trivial,trivial,trivial⟩
 ·obtain⟨own',F,st',t',g,x,hk,hinv,hrep,hNN⟩:=jbr h hv hk
  rw[List.append_nil]at hinv hrep
  simp only[List.append_nil]at hNN
  split at hk
  ·rename_i t1 g1 xs
   split at hk
   ·rename_i e
    subst e
    rcases hrep with⟨cs,hh,hrep⟩|⟨u,_,_,e,_⟩
    ·simp only[Holds]at hh
     subst hh
     exact⟨own',F,st',g1,xs,hk,hinv,hrep,hNN⟩
    ·cases e
   ·cases hk
  ·cases hk
 ·rename_i q hi tight
  split at hk
  ·rename_i t' g xs hq
   split at hk
   ·rename_i e
    subst e
    rcases hv with hv|hv
    ·cases hv
    obtain⟨_,t1,f1,xs1,ad,cap,e1,e2,_,e3,e4,e5⟩:=hv
    rw[hq]at e1
    cases e1
    obtain⟨hinv,hget,hN⟩:=h.takeSlot (s:=q) (by rw[hq];rfl)
    have hsl:=h.slot q
    rw[hq]at hsl
    rcases hsl with⟨cs,hh,hrep⟩|⟨u,_,_,e,_⟩
    ·simp only[Holds]at hh
     subst hh
     obtain⟨F',hs,hr⟩:∃F',F'.Sublist (own q)∧Rep w (NB c own [] w) (.sl t') (.o g) (xs.take hi) [value] F':=by
      cases tight with
      | true=>exact jmc (value:=value) hrep e2 e3 (by rw[e5];simp)
      | false=>exact jhj (value:=value) hrep e2 e3 (by rw[e5];simp)
     refine⟨_,F',_,_,_,hk,hinv.letgo (by simpa using hs), ?_, ?_⟩
     ·exact hr.mono (fun b hb=>⟨(hN b hb).hand (fun b hb=>by simpa using hs.subset hb),rfl⟩) fun _ _=>rfl
     ·exact fun b hb=>(hN b hb).hand (fun b hb=>by simpa using hs.subset hb)
    ·cases e
   ·cases hk
  ·cases hk
 ·cases hk
theorem jad {α:Type}{xs ys zs:List α}(h:appI xs ys=some zs):xs.length+ys.length≤4294967296∧zs=xs++ys:=by
 unfold appI at h
 split at h
 ·rename_i h0
  simp only[Option.some.injEq]at h
  exact⟨h0,h.symm⟩
 ·cases h
theorem RepL.split2 {α:Type}{f:α→List Value→List Nat→Prop}{sz:Nat}:∀{n:Nat}{xs:List α}{cs:List Value}{F:List Nat},RepL f sz xs cs F→∃F1 F2,F=F1++F2∧RepL f sz (xs.take n) cs F1∧RepL f sz (xs.drop n) (cs.drop (n*sz)) F2
 | 0,_,_,F,h=>⟨[],F,rfl,by rw[List.take_zero];rfl,by simpa using h⟩
 | _+1,[],_,F,h=>⟨[],[],h,rfl,rfl⟩
 | n+1,x::xs,cs,F,⟨F1,F2,e,hl,hx,hr⟩=>by
  obtain⟨G1,G2,e2,h1,h2⟩:=RepL.split2 (n:=n) hr
  refine⟨F1++G1,G2,by rw[e,e2,List.append_assoc],⟨F1,G1,rfl,hl,hx,h1⟩, ?_⟩
  rw[List.drop_drop]at h2
  rw[List.drop_succ_cons,Nat.succ_mul,Nat.add_comm]
  exact h2
theorem jj8 {N:Nat→Prop}{t:Ty}{g:Fl}{ys:List t.den}{v v1 v2:Value}{F:List Nat}{m lo hi mx1 mx2 cap:Nat}{ad:Option Addr}(h:Rep w N (.sl t) (.o g) ys [v] F) (hv:v = .slice ad ys.length cap) (hm:m≤ys.length) (hml:m≤lo) (hlo:lo≤hi) (hhi:hi≤ys.length)
  (hm1:mx1=m∨mx1=cap) (hm2:hi≤mx2)
  (hv1:v1 = .slice (if mx1=0 then ad else ad.map (·.add (0*t.cells))) (m-0) (mx1-0)) (hv2:v2 = .slice (if mx2=lo then ad else ad.map (·.add (lo*t.cells))) (hi-lo) (mx2-lo)) :
  ∃ob olds news F1 F2,BaseOk w t.cells (ys.take m).length v1 olds ob∧SrcOk w t.cells ((ys.drop lo).take (hi-lo)).length v2 news∧(ob.toList++(F1++F2)).Sublist F∧olds.length=(ys.take m).length*t.cells ∧
   RepL (Rep w N t g) t.cells (ys.take m) olds F1∧RepL (Rep w N t g) t.cells ((ys.drop lo).take (hi-lo)) news F2:=by
 have hlen:((ys.drop lo).take (hi-lo)).length=hi-lo:=by simp;omega
 simp only[Rep]at h
 rcases h with⟨rfl,h1,rfl⟩|⟨b,cap',arr,e,G,h1,h2,h3,h4,h5,rfl,h7⟩
 ·simp only[List.length_nil,Nat.le_zero_eq]at hm hhi
  subst hm
  simp only[List.cons.injEq,and_true]at h1
  rw[h1]at hv
  simp only[Value.slice.injEq]at hv
  obtain⟨rfl,_,rfl⟩:=hv
  refine⟨none,[],[],[],[],⟨?_,by simp,rfl⟩,⟨none,mx2-lo, ?_,by simp,fun q=>absurd (by simp) q,by simp⟩,by simp,by simp,by simp[RepL],by simp[RepL]⟩
  ·rw[hv1]
   have:mx1=0:=by omega
   subst this;rfl
  ·rw[hv2,hlen];simp
 ·simp only[List.cons.injEq,and_true]at h1
  rw[h1]at hv
  simp only[Value.slice.injEq,true_and]at hv
  obtain⟨rfl,rfl⟩:=hv
  obtain⟨F1,R1,e1,a1,r1⟩:=RepL.split2 (n:=m) h7
  obtain⟨S1,S2,e2,_,r2⟩:=RepL.split2 (n:=lo-m) r1
  obtain⟨F2,T2,e3,a2,_⟩:=RepL.split2 (n:=hi-lo) r2
  have ed:(ys.drop m).drop (lo-m)=ys.drop lo:=by rw[List.drop_drop];congr 1;omega
  have ec:(arr.toList.drop (m*t.cells)).drop ((lo-m)*t.cells)=arr.toList.drop (lo*t.cells):=by
   rw[List.drop_drop,←Nat.add_mul];congr 2;omega
  rw[ed,ec]at a2
  have hl:=a2.len
  refine⟨some b,arr.toList.take ((ys.take m).length*t.cells),(arr.toList.drop (lo*t.cells)).take (((ys.drop lo).take (hi-lo)).length*t.cells),F1,F2,⟨mx1,arr,e, ?_,h2, ?_,by rw[List.length_take];omega,by omega,rfl⟩,⟨(if mx2=lo then some ⟨b,0,none⟩ else some ⟨b,lo*t.cells,none⟩),mx2-lo, ?_,by rw[List.length_take];omega,fun hne=>⟨⟨b,lo*t.cells,none⟩, ?_,fun j u hu => ?_⟩,a2.one⟩, ?_, ?_,a1.cutTo,a2.cutTo⟩
  ·rw[hv1,List.length_take,Nat.min_eq_left hm,Nat.sub_zero,Nat.sub_zero]
   split
   ·rfl
   ·simp[Addr.add]
  ·refine Nat.le_trans (Nat.mul_le_mul_right _ ?_) h3
   omega
  ·rw[hv2,hlen]
   congr 1
   split
   ·rfl
   ·simp only[Option.map_some,Addr.add,Option.some.injEq]
    split<;>simp_all
  ·rw[hlen]at hne
   rw[if_neg (by omega)]
  ·rw[jbx h2]
   rw[List.getElem?_take]at hu
   split at hu
   ·exact hu
   ·cases hu
  ·have hs2:(F1++F2).Sublist (F1++(S1++(F2++T2))):=List.Sublist.append (List.Sublist.refl F1) (List.Sublist.trans (List.sublist_append_left F2 T2) (List.sublist_append_right S1 (F2++T2)))
   rw[e1,e2,e3]
   exact hs2.cons_cons b
  ·rw[List.length_take]
   have:=h7.len
   have h8:(ys.take m).length*t.cells≤ys.length*t.cells:=Nat.mul_le_mul_right _ (by rw[List.length_take];omega)
   omega
theorem jje (hA:CfgOk P A){o:Oper}{cc:Call}{s x:Operand}{T T2:TypeId}{t:Ty}{f:Fl}{k:St→Option ρ}{r:ρ}
  (ho:o.op = .call cc) (hc:cc.callee = .builtin .append) (hx:cc.args.toList=[s,x]) (hTs:cc.argTypes.toList=[T,T2]) (hT:A.elem T=some (t,f)) (hT2:(A.elem T2).isSome=true)
  (h:Inv c own [] st a w) (hk:appendK st s x t f (fun st' v=>k (st'.putO o.dst v))=some r):OpGoal P c o k r a w:=by
 unfold appendK at hk
 split at hk
 ·rename_i q lo hi ys hw
  have hxv0:=jt h x
  obtain⟨own1,F1,st1,g,xs,hk,h1,hb,hNN⟩:=jgp h (jt h s) hk
  obtain⟨ob,olds,G1,hbase,hbl,rfl⟩:=jau hb
  have hnd1:=h1.ndE
  have hnob:ob.toList.Nodup:=by cases ob<;>simp
  have hol:=hbase.len
  cases hz:appI xs ((ys.drop lo).take (hi-lo)) with
  | none=>rw[hz]at hk;cases hk
  | some zs =>
   rw[hz]at hk
   obtain⟨hlim,rfl⟩:=jad hz
   simp only[Option.bind_some]at hk
   unfold winSrc at hw
   split at hw
   ·rename_i q' lo' hi' tt hx0
    rw[hx0]at hxv0
    split at hw
    ·rename_i t' g2 ys0 hq
     split at hw
     ·rename_i e
      subst e
      split at hw
      ·rename_i hg
       simp only[Option.some.injEq,Prod.mk.injEq]at hw
       obtain⟨rfl,rfl,rfl,rfl⟩:=hw
       rcases hxv0 with hv|hv
       ·cases hv
       obtain⟨_,t1,f1,xs1,ad,cap,e1,e2,e0,e3,e4,e5⟩:=hv
       rw[hq]at e1
       cases e1
       have hsl:=h.slot q'
       rw[hq]at hsl
       rcases hsl with⟨cs,hh,hrep⟩|⟨u,_,_,e,_⟩
       ·simp only[Holds]at hh
        subst hh
        obtain⟨news,hs,hy⟩:=ji6 (mx:=if tt then hi' else cap) hrep e2 e0 e3 (by split<;>omega) (by simpa using hg) e5
        have hsub:∀b∈ob.toList++[],b∈ob.toList++G1:=by intro b hb;simp at hb;simp[hb]
        refine jaz (G:=[]) hA ho hc hx hTs hT hT2 h1 hbase hs hsub (by simpa using hnob) ?_ hlim hk
        have p1:RepL (Rep w (NB c own1 (ob.toList++[]) w) t' .i) t'.cells xs olds []:=RepL.toPlain (fun b hb=>hb.hand hsub) (fun b hb=>NB.ofHand h1 (List.mem_append_right _ hb) (by
         rw[List.nodup_append]at hnd1
         simp only[List.append_nil]
         intro hb';exact hnd1.2.2 b hb' b hb rfl)) hbl
        exact RepL.app p1 hol (hy.mono fun z ds G' hG hr=>hr.mono (fun b hb=>⟨(hNN b hb).hand hsub,rfl⟩) fun _ _=>rfl)
       ·cases e
      ·cases hw
     ·cases hw
    ·cases hw
   ·cases hw
 split at hk
 ·rename_i q m lo hi g ys hw
  have hsv:=jt h s
  have hxv:=jt h x
  unfold winMv at hw
  split at hw
  case h_2=>cases hw
  rename_i q0 m0 tg1 q2 lo0 hi0 tg2 hs0 hx0
  split at hw
  case isFalse=>cases hw
  rename_i hc0
  obtain rfl:=hc0
  split at hw
  case h_2=>cases hw
  rename_i t' g2 ys0 hq
  split at hw
  case isFalse=>cases hw
  rename_i e
  subst e
  simp only[Option.some.injEq,Prod.mk.injEq]at hw
  obtain⟨rfl,rfl,rfl,rfl,rfl,rfl⟩:=hw
  rw[hs0]at hsv
  rw[hx0]at hxv
  rcases hsv with hv|hv
  ·cases hv
  rcases hxv with hw|hw
  ·cases hw
  obtain⟨_,t1,f1,xs1,ad,cap,e1,e2,e0,e3,e4,e5⟩:=hv
  obtain⟨_,t2,f2,xs2,ad2,cap2,d1,d2,d0,d3,d4,d5⟩:=hw
  rw[hq]at e1 d1
  cases e1
  cases d1
  have hae:=e2.symm.trans d2
  simp only[Value.slice.injEq,true_and]at hae
  obtain⟨rfl,rfl⟩:=hae
  by_cases hml:m0≤lo0
  case neg=>rw[decide_eq_false hml]at hk;cases hk
  rw[decide_eq_true hml,cond_true]at hk
  cases hz:appI (ys0.take m0) ((ys0.drop lo0).take (hi0-lo0)) with
  | none=>simp only[cast_eq]at hk;rw[hz]at hk;cases hk
  | some zs =>
  simp only[cast_eq]at hk
  rw[hz]at hk
  obtain⟨hlim,rfl⟩:=jad hz
  simp only[Option.bind_some]at hk
  have hsl:=h.slot q2
  rw[hq]at hsl
  rcases hsl with⟨cs,hh,hrep⟩|⟨u,_,_,e,_⟩
  rotate_left
  ·cases e
  simp only[Holds]at hh
  subst hh
  obtain⟨ob,olds,news,F1,F2,hbase,hsrc,hsub,hol,r1,r2⟩:=jj8 (mx1:=if tg1 then m0 else cap) (mx2:=if tg2 then hi0 else cap) hrep e2 e3 hml d0 d3 (by cases tg1<;>simp) (by cases tg2<;>simp;omega) e5 d5
  obtain⟨hinv,hget,hN⟩:=h.takeSlot (s:=q2) (by rw[hq];rfl)
  have hsubE:∀b∈ob.toList++(F1++F2),b∈own q2++[]:=fun b hb=>by simpa using hsub.subset hb
  refine jaz (G:=F1++F2) hA ho hc hx hTs hT hT2 hinv hbase hsrc hsubE (hsub.nodup (h.nd q2)) ?_ hlim hk
  exact(RepL.app r1 hol r2).mono fun z ds G' hG hr=>hr.mono (fun b hb=>⟨(hN b hb).hand hsubE,rfl⟩) fun _ _=>rfl
 obtain⟨own1,F1,st1,g,xs,hk,h1,hb,_⟩:=jgp h (jt h s) hk
 obtain⟨ob,olds,G1,hbase,hbl,rfl⟩:=jau hb
 have hxv:=jt h1 x
 have hnd1:=h1.ndE
 have hnob:ob.toList.Nodup:=by cases ob<;>simp
 have hol:=hbase.len
 have plain:∀{ys:List t.den} {news:List Value},xs.length+ys.length≤4294967296→SrcOk w t.cells ys.length (a.eval x) news→RepL (Rep w (NB c own1 (ob.toList++G1) w) t .i) t.cells ys news []→k (st1.putO o.dst (.val (.sl t) (.o .i) (xs++ys)))=some r→OpGoal P c o k r a w:=by
  intro ys news hlim hs hy hk
  have hsub:∀b∈ob.toList++[],b∈ob.toList++G1:=by intro b hb;simp at hb;simp[hb]
  refine jaz (G:=[]) hA ho hc hx hTs hT hT2 h1 hbase hs hsub (by simpa using hnob) ?_ hlim hk
  have p1:RepL (Rep w (NB c own1 (ob.toList++[]) w) t .i) t.cells xs olds []:=RepL.toPlain (fun b hb=>hb.hand hsub) (fun b hb=>NB.ofHand h1 (List.mem_append_right _ hb) (by
   rw[List.nodup_append]at hnd1
   simp only[List.append_nil]
   intro hb';exact hnd1.2.2 b hb' b hb rfl)) hbl
  have p2:RepL (Rep w (NB c own1 (ob.toList++[]) w) t .i) t.cells ys news []:=hy.mono fun z ds G' hG hr=>hr.mono (fun b hb=>⟨hb.hand hsub,rfl⟩) fun _ _=>rfl
  exact RepL.app p1 hol p2
 split at hk
 ·cases hk
 ·rename_i t2 f2 ys0 hx0
  rw[hx0]at hxv
  split at hk
  ·rename_i t3 ys1 
   split at hk
   ·rename_i e
    subst e
    cases hz:appI xs ys1 with
    | none=>simp only[cast_eq]at hk;rw[hz]at hk;cases hk
    | some zs =>
     simp only[cast_eq]at hk
     rw[hz]at hk
     obtain⟨hlim,rfl⟩:=jad hz
     obtain⟨cs,hh,hrep⟩:=hxv.rep (by intro u hu;cases hu)
     simp only[Holds]at hh
     subst hh
     obtain⟨news,G,hs,hy,hG⟩:=jfj hrep.asPlain
     obtain rfl:G=[]:=List.sublist_nil.1 hG
     exact plain hlim hs hy hk
   ·cases hk
  ·cases hk
 ·split at hk
  ·rename_i hfl
   obtain⟨t2,f2,ys0,hk,hfetch⟩:=jb0 h1 hxv hk
   split at hk
   ·rename_i t3 ys1
    split at hk
    ·rename_i e
     subst e
     cases hz:appI xs ys1 with
     | none=>simp only[cast_eq]at hk;rw[hz]at hk;cases hk
     | some zs =>
      simp only[cast_eq]at hk
      rw[hz]at hk
      obtain⟨hlim,rfl⟩:=jad hz
      rcases hfetch with⟨u,hu⟩|⟨cs,F0,hh,hrep,_⟩
      ·cases hu
      ·simp only[Holds]at hh
       subst hh
       obtain⟨news,G,hs,hy,hG⟩:=jfj hrep
       exact plain hlim hs (hy.flat hfl _ _ _) hk
    ·cases hk
   ·cases hk
  ·obtain⟨own2,F2,st2,g2,ys,cs,hk,h2,hh,hrep,hN2⟩:=jaf h1 (by intro u hu;cases hu) hxv hk
   split at hk
   ·rename_i g2'
    cases hz:appI xs ys with
    | none=>rw[hz]at hk;cases hk
    | some zs =>
     rw[hz]at hk
     obtain⟨hlim,rfl⟩:=jad hz
     simp only[Holds]at hh
     subst hh
     obtain⟨news,G2,hs,hy,hG⟩:=jfj hrep
     simp only[Fl.inn]at hy
     have hnd2:=h2.ndE
     rw[List.nodup_append]at hnd2 hnd1
     simp only[Option.bind_some]at hk
     by_cases hg:g2'=g
     ·subst hg
      simp only[if_true]at hk
      have hsub:∀b∈ob.toList++(G1++G2),b∈F2++(ob.toList++G1):=by
       intro b hb
       simp only[List.mem_append]at hb ⊢
       rcases hb with hb|hb|hb
       ·exact .inr (.inl hb)
       ·exact .inr (.inr hb)
       ·exact .inl (hG.subset hb)
      refine jaz (G:=G1++G2) hA ho hc hx hTs hT hT2 h2 hbase hs hsub ?_ ?_ hlim hk
      ·rw[←List.append_assoc,List.nodup_append]
       refine⟨by rw[List.nodup_append];exact hnd1,hG.nodup hnd2.1,fun p hp q hq e => ?_⟩
       subst e
       exact hnd2.2.2 p (hG.subset hq) p hp rfl
      ·refine RepL.app ?_ hol ?_
       ·exact hbl.mono fun z ds G' hG hr=>hr.mono (fun b hb=>⟨(hN2 b hb).hand hsub,rfl⟩) fun _ _=>rfl
       ·exact hy.mono fun z ds G' hG hr=>hr.mono (fun b hb=>⟨hb.hand hsub,rfl⟩) fun _ _=>rfl
     ·rw[if_neg hg]at hk
      have hsub:∀b∈ob.toList++[],b∈F2++(ob.toList++G1):=by intro b hb;simp at hb;simp[hb]
      refine jaz (G:=[]) hA ho hc hx hTs hT hT2 h2 hbase hs hsub (by simpa using hnob) ?_ hlim hk
      refine RepL.app (F1:=[]) (F2:=[]) ?_ hol ?_
      ·exact RepL.toPlain (fun b hb=>(hN2 b hb).hand hsub) (fun b hb=>NB.ofHand h2 (by simp[hb]) (by simp only[List.append_nil];exact fun hb'=>hnd1.2.2 b hb' b hb rfl)) hbl
      ·exact RepL.toPlain (fun b hb=>hb.hand hsub) (fun b hb=>NB.ofHand h2 (List.mem_append_left _ (hG.subset hb)) (by simp only[List.append_nil];exact fun hb'=>hnd2.2.2 b (hG.subset hb) b (List.mem_append_left _ hb') rfl)) hy
   ·cases hk
end
end Go.Gx
