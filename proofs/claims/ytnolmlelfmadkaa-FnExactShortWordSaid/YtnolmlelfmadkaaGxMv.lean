import Derived.Test.YtnolmlelfmadkaaGxRow
set_option linter.unusedSimpArgs false
set_option linter.unusedVariables false
namespace Go.Gx
open Go
section
variable {P:Program} {A:Cfg} {c:Ctx} {own:Nat→List Nat} {st:St} {a:Act} {w:World} {ρ:Type}
theorem qb (a:Act) (d:Nat) (v:Value):(a.put (some d) v).tmps.size=a.tmps.size:=by simp[Act.put]
theorem jky {E:List Nat}(d:Nat) (v:Value) (h:Inv c own E st a w) (hf:c.fix d=none):∃own',Inv c own' E (st.put d .u) (a.put (some d) v) w:=by
 obtain⟨own1,h1,_⟩:=Inv.put (F:=[]) (v := .u) (value:=v) d (by simpa using h) rfl fun u' hu=>by rw[hf]at hu;cases hu
 exact⟨own1,h1⟩
theorem jfo {E:List Nat}:∀{dv:List (Nat×Value)}{own:Nat→List Nat}{st:St}{a:Act},Inv c own E st a w→(∀p∈dv,c.fix p.1=none)→∃own',Inv c own' E (forget (dv.map (·.1)) st) (dv.foldl (fun a p=>a.put (some p.1) p.2) a) w
 | [],own,st,a,h,_=>⟨own,h⟩
 | (d,v)::dv,own,st,a,h,hf=>by
  obtain⟨own1,h1⟩:=jky d v h (hf (d,v) List.mem_cons_self)
  show ∃own',Inv c own' E (forget (dv.map (·.1)) (st.put d .u)) (dv.foldl (fun a p=>a.put (some p.1) p.2) (a.put (some d) v)) w
  exact jfo (dv:=dv) h1 fun p hp=>hf p (List.mem_cons_of_mem _ hp)
theorem BaseOk.keep {w w':World}{size n:Nat}{v:Value}{olds:List Value}{ob:Option Nat}(h:BaseOk w size n v olds ob) (hk:∀b,ob=some b→w'.heap[b]? = w.heap[b]?):BaseOk w' size n v olds ob:=by
 cases ob with
 | none=>exact h
 | some b =>
  obtain⟨cap,arr,e,h1,h2,h3⟩:=h
  exact⟨cap,arr,e,h1,by rw[hk b rfl];exact h2,h3⟩
theorem BaseOk.src {w:World}{size n:Nat}{v:Value}{olds:List Value}{ob:Option Nat}(h:BaseOk w size n v olds ob) (hone:∀u∈olds,u.oneCell'=true):SrcOk w size n v olds:=by
 have hl:=h.len
 cases ob with
 | none =>
  obtain⟨h1,h2,h3⟩:=h
  subst h2
  exact⟨none,0,h1,by simpa using hl,fun q=>absurd rfl q,hone⟩
 | some b =>
  obtain⟨cap,arr,e,h1,h2,h3,h4,h5,h6⟩:=h
  refine⟨_,cap,h1,hl,fun _=>⟨_,rfl,fun j u hu => ?_⟩,hone⟩
  rw[jbx h2]
  rw[h6,List.getElem?_take]at hu
  split at hu
  ·simpa using hu
  ·cases hu
theorem jkj (hA:CfgOk P A){o:Oper}{cc:Call}{s x:Operand}{T T2:TypeId}{t:Ty}{f:Fl}{n m:Nat}{ob:Option Nat}{olds news:List Value}{K:Act→World→Prop}{Q:Exit→Act→World→Prop}
  (ho:o.op = .call cc) (hc:cc.callee = .builtin .append) (hx:cc.args.toList=[s,x]) (hTs:cc.argTypes.toList=[T,T2]) (hT:A.elem T=some (t,f)) (hT2:(A.elem T2).isSome=true)
  {vs vx:Value} (es:a.eval s=vs) (ex:a.eval x=vx) (hb:BaseOk w t.cells n vs olds ob) (hs:SrcOk w t.cells m vx news) (hlim:n+m≤4294967296)
  (hk:∀v' w' ob',BaseOk w' t.cells (n+m) v' (olds++news) ob'→((ob'=ob∧w'.heap.size=w.heap.size)∨(ob'=some w.heap.size∧w'.heap.size=w.heap.size+1))→(∀b,b<w.heap.size→some b≠ob→w'.heap[b]? = w.heap[b]?) →
   w'.os=w.os→w'.tape=w.tape→w'.output=w.output→K (a.put o.dst v') w'):o.wp P a w K Q:=by
 obtain⟨e,i,hu,hty,hi,hby,hpos,h64⟩:=hA.elem T t f hT
 obtain⟨e2,hu2⟩:=jbt hA hT2
 obtain⟨i',z,d,h1,h2,h3,h4,h5,_⟩:=hty
 rw[hi]at h1
 simp only[Option.some.injEq]at h1
 subst h1
 have hzs:z.cells.size=i.size:=by rw[h4.2,h2]
 have hbytes:(n+m)*i.bytes≤140737488355328:=by
  have:=Nat.mul_le_mul hlim hby
  omega
 obtain⟨v',w',ob',hrun,hb',hob,hsame,e1,e2',e3,hfz⟩:=ja0 (ty:=o.type) hu hu2 hi h3 hzs (by rw[h2];exact hb) (by rw[h2];exact hs) (by simp only[maxLen];omega) hbytes
 have hargs:cc.args.map a.eval = #[vs,vx]:=by
  apply Array.ext'
  simp[hx,es,ex]
 have htys:cc.argTypes = #[T,T2]:=by
  apply Array.ext'
  simp[hTs]
 refine qp (v:=v') (w':=w') ?_ (hk v' w' ob' (by rw[h2]at hb';exact hb') hob hsame e1 e2' e3)
 unfold execOp
 simp only[ho,hc,resolve,invoke,builtin,Sem.run_bind,Sem.run_pure,Result.andThen_ok,hargs,htys,hrun]
theorem jmh (hA:CfgOk P A){o:Oper}{T:TypeId}{x y:Operand}{t:Ty}{ft:Fl}{K:Act→World→Prop}{Q:Exit→Act→World→Prop}{ad:Option Addr}{n cap l:Nat}{k:IntKind}(ho:o.op = .slice T x (some y) none none) (hT:A.elem T=some (t,ft))
  (hx:a.eval x = .slice ad n cap) (hy:a.eval y = .int k (l:Int)) (hl:l≤n) (hn:n≤cap)
  (hk:K (a.put o.dst (.slice (if cap=l then ad else ad.map (·.add (l*t.cells))) (n-l) (cap-l))) w):o.wp P a w K Q:=by
 obtain⟨e,i,hu,hty,_⟩:=hA.elem T t ft hT
 refine qp ?_ hk
 unfold execOp
 simp only[ho,Instr.sliceAt,Instr.slice,Option.map_none,Option.map_some,Sem.run_bind,run_underlying hu,Result.andThen_ok,hx,hy,jci (Int.natCast_nonneg l) (Int.ofNat_le.2 hl),jai hty,Sem.run_pure,Int.toNat_natCast]
theorem jmi (hA:CfgOk P A){o:Oper}{T:TypeId}{x y z:Operand}{t:Ty}{ft:Fl}{K:Act→World→Prop}{Q:Exit→Act→World→Prop}{ad:Option Addr}{n cap l:Nat}{k k2:IntKind}(ho:o.op = .slice T x none (some y) (some z)) (hT:A.elem T=some (t,ft))
  (hx:a.eval x = .slice ad n cap) (hy:a.eval y = .int k (l:Int)) (hz:a.eval z = .int k2 (l:Int)) (hl:l≤n) (hn:n≤cap)
  (hk:K (a.put o.dst (.slice (if l=0 then ad else ad.map (·.add (0*t.cells))) (l-0) (l-0))) w):o.wp P a w K Q:=by
 obtain⟨e,i,hu,hty,_⟩:=hA.elem T t ft hT
 refine qp ?_ hk
 unfold execOp
 simp only[ho,Instr.sliceAt,Instr.slice,Option.map_none,Option.map_some,Sem.run_bind,run_underlying hu,Result.andThen_ok,hx,hy,hz,jcj (Int.natCast_nonneg l) (Int.ofNat_le.2 hl) hn,jai hty,Sem.run_pure,Int.toNat_natCast]
theorem jmg {o:Oper}{T T':TypeId}{x:Operand}{y:Int}{k:IntKind}{K:Act→World→Prop}{Q:Exit→Act→World→Prop}(ho:o.op = .binOp .add T x (.const (.int k y)) T'){n:Int}(hx:a.eval x = .int k n) (hk:K (a.put o.dst (.int k (k.wrap (n+y)))) w):o.wp P a w K Q:=by
 refine qp ?_ hk
 have e:a.eval (.const (.int k y)) = .int k y:=rfl
 unfold execOp
 simp only[ho,hx,e,Sem.run_bind,jcn,Result.andThen_ok]
 simp[binOp,Op.intArith,Sem.run,pure]
def takeAtK (d:Nat) (st:St) (k:St→Option ρ):Option ρ:=match st.get d with
 | .ref s [.idx i] .val=>match st.get s with
  | .val (.sl (.sl t)) (.o g) xs=>(xs[i]?).bind fun x=>k (St.put ((dropRefs s st).set s .u) d (.val (.sl t) g x))
  | _=>k st
 | _=>k st
theorem jjb {d:Nat}{k:St→Option ρ}{r:ρ}(h:Inv c own [] st a w) (hk:takeAtK d st k=some r):∃own' st',k st'=some r∧Inv c own' [] st' a w:=by
 unfold takeAtK at hk
 split at hk
 case h_2=>exact⟨own,st,hk,h⟩
 rename_i s i hd
 split at hk
 case h_2=>exact⟨own,st,hk,h⟩
 rename_i t g xs hs
 obtain⟨x,hx,hk⟩:=Option.bind_eq_some_iff.1 hk
 have hds:=h.slot d
 rw[hd]at hds
 obtain⟨h0,ho,hr⟩:=hds
 rcases hr with⟨e,_⟩|⟨t1,f1,x1,cs,t',cs',l',e1,_,e2,e3,e4⟩
 ·cases e
 rw[hs]at e1
 cases e1
 have hsl:=h.slot s
 rw[hs]at hsl
 rcases hsl with⟨cs1,hh,hrep⟩|⟨u,_,_,e,_⟩
 rotate_left
 ·cases e
 simp only[Holds]at hh e2
 subst hh
 subst e2
 obtain⟨b,len,cap,arr,e,q1,q2,q3⟩:=e3
 obtain⟨rfl,rfl,_⟩:=q3
 simp only[List.cons.injEq,and_true]at q1
 have hv:(arr.toList.drop (i*(Ty.sl t).cells)).take (Ty.sl t).cells=[Act.at_ a d]:=e4
 simp only[Rep]at hrep
 rcases hrep with⟨rfl,_⟩|⟨b',cap',arr',e',G,p1,p2,p3,p4,p5,p6,p7⟩
 ·simp at hx
 simp only[List.cons.injEq,and_true]at p1
 rw[q1]at p1
 simp only[Value.slice.injEq,Option.some.injEq,Addr.mk.injEq,and_true]at p1
 obtain⟨rfl,_⟩:=p1
 rw[q2]at p2
 simp only[Option.some.injEq,Obj.cells.injEq]at p2
 obtain⟨rfl,_⟩:=p2
 obtain⟨F1,F0,F2,eG,hb1,hrow,_⟩:=p7.focus hx
 rw[hv]at hrow
 have hrow:Rep w (NB c own [] w) (.sl t) g x [Act.at_ a d] F0:=by simpa only [Rep] using hrow
 obtain⟨hinv,hget,hN⟩:=h.takeSlot ho
 have hsub:∀b'∈F0++[],b'∈own s++[]:=fun b' hb'=>by
  simp only[List.append_nil]at hb' ⊢
  rw[p6,eG]
  simp[hb']
 have hnd:(F0++[]).Nodup:=by
  have:=h.nd s
  rw[p6,eG,List.nodup_cons]at this
  have:=this.2
  rw[List.nodup_append,List.nodup_append]at this
  simpa using this.1.2.1
 have h2:=hinv.hand hsub hnd
 obtain⟨own',h3,_⟩:=Inv.put (v := .val (.sl t) g x) (value:=Act.at_ a d) d h2 (.inl ⟨_,rfl,hrow.mono (fun b' hb'=>⟨(hN b' hb').hand hsub,rfl⟩) fun _ _=>rfl⟩) fun u' hu=>(h.fixed d u' hu).symm
 rw[jb3]at h3
 exact⟨own',_,hk,h3⟩
end
end Go.Gx
