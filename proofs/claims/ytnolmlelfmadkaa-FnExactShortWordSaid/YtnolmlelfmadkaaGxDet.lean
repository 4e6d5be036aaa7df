import Derived.Test.YtnolmlelfmadkaaGxStep
set_option linter.unusedSimpArgs false
set_option linter.unusedVariables false
namespace Go.Gx
open Go
section
variable {A:Cfg} {st st2:St} {ρ:Type}
theorem ul:∀{s:Ty}{ρ:Type}{f:Fl}{x:s.den}{t:Ty}{g:Fl}(k:t.den→Option ρ),coerceTy s f x t g k=(coerceTy s f x t g some).bind k:=by
  have base:∀{s:Ty} {ρ:Type} {f:Fl} {x:s.den} {t:Ty} {g:Fl} (k:t.den→Option ρ),(if h:s=t then if f.le g then k (cast (congrArg Ty.den h) x) else none else none)=((if h:s=t then if f.le g then some (cast (congrArg Ty.den h) x) else none else none):Option t.den).bind k:=by
    intro s ρ f x t g k
    split
    · split<;>rfl
    · rfl
  intro s
  induction s with
  | ptr s _ =>
    intro ρ f x t g k
    cases t<;>cases g<;>simp only[coerceTy]<;>first|exact base k|(split<;>first|rfl|(split<;>rfl))
  | sl s _ =>
    intro ρ f x t g k
    cases t<;>cases g<;>simp only[coerceTy]<;>first|exact base k|(split<;>first|rfl|(split<;>first|rfl|(cases neL x<;>rfl)))
  | ns s _ =>
    intro ρ f x t g k
    cases t<;>cases g<;>simp only[coerceTy]<;>first|exact base k|(split<;>first|rfl|(split<;>rfl))
  | pair a b iha ihb =>
    intro ρ f x t g k
    cases t<;>simp only[coerceTy]<;>first|exact base k|skip
    rename_i c d
    rw[iha,iha (fun y=>coerceTy b _ _ _ _ _)]
    rw[Option.bind_assoc]
    congr 1
    funext y
    rw[ihb,ihb (fun z=>some (y,z))]
    rw[Option.bind_assoc]
    rfl
  | _=>intro ρ f x t g k;simp only[coerceTy];exact base k
def VAgree (st st2:St):V→Prop
  | .ref s _ _=>st2.get s=st.get s
  | .win s _ _ _=>st2.get s=st.get s
  | _=>True
theorem jbl {o:Operand}(h:∀t,o = .tmp t→st2.get t=st.get t):opd st2 o=opd st o:=by
  cases o with
  | tmp t=>simp only[opd,h t rfl]
  | _=>rfl
theorem jae {v:V}(h:VAgree st st2 v):asAddr st2 v=asAddr st v:=by
  cases v with
  | ref s p c=>simp only[VAgree]at h;cases c<;>cases p<;>simp only[asAddr,h]
  | _=>rfl
theorem jgm {ρ:Type}:∀{n m:Nat}{j:Int}{b:Nat→Option ρ}{r:ρ},arrBr n m j b=some r→∃i,b i=some r∧∀{σ:Type}(b':Nat→Option σ),arrBr n m j b'=b' i
  | 0,_,_,_,_,h=>by cases h
  | n+1,m,j,b,r,h=>by
    unfold arrBr at h
    by_cases hj:j=(m:Int)
    · rw[decide_eq_true hj,cond_true]at h
      exact⟨m,h,fun b'=>by unfold arrBr;rw[decide_eq_true hj,cond_true]⟩
    · rw[decide_eq_false hj,cond_false]at h
      obtain⟨i,h1,h2⟩:=jgm h
      exact⟨i,h1,fun b'=>by unfold arrBr;rw[decide_eq_false hj,cond_false];exact h2 b'⟩
theorem jkq {tb ts:Bool}{ta:Option Ty}{op:BinOp}{x y:V}{c:V→Option ρ}{r:ρ}(h:binV tb ts ta op x y c=some r):∃v,c v=some r∧(∀s,¬v.names s)∧∀{σ:Type}(c':V→Option σ),binV tb ts ta op x y c'=c' v:=by
  have bi:∀{j:IntKind} {a b:Int},binI op j a b c=some r→∃v,c v=some r∧(∀s,¬v.names s)∧∀{σ:Type} (c':V→Option σ),binI op j a b c'=c' v:=by
    intro j a b h
    cases op<;>simp only[binI]at h<;>try cases h
    all_goals first
      | exact⟨_,h,fun s hs=>hs.elim,fun c'=>rfl⟩
      | (cases hq:quoI j a b with
         | none=>rw[hq]at h;cases h
         | some z=>rw[hq]at h;exact⟨_,h,fun s hs=>hs.elim,fun c'=>by simp only[binI,hq,Option.bind_some]⟩)
      | (cases hq:remI a b with
         | none=>rw[hq]at h;cases h
         | some z=>rw[hq]at h;exact⟨_,h,fun s hs=>hs.elim,fun c'=>by simp only[binI,hq,Option.bind_some]⟩)
  unfold binV at h
  split at h
  · rename_i j f1 a kd f2 b
    split at h
    · cases hz:shlI j a b with
      | none=>rw[hz]at h;cases h
      | some z=>rw[hz]at h;exact⟨_,h,fun s hs=>hs.elim,fun c'=>by simp only[binV,hz,Option.bind_some]⟩
    · cases hz:shrI j a b with
      | none=>rw[hz]at h;cases h
      | some z=>rw[hz]at h;exact⟨_,h,fun s hs=>hs.elim,fun c'=>by simp only[binV,hz,Option.bind_some]⟩
    · rename_i h1 h2
      split at h
      · rename_i hjk
        obtain⟨v,hv,hn,hd⟩:=bi h
        refine⟨v,hv,hn,fun c' => ?_⟩
        rw[←hd c']
        cases op<;>simp_all [binV]
      · cases h
  · split at h
    · rename_i htb
      split at h
      · exact⟨_,h,fun s hs=>hs.elim,fun c'=>by simp only[binV,htb,if_true]⟩
      · exact⟨_,h,fun s hs=>hs.elim,fun c'=>by simp only[binV,htb,if_true]⟩
      · cases h
    · cases h
  · split at h
    · exact⟨_,h,fun s hs=>hs.elim,fun c'=>by simp only[binV]⟩
    · exact⟨_,h,fun s hs=>hs.elim,fun c'=>by simp only[binV]⟩
    · rename_i _ a _ b _
      cases hz:appI a b with
      | none=>rw[hz]at h;cases h
      | some z=>rw[hz]at h;exact⟨_,h,fun s hs=>hs.elim,fun c'=>by simp only[binV,hz,Option.bind_some]⟩
    · cases h
  · split at h
    case isFalse=>cases h
    rename_i he
    split at h
    case isFalse=>cases h
    rename_i hta
    split at h
    · exact⟨_,h,fun s hs=>hs.elim,fun c'=>by simp only[binV];rw[dif_pos he,if_pos hta]⟩
    · exact⟨_,h,fun s hs=>hs.elim,fun c'=>by simp only[binV];rw[dif_pos he,if_pos hta]⟩
    · cases h
  · split at h
    · rename_i htb
      split at h
      · exact⟨_,h,fun s hs=>hs.elim,fun c'=>by simp only[binV,htb,if_true]⟩
      · exact⟨_,h,fun s hs=>hs.elim,fun c'=>by simp only[binV,htb,if_true]⟩
      · cases h
    · cases h
  · cases h
theorem jmf {op:UnOp}{x:V}{c:V→Option ρ}{r:ρ}(h:unV op x c=some r):∃v,c v=some r∧(∀s,¬v.names s)∧∀{σ:Type}(c':V→Option σ),unV op x c'=c' v:=by
  unfold unV at h
  split at h
  · split at h
    · exact⟨_,h,fun s hs=>hs.elim,fun c'=>rfl⟩
    · cases h
  · split at h
    · exact⟨_,h,fun s hs=>hs.elim,fun c'=>rfl⟩
    · cases h
  · cases h
theorem jj6 {x y z:V}{c:V→Option ρ}{r:ρ}(h:pickV x y z c=some r):∃v,c v=some r∧(∀s,¬v.names s)∧∀{σ:Type}(c':V→Option σ),pickV x y z c'=c' v:=by
  unfold pickV at h
  split at h
  · rename_i f b
    split at h
    · exact⟨_,h,fun s hs=>hs.elim,fun c'=>rfl⟩
    · rename_i hno
      cases b with
      | false=>cases h
      | true =>
        refine⟨_,h,fun s hs=>hs.elim,fun c' => ?_⟩
        simp only[pickV]
        rfl
    · rename_i hno
      cases b with
      | true=>cases h
      | false =>
        refine⟨_,h,fun s hs=>hs.elim,fun c' => ?_⟩
        simp only[pickV]
        rfl
    · cases h
  · cases h
theorem vo {α:Type}{z:Option α}{f:α→V}{c:V→Option ρ}{r:ρ}(h:(z.bind fun x=>c (f x))=some r) (hf:∀x s,¬(f x).names s):∃v,c v=some r∧(∀s,¬v.names s)∧∀{σ:Type}(c':V→Option σ),(z.bind fun x=>c' (f x))=c' v:=by
  cases z with
  | none=>cases h
  | some z=>exact⟨_,h,hf z,fun c'=>rfl⟩
theorem je9 {T:Option Ty}{x:V}{lo hi:Option V}{c:V→Option ρ}{r:ρ}(h:sliceK T x lo hi c=some r):∃v,c v=some r∧(∀s,¬v.names s)∧∀{σ:Type}(c':V→Option σ),sliceK T x lo hi c'=c' v:=by
  unfold sliceK at h
  simp only at h
  split at h
  · rename_i t f xs
    split at h
    · rename_i hT
      split at h
      · obtain⟨v,h1,hn,h2⟩:=vo h (fun _ _ hs=>hs);exact⟨v,h1,hn,fun c'=>by simp only[sliceK,hT,if_true];exact h2 c'⟩
      · obtain⟨v,h1,hn,h2⟩:=vo h (fun _ _ hs=>hs);exact⟨v,h1,hn,fun c'=>by simp only[sliceK,hT,if_true];exact h2 c'⟩
      · obtain⟨v,h1,hn,h2⟩:=vo h (fun _ _ hs=>hs);exact⟨v,h1,hn,fun c'=>by simp only[sliceK,hT,if_true];exact h2 c'⟩
      · obtain⟨v,h1,hn,h2⟩:=vo h (fun _ _ hs=>hs);exact⟨v,h1,hn,fun c'=>by simp only[sliceK,hT,if_true];exact h2 c'⟩
      · cases h
    · cases h
  · split at h
    · rename_i hT
      split at h
      · obtain⟨v,h1,hn,h2⟩:=vo h (fun _ _ hs=>hs);exact⟨v,h1,hn,fun c'=>by simp only[sliceK,hT,if_true];exact h2 c'⟩
      · obtain⟨v,h1,hn,h2⟩:=vo h (fun _ _ hs=>hs);exact⟨v,h1,hn,fun c'=>by simp only[sliceK,hT,if_true];exact h2 c'⟩
      · obtain⟨v,h1,hn,h2⟩:=vo h (fun _ _ hs=>hs);exact⟨v,h1,hn,fun c'=>by simp only[sliceK,hT,if_true];exact h2 c'⟩
      · obtain⟨v,h1,hn,h2⟩:=vo h (fun _ _ hs=>hs);exact⟨v,h1,hn,fun c'=>by simp only[sliceK,hT,if_true];exact h2 c'⟩
      · cases h
    · cases h
  · cases h
def VFrom (x v:V):Prop:=∀s,v.names s→x.names s
theorem jd1 {x:V}{t:Ty}{f:Fl}{e:t.den}:VFrom x (.val t f e):=fun s h=>h.elim
theorem jfd {T:Ty}{x i:V}{c:V→Option ρ}{r:ρ}(h:indexAddrK T st x i c=some r):∃v,c v=some r∧VFrom x v∧∀{σ:Type}(c':V→Option σ) (st2:St),VAgree st st2 x→indexAddrK T st2 x i c'=c' v:=by
  unfold indexAddrK at h
  split at h
  case h_2=>cases h
  rename_i kd f n
  split at h
  · rename_i t f2 xs
    split at h
    · rename_i hT
      obtain⟨v,h1,hn,h2⟩:=vo h (fun _ _ hs=>hs)
      refine⟨v,h1,fun s hs=>(hn s hs).elim,fun c' st2 _=>by simp only[indexAddrK,hT,if_true];exact h2 c'⟩
    · cases h
  · rename_i s p
    split at h
    case h_2=>cases h
    rename_i τ g y hs
    obtain⟨m,hm,h⟩:=qx h
    obtain⟨t,f',xs⟩:=m
    simp only at h
    split at h
    case h_2=>cases h
    rename_i t' f'' xs'
    split at h
    · rename_i hT
      cases hz:atI xs' n with
      | none=>rw[hz]at h;cases h
      | some z =>
        rw[hz]at h
        refine⟨_,h,fun s' h'=>h',fun c' st2 ha => ?_⟩
        simp only[VAgree]at ha
        simp only[indexAddrK,ha,hs]
        rw[ja9,hm]
        simp only[Option.bind_some,hT,if_true,hz]
    · cases h
  · cases h
theorem jjt {T:Ty}{x:V}{c:V→Option ρ}{r:ρ}(h:loadK T st x c=some r):∃v,c v=some r∧VFrom x v∧∀{σ:Type}(c':V→Option σ) (st2:St),VAgree st st2 x→loadK T st2 x c'=c' v:=by
  unfold loadK at h
  split at h
  · rename_i t f e
    split at h
    · rename_i hT
      exact⟨_,h,jd1,fun c' st2 _=>by simp only[loadK,hT,if_true]⟩
    · cases h
  · rename_i t f o
    split at h
    · rename_i hT
      cases o with
      | none=>cases h
      | some e=>exact⟨_,h,jd1,fun c' st2 _=>by simp only[loadK,hT,if_true];rfl⟩
    · cases h
  · rename_i h1 h2
    split at h
    case h_2=>cases h
    rename_i s p hp
    split at h
    case h_2=>cases h
    rename_i τ g y hs
    obtain⟨m,hm,h⟩:=qx h
    obtain⟨t,f',e⟩:=m
    simp only at h
    split at h
    case isFalse=>cases h
    rename_i hT
    have hx:x.names s:=by
      cases x with
      | ref s' p' k'=>cases k'<;>cases p'<;>simp only[asAddr]at hp<;>(try cases hp)<;>(try rfl)<;>(split at hp<;>cases hp;rfl)
      | _=>simp[asAddr]at hp
    refine⟨_,h, ?_,fun c' st2 ha => ?_⟩
    · intro s' hs'
      cases f'<;>simp only[V.ofNode,V.names]at hs'
      · subst hs';exact hx
      · subst hs';exact hx
    · have hs2:st2.get s=st.get s:=by
        cases x with
        | ref s' p' k'=>simp only[V.names]at hx;subst hx;exact ha
        | win s' a b t=>simp[asAddr]at hp
        | _=>exact hx.elim
      have ha2:asAddr st2 x=some (s,p):=by rw[jae ha,hp]
      unfold loadK
      split
      · exact absurd rfl (h1 _ _ _)
      · exact absurd rfl (h2 _ _ _)
      · simp only[ha2,hs2,hs]
        rw[ja9,hm]
        simp only[Option.bind_some,hT,if_true]
theorem jbj {v:V}{k:(t:Ty)→Fl→t.den→Option ρ}{r:ρ}(h:fetch st v k=some r):∃t f e,k t f e=some r∧∀{σ:Type}(k':(t:Ty)→Fl→t.den→Option σ) (st2:St),VAgree st st2 v→fetch st2 v k'=k' t f e:=by
  cases v with
  | val t f x=>exact⟨t,f,x,h,fun k' st2 _=>rfl⟩
  | ref s p c =>
    cases c with
    | addr=>simp only[fetch,reduceCtorEq]at h
    | val =>
      simp only[fetch]at h
      split at h
      case h_2=>cases h
      rename_i τ g y hs
      obtain⟨m,hm,h⟩:=qx h
      refine⟨m.1,m.2.1,m.2.2,h,fun k' st2 ha => ?_⟩
      simp only[VAgree]at ha
      simp only[fetch,ha,hs]
      rw[ja9,hm]
      rfl
  | win s lo hi t=>simp only[fetch,reduceCtorEq]at h
  | u=>simp only[fetch,reduceCtorEq]at h
  | nilS=>simp only[fetch,reduceCtorEq]at h
  | nilP=>simp only[fetch,reduceCtorEq]at h
theorem jk2 {T:Nat}{t:Ty}{e:t.den}{k:Int→Option ρ}{r:ρ}(h:lenK A T t e k=some r):∃n,k n=some r∧∀{σ:Type}(k':Int→Option σ),lenK A T t e k'=k' n:=by
  cases t<;>simp only[lenK,reduceCtorEq]at h
  · split at h
    · rename_i f hT;exact⟨_,h,fun k'=>by simp only[lenK,hT]⟩
    · cases h
  · split at h
    · rename_i hT;exact⟨_,h,fun k'=>by simp only[lenK,hT,if_true]⟩
    · cases h
theorem jap {v:V}{t:Ty}{k:t.den→Option ρ}{r:ρ}(h:fetchAs st v t k=some r):∃e,k e=some r∧∀{σ:Type}(k':t.den→Option σ) (st2:St),VAgree st st2 v→fetchAs st2 v t k'=k' e:=by
  unfold fetchAs at h
  split at h
  · unfold emptyOf at h
    split at h
    · exact⟨_,h,fun k' st2 _=>rfl⟩
    · exact⟨_,h,fun k' st2 _=>rfl⟩
    · cases h
  · unfold noneOf at h
    split at h
    · exact⟨_,h,fun k' st2 _=>rfl⟩
    · cases h
  · rename_i h1 h2
    obtain⟨s,f,e,h,hd⟩:=jbj h
    split at h
    · cases h
    rename_i htup
    rw[ul]at h
    cases hy:coerceTy s f e t .i some with
    | none=>rw[hy]at h;cases h
    | some y =>
      rw[hy]at h
      refine⟨y,h,fun k' st2 ha => ?_⟩
      unfold fetchAs
      split
      · exact absurd rfl h1
      · exact absurd rfl h2
      · rw[hd _ st2 ha,if_neg htup,ul,hy]
        rfl
theorem jb7:∀{ms:List Nat}{ty:Ty}{fs:List Fl}{vs:List V}{k:ty.den→Option ρ}{r:ρ},ms.any (· != 0)=false→argsK st ty ms fs vs k=some r →
    ∃e,k e=some r∧∀{σ:Type} (k':ty.den→Option σ) (st2:St),(∀v∈vs,VAgree st st2 v)→argsK st2 ty ms fs vs k'=k' e
  | [],ty,fs,vs,k,r,_,h=>by
    cases ty<;>cases vs<;>simp only[argsK,reduceCtorEq]at h
    exact⟨_,h,fun k' st2 _=>rfl⟩
  | m::ms,ty,fs,vs,k,r,hm,h=>by
    simp only[List.any_cons,Bool.or_eq_false_iff,bne_eq_false_iff_eq]at hm
    obtain⟨rfl,hm⟩:=hm
    cases ty<;>cases vs<;>simp only[argsK,reduceCtorEq]at h
    rename_i t b v vs
    obtain⟨e,h,hd⟩:=jap h
    obtain⟨e2,h,hd2⟩:=jb7 hm h
    refine⟨(e,e2),h,fun k' st2 ha => ?_⟩
    simp only[argsK]
    rw[hd _ st2 (ha v (by simp)),hd2 _ st2 fun v' hv'=>ha v' (by simp[hv'])]
theorem jjh {f:Nat}{vs:List V}{dst:Option Nat}{k:St→Option ρ}{r:ρ}(hc:∀S,A.sig f=some S→closed S.r S.rf=true∧S.md.any (· != 0)=false) (h:callK A f vs dst st k=some r) :
    ∃v,k (st.putO dst v)=some r∧(∀s,¬v.names s)∧∀{σ:Type} (k':St→Option σ) (st2:St),(∀v∈vs,VAgree st st2 v)→callK A f vs dst st2 k'=k' (st2.putO dst v):=by
  unfold callK at h
  split at h
  case h_2=>cases h
  rename_i S hS
  obtain⟨hcl,hmd⟩:=hc S hS
  rw[if_neg (by simp[hmd]),if_pos hcl]at h
  obtain⟨x,h,hd⟩:=jb7 hmd h
  cases hr:S.f x with
  | none=>rw[hr]at h;cases h
  | some rr =>
    rw[hr]at h
    simp only[Option.bind_some]at h
    refine⟨_,h,fun s hs=>hs.elim,fun k' st2 ha => ?_⟩
    unfold callK
    simp only[hS]
    rw[if_neg (by simp[hmd]),if_pos hcl,hd _ st2 ha,hr]
    rfl
theorem jfk:∀{vs:List V}{k:(t:Ty)→t.den→Option ρ}{r:ρ},capsK vs k=some r→∃u x,k u x=some r∧∀{σ:Type}(k':(t:Ty)→t.den→Option σ),capsK vs k'=k' u x
  | [],k,r,h=>⟨_,_,h,fun k'=>rfl⟩
  | v::vs,k,r,h=>by
    unfold capsK at h
    split at h
    · rename_i e;cases e
    · rename_i t x vs' k' e
      injection e with e1 e2
      subst e1 e2
      split at h
      case isFalse=>cases h
      rename_i h1
      obtain⟨u,y,h,hd⟩:=jfk h
      refine⟨_,_,h,fun k' => ?_⟩
      unfold capsK
      simp only[h1,if_true]
      exact hd _
    · cases h
theorem jjj {f:Nat}{vs:List V}{dst:Option Nat}{k:St→Option ρ}{r:ρ}(h:closK A f vs dst st k=some r) :
    ∃v,k (st.putO dst v)=some r∧(∀s,¬v.names s)∧∀{σ:Type} (k':St→Option σ) (st2:St),(∀v∈vs,VAgree st st2 v)→closK A f vs dst st2 k'=k' (st2.putO dst v):=by
  unfold closK at h
  split at h
  case h_2=>cases h
  rename_i S hS
  split at h
  case isTrue=>cases h
  rename_i hmd
  split at h
  case isFalse=>cases h
  rename_i hcl
  have hmd':S.md.any (· != 0)=false:=by simpa using hmd
  obtain⟨x,h,hd⟩:=jb7 hmd' h
  cases hr:S.f x with
  | none=>rw[hr]at h;cases h
  | some rr =>
    rw[hr]at h
    simp only[Option.bind_some]at h
    refine⟨_,h,fun s hs=>hs.elim,fun k' st2 ha => ?_⟩
    unfold closK
    simp only[hS]
    rw[if_neg hmd,if_pos hcl,hd _ st2 ha,hr]
    rfl
theorem jcl:∀{u:Ty}{x:u.den}{l:List V},capsV u x=some l→∀v∈l,∀s,¬v.names s
  | .unit,_,_,h,v,hv,s=>by simp only[capsV,Option.some.injEq]at h;subst h;cases hv
  | .pair a b,x,_,h,v,hv,s=>by
    simp only[capsV]at h
    split at h
    case isFalse=>cases h
    simp only[Option.map_eq_some_iff]at h
    obtain⟨l',hl',rfl⟩:=h
    rcases List.mem_cons.1 hv with rfl|hv
    · exact fun hs=>hs.elim
    · exact jcl hl' v hv s
  | .int _,_,_,h,_,_,_=>by simp[capsV]at h
  | .bool,_,_,h,_,_,_=>by simp[capsV]at h
  | .str,_,_,h,_,_,_=>by simp[capsV]at h
  | .any _,_,_,h,_,_,_=>by simp[capsV]at h
  | .sl _,_,_,h,_,_,_=>by simp[capsV]at h
  | .ptr _,_,_,h,_,_,_=>by simp[capsV]at h
  | .opt _,_,_,h,_,_,_=>by simp[capsV]at h
  | .ns _,_,_,h,_,_,_=>by simp[capsV]at h
  | .map _ _,_,_,h,_,_,_=>by simp[capsV]at h
  | .tup _,_,_,h,_,_,_=>by simp[capsV]at h
  | .clo _ _ _,_,_,h,_,_,_=>by simp[capsV]at h
theorem jep:∀{n:Nat}{t:Ty}{f:Fl}{x:t.den}{k:(t:Ty)→Fl→t.den→Option ρ}{r:ρ},fldP t f x n k=some r→∃t' f' x',k t' f' x'=some r∧∀{σ:Type}(k':(t:Ty)→Fl→t.den→Option σ),fldP t f x n k'=k' t' f' x'
  | 0,t,f,x,k,r,h=>by
    cases t<;>simp only[fldP,reduceCtorEq]at h
    exact⟨_,_,_,h,fun k'=>rfl⟩
  | n+1,t,f,x,k,r,h=>by
    cases t<;>simp only[fldP,reduceCtorEq]at h
    obtain⟨t',f',x',h1,h2⟩:=jep h
    exact⟨t',f',x',h1,fun k'=>by simp only[fldP];exact h2 k'⟩
theorem jgn {x:V}{s:Nat}{p:List Stp}(hp:asAddr st x=some (s,p)):x.names s:=by
  cases x with
  | ref s' p' k'=>cases k'<;>cases p'<;>simp only[asAddr]at hp<;>(try cases hp)<;>(try rfl)<;>(split at hp<;>cases hp;rfl)
  | _=>simp[asAddr]at hp
theorem jcu {fts:List (Ty×Fl)}{x:V}{f:Nat}{c:V→Option ρ}{r:ρ}(h:fieldAddrK fts st x f c=some r):∃v,c v=some r∧VFrom x v∧∀{σ:Type}(c':V→Option σ) (st2:St),VAgree st st2 x→fieldAddrK fts st2 x f c'=c' v:=by
  unfold fieldAddrK at h
  split at h
  · rename_i t f2 e
    split at h
    · rename_i hc
      obtain⟨t',f',x',h1,h2⟩:=jep h
      exact⟨_,h1,jd1,fun c' st2 _=>by simp only[fieldAddrK];rw[if_pos hc,h2]⟩
    · cases h
  · rename_i hno
    split at h
    case h_2=>cases h
    rename_i s p hp
    split at h
    case h_2=>cases h
    rename_i τ g y hs
    obtain⟨m,hm,h⟩:=qx h
    split at h
    case isFalse=>cases h
    rename_i hc
    have hx:=jgn hp
    refine⟨_,h,fun s' hs'=>by simp only[V.names]at hs';subst hs';exact hx,fun c' st2 ha => ?_⟩
    have hs2:st2.get s=st.get s:=by
      cases x with
      | ref s' p' k'=>simp only[V.names]at hx;subst hx;exact ha
      | win s' a b t=>simp[asAddr]at hp
      | _=>exact hx.elim
    have ha2:asAddr st2 x=some (s,p):=by rw[jae ha,hp]
    unfold fieldAddrK
    split
    · exact absurd rfl (hno _ _ _)
    · simp only[ha2,hs2,hs]
      rw[ja9,hm]
      simp only[Option.bind_some]
      rw[if_pos hc]
theorem jjk {s d:Nat}{x:V}{c:V→Option ρ}{r:ρ}(h:convK A st s d x c=some r):∃v,c v=some r∧(∀s,¬v.names s)∧∀{σ:Type}(c':V→Option σ) (st2:St),VAgree st st2 x→convK A st2 s d x c'=c' v:=by
  unfold convK at h
  split at h
  · split at h
    case h_2=>cases h
    rename_i j fd hd
    exact⟨_,h,fun s hs=>hs.elim,fun c' st2 _=>by simp only[convK,hd]⟩
  · rename_i hno
    split at h
    case h_2=>cases h
    rename_i f1 f2 hE hD
    obtain⟨t,f,e,h,hd⟩:=jbj h
    split at h
    case isFalse=>cases h
    rename_i he
    refine⟨_,h,fun s hs=>hs.elim,fun c' st2 ha => ?_⟩
    unfold convK
    split
    · exact absurd rfl (hno _ _ _)
    · simp only[hE,hD]
      rw[hd _ st2 ha,dif_pos he]
theorem jh3 {T:Nat}{x i:Operand}{ok:Bool}{c:V→Option ρ}{r:ρ}(h:lookupK A T st x i ok c=some r):∃v,c v=some r∧(∀s,¬v.names s)∧∀{σ:Type}(c':V→Option σ) (st2:St),
    opd st2 x=opd st x→opd st2 i=opd st i→VAgree st st2 (opd st x)→VAgree st st2 (opd st i)→lookupK A T st2 x i ok c'=c' v:=by
  unfold lookupK at h
  split at h
  case h_2=>cases h
  rename_i kt vt hT
  obtain⟨t,f,m,h,hd⟩:=jbj h
  split at h
  case isFalse=>cases h
  rename_i he
  obtain⟨y,h,hd2⟩:=jap h
  have key:∀{σ:Type} (c':V→Option σ) (st2:St),opd st2 x=opd st x→opd st2 i=opd st i→VAgree st st2 (opd st x)→VAgree st st2 (opd st i)→lookupK A T st2 x i ok c' =
      (fun r:Option vt.den=>if ok then c' (.val (.tup (.pair vt (.pair .bool .unit))) .i (r.getD (zeroTy vt),(r.isSome,()))) else c' (.val vt .i (r.getD (zeroTy vt)))) (mget kt vt (cast (congrArg Ty.den he) m) y):=by
    intro σ c' st2 e1 e2 a1 a2
    unfold lookupK
    simp only[hT,e1,e2]
    rw[hd _ st2 a1,dif_pos he,hd2 _ st2 a2]
  cases ok with
  | true =>
    simp only[if_true]at h key
    exact⟨_,h,fun s hs=>hs.elim,key⟩
  | false =>
    simp only[Bool.false_eq_true,if_false]at h key
    exact⟨_,h,fun s hs=>hs.elim,key⟩
theorem jiq {f:Nat}{vs:List V}(hc:∀S,A.sig f=some S→S.md.any (· != 0)=false):preK A f vs st=st:=by
  unfold preK
  split
  · rename_i S hS
    rw[if_neg (by simp[hc S hS])]
  · rfl
theorem jed {t:Ty}{f:Fl}(hf:t.flat=true):∀{ps:List (Nat×Operand)}{n:Nat}{k:St→List Fl→List t.den→Option ρ}{r:ρ},partsK t f st ps n k=some r →
    ∃gs xs,k st gs xs=some r∧∀{σ:Type} (k':St→List Fl→List t.den→Option σ) (st2:St),(∀p∈ps,opd st2 p.2=opd st p.2∧VAgree st st2 (opd st p.2))→partsK t f st2 ps n k'=k' st2 gs xs
  | [],n,k,r,h=>by
    simp only[partsK]at h
    exact⟨_,_,h,fun k' st2 _=>rfl⟩
  | (i,o)::ps,n,k,r,h=>by
    simp only[partsK]at h
    split at h
    case isFalse=>cases h
    rename_i hi
    unfold consumeAs at h
    rw[if_pos hf]at h
    obtain⟨e,h,hd⟩:=jap h
    obtain⟨gs,xs,h,hd2⟩:=jed hf h
    refine⟨.i::gs,e::xs,h,fun k' st2 ha => ?_⟩
    have h0:=ha (i,o) List.mem_cons_self
    simp only[partsK,if_pos hi]
    unfold consumeAs
    rw[if_pos hf,h0.1,hd _ st2 h0.2]
    exact hd2 _ st2 fun p hp=>ha p (List.mem_cons_of_mem _ hp)
end
end Go.Gx
