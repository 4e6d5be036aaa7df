import Derived.Test.YtnolmlelfmadkaaGxLoop
set_option linter.unusedSimpArgs false
set_option linter.unusedVariables false
namespace Go.Gx
open Go
section
variable {P:Program} {A:Cfg} {c:Ctx} {own:Nat→List Nat} {st:St} {a:Act} {w:World} {ρ:Type}
theorem jka {E:List Nat}(h:Inv c own E st a w){v:V}{value:Value}{t:Ty}{g:Fl}{k:St→t.den→Option ρ}{r:ρ}(hv:VOk w (NB c own E w) st a v value) (hk:resOne st v t g k=some r) :
  ∃own' F st' x cs,k st' x=some r∧Inv c own' (F++E) st' a w∧Holds t value cs∧Rep w (NB c own' (F++E) w) t g x cs F∧(∀b,NB c own E w b→NB c own' (F++E) w b):=by
 unfold resOne at hk
 split at hk
 ·obtain⟨x,hk,hh,hr⟩:=jc0 (w:=w) (N:=NB c own E w) (f:=g) hk
  rw[hv.nilS]
  exact⟨own,[],st,x,_,hk,by simpa using h,hh,by simpa using hr,fun b hb=>by simpa using hb⟩
 ·obtain⟨x,hk,hh,hr⟩:=jdu (w:=w) (N:=NB c own E w) (f:=g) hk
  rw[hv.nilP]
  exact⟨own,[],st,x,_,hk,by simpa using h,hh,by simpa using hr,fun b hb=>by simpa using hb⟩
 ·obtain⟨own',F,st',s,f,x,hk,hinv,hrep,hN⟩:=jbr h hv hk
  have hnd:=hinv.ndE
  rw[List.nodup_append]at hnd
  split at hk
  ·cases hk
  rename_i htup
  rcases hrep with⟨cs,hh,hrep⟩|⟨u,_,_,rfl,_⟩
  ·obtain⟨y,F',hk',hsub,hre⟩:=jao hk hrep hnd.1
   have hsub2:∀b∈F'++E,b∈F++E:=fun b hb=>by
    rcases List.mem_append.1 hb with hb|hb
    ·exact List.mem_append_left _ (hsub.subset hb)
    ·exact List.mem_append_right _ hb
   have hinv2:Inv c own' (F'++E) st' a w:=hinv.letgo (List.Sublist.append hsub (List.Sublist.refl _))
   refine⟨own',F',st',y,cs,hk',hinv2,coerceTy_holds hk hh,hre _ (fun b hb=>hb.hand hsub2) fun b hb hb' => ?_,fun b hb=>(hN b hb).hand hsub2⟩
   refine NB.ofHand hinv (List.mem_append_left _ hb) ?_
   simp only[List.mem_append,not_or]
   exact⟨hb',fun hE=>hnd.2.2 b hb b hE rfl⟩
  ·exfalso
   cases t<;>simp[coerceTy,Ty.isTup]at hk htup
def resSem (tmps:Array Value):ResultVar→Sem Value
 | .tmp t=>pure (tmps.getD t undef)
 | .cell a t=>do loadVar t (←Go.asAddr (tmps.getD a undef))
def packV:List Value→Value
 | [v]=>v
 | vs => .tuple vs.toArray
def Runs (P:Program) (w:World) (tmps:Array Value):List ResultVar→List Value→Prop
 | [],[]=>True
 | x::rs,v::vs=>(resSem tmps x).run P w = .ok v w∧Runs P w tmps rs vs
 | _,_=>False
theorem Runs.mapM {tmps:Array Value}:∀{rs:List ResultVar}{vs:List Value},Runs P w tmps rs vs→(rs.mapM (resSem tmps)).run P w = .ok vs w
 | [],[],_=>rfl
 | x::rs,v::vs,⟨h1,h2⟩=>by
  rw[List.mapM_cons]
  simp only[Sem.run_bind,h1,Result.andThen_ok,Runs.mapM h2,Sem.run_pure]
 | [],_::_,h=>h.elim
 | _::_,[],h=>h.elim
theorem Runs.length {tmps:Array Value}:∀{rs:List ResultVar}{vs:List Value},Runs P w tmps rs vs→rs.length=vs.length
 | [],[],_=>rfl
 | x::rs,v::vs,⟨h1,h2⟩=>by simp[h2.length]
 | [],_::_,h=>h.elim
 | _::_,[],h=>h.elim
theorem jd6 (hA:CfgOk P A):∀{rs:List ResultVar}{own:Nat→List Nat}{E:List Nat}{st:St}{r:Ty}{g:Fl}{k:St→r.den→Option ρ}{z:ρ},Inv c own E st a w→resK A st rs r g k=some z →
  ∃own' F st' y vs,k st' y=some z∧Inv c own' (F++E) st' a w∧RepT w (NB c own' (F++E) w) r g y vs F∧(∀b,NB c own E w b→NB c own' (F++E) w b)∧Runs P w a.tmps rs vs
 | [],own,E,st,r,g,k,z,h,hk=>by
  cases r<;>simp only[resK,reduceCtorEq]at hk
  exact⟨own,[],st,(),[],hk,by simpa using h,⟨rfl,rfl⟩,fun b hb=>by simpa using hb,trivial⟩
 | .cell s T::rs,own,E,st,r,g,k,z,h,hk=>by
  cases r<;>simp only[resK,reduceCtorEq]at hk
  rename_i ta tb
  split at hk
  case h_2=>cases hk
  rename_i t' f0 t f x hT hs
  split at hk
  case isFalse=>cases hk
  rename_i hc
  simp only[Bool.and_eq_true,decide_eq_true_eq,Bool.not_eq_true']at hc
  obtain⟨⟨rfl,_⟩,_⟩:=hc
  have hty:=hA.ty T t' f0 hT
  have ho:(st.get s).isOwner=true:=by rw[hs];rfl
  have hsl:=h.slot s
  rw[hs]at hsl
  simp only[SlotOk]at hsl
  rcases hsl with⟨cs0,hh0,hrep0⟩|⟨u,_,_,e,_⟩
  rotate_left
  ·cases e
  simp only[Holds]at hh0
  subst hh0
  simp only[Rep]at hrep0
  obtain⟨b,arr,et,G,e1,e2,e3,hr0⟩:=hrep0
  simp only[List.cons.injEq,and_true]at e1
  obtain⟨hinv,hget,hN⟩:=h.takeSlot ho
  have hsub0:∀b'∈G++E,b'∈own s++E:=by
   intro b' hb'
   rw[e3]
   simp only[List.mem_append,List.mem_cons]at hb' ⊢
   rcases hb' with hb'|hb'
   ·exact .inl (.inr hb')
   ·exact .inr hb'
  have hndG:(G++E).Nodup:=by
   have:=hinv.ndE
   rw[e3,List.cons_append,List.nodup_cons]at this
   exact this.2
  have hinv1:=hinv.hand hsub0 hndG
  have ndG:=hndG
  rw[List.nodup_append]at ndG
  rw[ul]at hk
  cases hy:coerceTy t' f x ta g.l some with
  | none=>rw[hy]at hk;cases hk
  | some y =>
   rw[hy,Option.bind_some]at hk
   obtain⟨y',F1,e,hsub,hre⟩:=jao hy hr0 ndG.1
   simp only[Option.some.injEq]at e
   subst e
   obtain⟨v,hrun,hhv⟩:=jbg hty e2 (b:=b) (off:=0) (cs:=arr.toList) (by simp only[List.drop_zero];rw[List.take_of_length_le (by rw[hr0.len];exact Nat.le_refl _)]) hr0.len
   have hsubE:∀b'∈F1++E,b'∈G++E:=fun b' hb'=>by
    rcases List.mem_append.1 hb' with hb'|hb'
    ·exact List.mem_append_left _ (hsub.subset hb')
    ·exact List.mem_append_right _ hb'
   have hinv2:=hinv1.letgo (List.Sublist.append hsub (List.Sublist.refl E))
   obtain⟨own2,F2,st2,y2,vs,hk,h2,hrt,hN2,hruns⟩:=jd6 hA hinv2 hk
   have hsub2:∀b∈F1++F2++E,b∈F2++(F1++E):=by intro b hb;simp at hb ⊢;rcases hb with hb|hb|hb<;>simp[hb]
   have hnb1:∀b',NB c own E w b'→NB c (fun i=>if i=s then [] else own i) (F1++E) w b':=fun b' hb'=>((hN b' hb').hand hsub0).hand hsubE
   have hnb2:∀b'∈G,b' ∉ F1→NB c (fun i=>if i=s then [] else own i) (F1++E) w b':=by
    intro b' hb' hn
    refine NB.ofHand hinv1 (List.mem_append_left _ hb') ?_
    simp only[List.mem_append,not_or]
    exact⟨hn,fun hE=>ndG.2.2 b' hb' b' hE rfl⟩
   refine⟨own2,F1++F2,st2,(y',y2),v::vs,hk,h2.hand hsub2 ?_,⟨_,_,F1,F2,rfl,rfl,⟨arr.toList,coerceTy_holds hy hhv, ?_⟩, ?_⟩,fun b hb=>(hN2 b (hnb1 b hb)).hand hsub2, ?_,hruns⟩
   ·rw[List.append_assoc]
    exact(List.perm_append_comm_assoc F2 F1 E).nodup h2.ndE
   ·exact hre _ (fun b' hb'=>(hN2 b' (hnb1 b' hb')).hand hsub2) fun b' hb' hn=>(hN2 b' (hnb2 b' hb' hn)).hand hsub2
   ·exact hrt.mono (fun b hb=>⟨hb.hand hsub2,rfl⟩) fun _ _=>rfl
   ·have e1':a.tmps.getD s undef = .pointer (some ⟨b,0,none⟩):=e1
    simp only[resSem,e1',Go.asAddr,Sem.run_bind,Sem.run_pure,Result.andThen_ok,hrun]
 | .tmp t::rs,own,E,st,r,g,k,z,h,hk=>by
  cases r<;>simp only[resK,reduceCtorEq]at hk
  rename_i ta tb
  obtain⟨own1,F1,st1,x,cs,hk,h1,hh,hr,hN1⟩:=jka h (jt h (.tmp t)) hk
  obtain⟨own2,F2,st2,y,vs,hk,h2,hrt,hN2,hruns⟩:=jd6 hA h1 hk
  have hsub:∀b∈F1++F2++E,b∈F2++(F1++E):=by intro b hb;simp at hb ⊢;rcases hb with hb|hb|hb<;>simp[hb]
  refine⟨own2,F1++F2,st2,(x,y),Act.at_ a t::vs,hk,h2.hand hsub ?_,⟨_,_,F1,F2,rfl,rfl,⟨cs,hh, ?_⟩, ?_⟩,fun b hb=>(hN2 b (hN1 b hb)).hand hsub, ?_,hruns⟩
  ·rw[List.append_assoc]
   exact(List.perm_append_comm_assoc F2 F1 E).nodup h2.ndE
  ·exact hr.mono (fun b hb=>⟨(hN2 b hb).hand hsub,rfl⟩) fun _ _=>rfl
  ·exact hrt.mono (fun b hb=>⟨hb.hand hsub,rfl⟩) fun _ _=>rfl
  ·simp only[resSem,Sem.run_pure]
theorem jeg {fn:Func}{tmps:Array Value}{vs:List Value}(h:Runs P w tmps fn.results.toList vs) :
  (results fn tmps).run P w = .ok (packV vs) w:=by
 have key:(fn.results.mapM (resSem tmps)).run P w = .ok vs.toArray w:=by
  rw[Array.mapM_eq_mapM_toList,map_eq_pure_bind]
  simp only[Sem.run_bind,h.mapM,Result.andThen_ok,Sem.run_pure]
 have e:results fn tmps=(do let vs ←fn.results.mapM (resSem tmps);pure (if h:vs.size=1 then vs[0] else .tuple vs)):=by
  unfold results
  congr 1
 rw[e,Sem.run_bind,key]
 simp only[Result.andThen_ok,Sem.run_pure]
 match vs with
 | []=>rfl
 | [v]=>rfl
 | v::u::vs=>simp[packV]
theorem jcx {N:Nat→Prop}:∀{ty:Ty}{ms:List Nat}{fs:List Fl}{x:ty.den}{vs:List Value}{M:List Nat},ArgsR w N ty ms fs x vs M →
  ∃os:List (List Nat),os.flatten=M∧os.length=vs.length∧ms.length=vs.length∧(initV ty x ms fs).length=vs.length∧∀(N2:Nat→Prop),(∀b,N b→N2 b)→∀(i:Nat) v,vs[i]? = some v→∀(st:St) (a:Act),SlotOk w N2 st a (os.getD i []) v (St.get (initV ty x ms fs) i)
 | .unit,ms,fs,x,vs,M,h=>by
  cases ms with
  | nil =>
   cases vs with
   | nil=>simp only[ArgsR]at h;exact⟨[],by simp[h],rfl,rfl,rfl,by simp⟩
   | cons v vs=>simp[ArgsR]at h
  | cons m ms=>cases m<;>simp[ArgsR]at h
 | .pair t b,ms,fs,x,vs,M,h=>by
  cases ms with
  | nil=>cases vs<;>simp[ArgsR]at h
  | cons m ms =>
   cases vs with
   | nil=>match m with
    | 0=>simp[ArgsR]at h
    | 1=>cases fs<;>simp[ArgsR]at h
    | n+2=>simp[ArgsR]at h
   | cons v vs=>match m with
    | 0 =>
     simp only[ArgsR]at h
     obtain⟨h1,h2⟩:=h
     obtain⟨os,e1,e2,e3,e4,e5⟩:=jcx h2
     refine⟨[]::os,by simpa using e1,by simp[e2],by simp[e3],by simp[initV,e4],fun N2 hN i v' hv st a => ?_⟩
     cases i with
     | zero =>
      simp only[List.getElem?_cons_zero,Option.some.injEq]at hv
      subst hv
      exact .inl (h1.mono (fun b hb=>⟨hN b hb,rfl⟩) fun _ _=>rfl)
     | succ i=>exact e5 N2 hN i v' (by simpa using hv) st a
    | 1 =>
     cases fs with
     | nil=>simp[ArgsR]at h
     | cons f fs =>
      simp only[ArgsR]at h
      obtain⟨M1,M2,e0,h1,h2⟩:=h
      obtain⟨os,e1,e2,e3,e4,e5⟩:=jcx h2
      refine⟨M1::os,by simp[e0,e1],by simp[e2],by simp[e3],by simp[initV,e4],fun N2 hN i v' hv st a => ?_⟩
      cases i with
      | zero =>
       simp only[List.getElem?_cons_zero,Option.some.injEq]at hv
       subst hv
       exact .inl (h1.mono (fun b hb=>⟨hN b hb,rfl⟩) fun _ _=>rfl)
      | succ i=>exact e5 N2 hN i v' (by simpa using hv) st a
    | n+2=>simp[ArgsR]at h
 | .int _,ms,fs,x,vs,M,h=>by cases ms<;>simp[ArgsR]at h
 | .bool,ms,fs,x,vs,M,h=>by cases ms<;>simp[ArgsR]at h
 | .str,ms,fs,x,vs,M,h=>by cases ms<;>simp[ArgsR]at h
 | .any _,ms,fs,x,vs,M,h=>by cases ms<;>simp[ArgsR]at h
 | .sl _,ms,fs,x,vs,M,h=>by cases ms<;>simp[ArgsR]at h
 | .ptr _,ms,fs,x,vs,M,h=>by cases ms<;>simp[ArgsR]at h
 | .opt _,ms,fs,x,vs,M,h=>by cases ms<;>simp[ArgsR]at h
 | .ns _,ms,fs,x,vs,M,h=>by cases ms<;>simp[ArgsR]at h
 | .map _ _,ms,fs,x,vs,M,h=>by cases ms<;>simp[ArgsR]at h
 | .tup _,ms,fs,x,vs,M,h=>by cases ms<;>simp[ArgsR]at h
 | .clo _ _ _,ms,fs,x,vs,M,h=>by cases ms<;>simp[ArgsR]at h
theorem jdn {os:List (List Nat)}{i b:Nat}(h:b∈os.getD i []):b∈os.flatten:=by
 rw[List.getD_eq_getElem?_getD]at h
 cases hi:os[i]? with
 | none=>rw[hi]at h;cases h
 | some l =>
  rw[hi]at h
  exact List.mem_flatten.2 ⟨l,List.mem_of_getElem? hi,h⟩
theorem ji0 {os:List (List Nat)}(h:os.flatten.Nodup):(∀i,(os.getD i []).Nodup)∧∀i j b,b∈os.getD i []→b∈os.getD j []→i=j:=by
 induction os with
 | nil=>simp
 | cons l os ih =>
  rw[List.flatten_cons,List.nodup_append]at h
  obtain⟨i1,i2⟩:=ih h.2.1
  refine⟨fun i => ?_,fun i j b hb hb' => ?_⟩
  ·cases i with
   | zero=>exact h.1
   | succ i=>exact i1 i
  ·cases i with
   | zero =>
    cases j with
    | zero=>rfl
    | succ j=>exact absurd rfl (h.2.2 b hb b (jdn hb'))
   | succ i =>
    cases j with
    | zero=>exact absurd rfl (h.2.2 b hb' b (jdn hb))
    | succ j=>rw[i2 i j b hb hb']
theorem jb1 {F:List Nat}:∀{ms:List Nat}{i:Nat}{fs:List Fl}{m:Ty}{k:m.den→Option ρ}{r:ρ}{vs:List Value},Inv c own F st a w→ms.length=vs.length→(∀j v,vs[j]? = some v→i+j∈mutIdx i ms→Act.at_ a (i+j)=v)→mutsK st i ms fs m k=some r →
  ∃y M,k y=some r∧M.Nodup∧(∀b∈M,∃j,i≤j∧b∈own j)∧∀N:Nat→Prop,(∀b,NB c own F w b→N b)→MutsR w N m ms fs y vs M
 | [],i,fs,m,k,r,vs,h,hl,hfix,hk=>by
  cases m<;>simp only[mutsK,reduceCtorEq]at hk
  have:vs=[]:=List.eq_nil_of_length_eq_zero (by simpa using hl.symm)
  subst this
  exact⟨(),[],hk,by simp,by simp,fun _ _=>rfl⟩
 | mm::ms,i,fs,m,k,r,[],h,hl,hfix,hk=>by simp at hl
 | 0::ms,i,fs,m,k,r,v::vs,h,hl,hfix,hk=>by
  have hk:mutsK st (i+1) ms fs m k=some r:=by cases m<;>simpa only [mutsK] using hk
  obtain⟨y,M,h1,h2,h3,h4⟩:=jb1 h (by simpa using hl) (fun j v hv hj=>by
   have e:i+1+j=i+(j+1):=by omega
   rw[e]at hj ⊢
   exact hfix (j+1) v (by simpa using hv) (by simpa only [mutIdx,if_true] using hj)) hk
  exact⟨y,M,h1,h2,fun b hb=>by obtain⟨j,hj,hb⟩:=h3 b hb;exact⟨j,by omega,hb⟩,fun N hN=>by
   have:=h4 N hN
   cases m<;>simpa only [MutsR] using this⟩
 | (n+2)::ms,i,fs,m,k,r,v::vs,h,hl,hfix,hk=>by
  cases m<;>cases fs<;>simp[mutsK]at hk
 | 1::ms,i,fs,m,k,r,v::vs,h,hl,hfix,hk=>by
  cases m<;>cases fs<;>simp only[mutsK,reduceCtorEq]at hk
  rename_i t b f fs
  split at hk
  ·rename_i ha
   subst ha
   simp only[cast_eq]at hk
   obtain⟨y,M,h1,h2,h3,h4⟩:=jb1 h (by simpa using hl) (fun j v hv hj=>by
    have e:i+1+j=i+(j+1):=by omega
    rw[e]at hj ⊢
    exact hfix (j+1) v (by simpa using hv) (by
     simp only[mutIdx]
     rw[if_neg (by omega)]
     exact List.mem_cons_of_mem _ (by simpa using hj))) hk
   exact⟨((),y),M,h1,h2,fun b hb=>by obtain⟨j,hj,hb⟩:=h3 b hb;exact⟨j,by omega,hb⟩,fun N hN=>⟨[],M,rfl,⟨[.bool false],trivial,⟨rfl,by simp[Value.oneCell']⟩,rfl⟩,h4 N hN⟩⟩
  split at hk
  case h_2=>cases hk
  rename_i s g x hs
  split at hk
  case isFalse=>cases hk
  rename_i hok
  split at hk
  case isFalse=>cases hk
  rename_i hst
  subst hst
  split at hk
  case isFalse=>cases hk
  rename_i hgf
  subst hgf
  simp only[cast_eq]at hk
  have hv:Act.at_ a i=v:=by
   have:=hfix 0 v rfl (by simp[mutIdx])
   simpa using this
  have hsl:=h.slot i
  rw[hs,hv]at hsl
  simp only[SlotOk]at hsl
  obtain⟨y,M,h1,h2,h3,h4⟩:=jb1 h (by simpa using hl) (fun j v hv hj=>by
   have e:i+1+j=i+(j+1):=by omega
   rw[e]at hj ⊢
   exact hfix (j+1) v (by simpa using hv) (by
    simp only[mutIdx]
    rw[if_neg (by omega)]
    exact List.mem_cons_of_mem _ (by simpa using hj))) hk
  rcases hsl with⟨cs,hh,hr⟩|⟨u,_,_,e,_⟩
  ·refine⟨(x,y),own i++M,h1, ?_,fun b hb => ?_,fun N hN=>⟨own i,M,rfl,⟨cs,hh,hr.mono (fun b hb=>⟨hN b hb,rfl⟩) fun _ _=>rfl⟩,h4 N hN⟩⟩
   ·rw[List.nodup_append]
    refine⟨h.nd i,h2,fun x hx z hz e => ?_⟩
    subst e
    obtain⟨j,hj,hb⟩:=h3 x hz
    have:=h.dj i j x hx hb
    omega
   ·rcases List.mem_append.1 hb with hb|hb
    ·exact⟨i,Nat.le_refl _,hb⟩
    ·obtain⟨j,hj,hb⟩:=h3 b hb
     exact⟨j,by omega,hb⟩
  ·subst e;exact absurd rfl (jcb hok u)
theorem jjl (hA:CfgOk P A){S:Sig}{rs:List ResultVar}{e:Ex}{r:S.r.den×S.m.den}{args:List Value}(h:Inv c own [] st a w) (hl:S.md.length=args.length) (hfix:∀j v,args[j]? = some v→j∈mutIdx 0 S.md→Act.at_ a j=v) (hk:finish A S rs e st=some r) :
  ∃own' F st' vs M,Inv c own' F st' a w∧RepV w (NB c own' F w) S.r S.rf r.1 (packV vs) F∧Runs P w a.tmps rs vs∧M.Nodup∧(∀b∈M,∃j,b∈own' j) ∧
   ∀N:Nat→Prop,(∀b,NB c own' F w b→N b)→MutsR w N S.m S.md S.mf r.2 args M:=by
 unfold finish at hk
 split at hk
 ·cases hk
 revert r
 generalize S.r=R
 intro r
 have one:(match rs with
  | [_]=>resK A st rs (.pair R .unit) (.p S.rf .i) fun st' x=>mutsK st' 0 S.md S.mf S.m fun y=>some (x.1,y)
  | _=>none)=some r→∃own' F st' vs M,Inv c own' F st' a w∧RepV w (NB c own' F w) R S.rf r.1 (packV vs) F∧Runs P w a.tmps rs vs∧M.Nodup∧(∀b∈M,∃j,b∈own' j) ∧
   ∀N:Nat→Prop,(∀b,NB c own' F w b→N b)→MutsR w N S.m S.md S.mf r.2 args M:=by
  intro hk
  split at hk
  ·rename_i x
   obtain⟨own',F,st',y,vs,hk,hinv,hrt,hN,hruns⟩:=jd6 hA h hk
   rw[List.append_nil]at hinv hrt
   obtain⟨z,M,hk',ndM,hM,hmut⟩:=jb1 hinv hl (fun j v hv hj=>by rw[Nat.zero_add]at hj ⊢;exact hfix j v hv hj) hk
   simp only[Option.some.injEq]at hk'
   subst hk'
   obtain⟨v,vs',F1,F2,e1,e2,h3,h4,h5⟩:=hrt
   subst h4
   subst e1
   simp only[h5,List.append_nil]at e2
   subst e2
   exact⟨own',F,st',[v],M,hinv,.inl h3,hruns,ndM,fun b hb=>by obtain⟨j,_,hj⟩:=hM b hb;exact⟨j,hj⟩,hmut⟩
  ·cases hk
 intro hk
 cases R with
 | tup r' =>
  simp only[finR]at hk
  split at hk
  ·cases hk
  rename_i hlen
  obtain⟨own',F,st',y,vs,hk,hinv,hrt,hN,hruns⟩:=jd6 hA h hk
  rw[List.append_nil]at hinv hrt
  obtain⟨z,M,hk',ndM,hM,hmut⟩:=jb1 hinv hl (fun j v hv hj=>by rw[Nat.zero_add]at hj ⊢;exact hfix j v hv hj) hk
  simp only[Option.some.injEq]at hk'
  subst hk'
  refine⟨own',F,st',vs,M,hinv,.inr ⟨r',y,vs.toArray,rfl,HEq.rfl, ?_,by simpa using hrt⟩,hruns,ndM,fun b hb=>by obtain⟨j,_,hj⟩:=hM b hb;exact⟨j,hj⟩,hmut⟩
  have:=hruns.length
  match vs,this with
  | [],_=>rfl
  | [v],h'=>exact absurd h' hlen
  | v::u::vs,_=>rfl
 | _=>simp only[finR]at hk;exact one hk
theorem jg5 {f:FuncId}{fn:Func}{S:Sig}(hf:P.funcs[f]? = some fn) (hn:S.md.length≤fn.ntmps)
  (h:∀x r,S.f x=some r→∃A n,CfgOk P A∧SigOk P A∧(∀code,fn.body=some code→HooksOk P A code)∧runF A n fn S x=some r):Good P f S:=by
 intro x r hx w N args M hargs hnd hM hN
 obtain⟨A,n,hA,hS,hH,hrun⟩:=h x r hx
 unfold runF at hrun
 split at hrun
 case h_2=>cases hrun
 rename_i code hb
 split at hrun
 case isFalse=>cases hrun
 rename_i hkeep
 obtain⟨os,e1,e2,e3,e4,e5⟩:=jcx hargs
 rw[←e1]at hnd
 obtain⟨nd1,nd2⟩:=ji0 hnd
 have hsz:args.size=S.md.length:=by rw[e3];simp
 refine calls_of_wp hf hb ?_
 have hat0:∀i v,args.toList[i]? = some v→Act.at_ { tmps:=args++Array.replicate (fn.ntmps-args.size) undef,defers:=[] } i=v:=by
  intro i v hv
  have hi:i<args.size:=by
   rw[List.getElem?_eq_some_iff]at hv
   simpa using hv.1
  simp only[Array.getElem?_toList]at hv
  rw[Array.getElem?_eq_getElem hi]at hv
  simp only[Option.some.injEq]at hv
  simp[Act.at_,Array.getD_eq_getD_getElem?,Array.getElem?_append,hi,hv]
 have hinv:Inv ⟨w,M,fun b=>N b∨b∈M,fun b hb => .inr hb,fun i=>if i∈mutIdx 0 S.md then args.toList[i]? else none⟩ (fun i=>os.getD i []) [] (initSt S x fn.ntmps) { tmps:=args++Array.replicate (fn.ntmps-args.size) undef,defers:=[] } w:=by
  have hown:∀i b,b∈os.getD i []→b∈M:=fun i b hb=>by rw[←e1];exact jdn hb
  refine⟨?_,rfl,fun i => ?_,nd1,by simp,nd2,by simp,by simp,fun i b hb => .inl (hown i b hb),by simp,fun _ _ _=>rfl,Nat.le_refl _,rfl,rfl,rfl,trivial,fun i v hv => ?_⟩
  ·simp only[initSt,Array.size_append,Array.size_replicate,List.length_append,List.length_replicate,e4,hsz]
   rw[←e3]
  ·by_cases hi:i<args.toList.length
   ·have hv:args.toList[i]? = some args.toList[i]:=List.getElem?_eq_getElem hi
    have hat:=hat0 i _ hv
    have hget:St.get (initSt S x fn.ntmps) i=St.get (initV S.a x S.md S.mf) i:=by
     simp only[St.get,initSt,List.getD_eq_getElem?_getD]
     rw[List.getElem?_append_left (by rw[e4];exact hi)]
    rw[hat,hget]
    refine e5 _ (fun b hb=>⟨hN b hb,fun i hi=>(hM b (hown i b hi)).1 hb,by simp,fun _ => .inl hb⟩) i _ hv _ _
   ·have hget:St.get (initSt S x fn.ntmps) i = .u:=by
     simp only[St.get,initSt,List.getD_eq_getElem?_getD]
     rw[List.getElem?_append_right (by rw[e4];omega),List.getElem?_replicate]
     split<;>rfl
    rw[hget]
    show os.getD i []=[]
    rw[List.getD_eq_getElem?_getD,List.getElem?_eq_none (by omega)]
    rfl
  ·simp only at hv
   split at hv
   ·exact hat0 i v hv
   ·cases hv
 refine jmt hA hS (fx:=mutIdx 0 S.md) (fun n hn=>by simp[hn]) hkeep (hH code hb) hinv hrun fun e own' st' a' w' hk h' => ?_
 obtain⟨own2,F,st2,vs,M2,h2,hrep,hruns,ndM2,hM2,hmut⟩:=jjl hA h' (args:=args.toList) e3 (fun j v hv hj=>h'.fixed j v (by simp[hj,hv])) hk
 have hres:=jeg hruns
 have ha:({ tmps:=a'.tmps,defers:=[] }:Act)=a':=by
  cases a' with
  | mk t d=>simp only[Act.mk.injEq,true_and];exact h'.defers.symm
 have hbnd:∀b∈F++M2,b∈M∨w.heap.size≤b:=by
  intro b hb
  rcases List.mem_append.1 hb with hb|hb
  ·exact h2.bndE b hb
  ·obtain⟨j,hj⟩:=hM2 b hb
   exact h2.bnd j b hj
 have hltb:∀b∈F++M2,b<w'.heap.size:=by
  intro b hb
  rcases List.mem_append.1 hb with hb|hb
  ·exact h2.ltE b hb
  ·obtain⟨j,hj⟩:=hM2 b hb
   exact h2.lt j b hj
 have hNB:∀b,NB ⟨w,M,fun b=>N b∨b∈M,fun b hb => .inr hb,fun i=>if i∈mutIdx 0 S.md then args.toList[i]? else none⟩ own2 F w' b→(b<w'.heap.size∧b ∉ F∧b ∉ M2∧(b<w.heap.size→N b∨b∈M)):=by
  intro b hb
  refine⟨hb.1,hb.2.2.1,fun hm => ?_,hb.2.2.2⟩
  obtain⟨j,hj⟩:=hM2 b hm
  exact hb.2.1 j hj
 have key:Left S w N args.toList M r (packV vs) w':=by
  refine⟨F,M2, ?_,hrep.mono (fun b hb=>⟨hNB b hb,rfl⟩) fun _ _=>rfl,hmut _ hNB,hbnd,hltb,h2.frame,h2.grow,h2.os,h2.tape,h2.output,h2.frozen⟩
  rw[List.nodup_append]
  refine⟨h2.ndE,ndM2,fun x hx y hy e => ?_⟩
  subst e
  obtain⟨j,hj⟩:=hM2 x hy
  exact h2.djE j x hj hx
 cases e with
 | exit i=>simp[finish]at hk
 | normal=>exact⟨h'.defers,_,hres,key⟩
 | ret=>exact⟨h'.defers,_,hres,key⟩
def unhook (A:Cfg):Cfg:={ A with hook:=fun _=>none }
theorem vg {f:FuncId}{fn:Func}{S:Sig}(hf:P.funcs[f]? = some fn) (hn:S.md.length≤fn.ntmps)
  (h:∀x r,S.f x=some r→∃A n,CfgOk P A∧SigOk P A∧runF (unhook A) n fn S x=some r):Good P f S :=
 jg5 hf hn fun x r hx=>by
  obtain⟨A,n,h1,h2,h3⟩:=h x r hx
  exact⟨unhook A,n,⟨h1.elem,h1.ty,h1.flds,h1.arrs,h1.mixed,h1.maps,h1.eqs⟩,⟨h2.sig⟩,fun _ _=>vr fun _=>rfl,h3⟩
end
end Go.Gx
