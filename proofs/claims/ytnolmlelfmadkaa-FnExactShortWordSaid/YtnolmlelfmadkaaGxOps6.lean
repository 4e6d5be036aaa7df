import Derived.Test.YtnolmlelfmadkaaGxOps5
import Derived.Laws.BytesArg
set_option linter.unusedSimpArgs false
set_option linter.unusedVariables false
namespace Go.Gx
open Go
section
variable {P:Program} {A:Cfg} {c:Ctx} {own:Nat→List Nat} {st:St} {a:Act} {w:World} {ρ:Type}
theorem repL_ints {kd:IntKind}:∀{xs:List Int}{cs:List Value}{G:List Nat},RepL (fun x ds (G:List Nat)=>ds=[Value.int kd x]∧G=[]) 1 xs cs G→∀i,i<xs.length→cs[i]? = some (.int kd (xs.getD i 0))
 | [],_,_,_,i,hi=>by simp at hi
 | x::xs,cs,G,⟨F1,F2,_,hl,hx,hr⟩,i,hi=>by
  cases cs with
  | nil=>simp at hl
  | cons c cs =>
   cases i with
   | zero =>
    simp only[List.take_succ_cons,List.take_zero,List.cons.injEq,and_true]at hx
    simp[hx.1]
   | succ i =>
    have:=repL_ints (by simpa using hr) i (by simpa using hi)
    simpa using this
theorem jkb {N:Nat→Prop}{s d e:TypeId}(hs:P.underlying s=some (.slice e)) (he:P.underlying e=some (.int .u8)) (hd:P.underlying d=some .string){f:Fl}{xs:List Int}{v:Value}{F:List Nat}(hr:Rep w N (.sl (.int .u8)) f xs [v] F) :
  (convert s d v).run P w = .ok (.string (strOfNums xs)) w:=by
 have hp:=hr.toPlain (N2:=fun _=>True) (fun _ _=>trivial) fun _ _=>trivial
 simp only[Rep]at hp
 obtain⟨_,ad,cap,h1,h2,h3,h4⟩:=hp
 simp only[List.cons.injEq,and_true]at h1
 subst h1
 by_cases hx:xs=[]
 ·subst hx
  rw[List.length_nil,run_convert_bytes_string w s d e _ _ _ hs he hd]
  cases ad with
  | none=>simp[Conv.bytesToString,strOfNums,Sem.run_pure];rfl
  | some ad =>
   rw[run_bytesToString w ad 0 cap [] (by simp[loadCells,loadCellsFrom,Sem.run_pure])]
   rfl
 ·obtain⟨b,off,arr,e',fr,rfl,_,g3,g4⟩:=h4 hx
  refine run_convert_bytes_arg w s e hs he b off xs.length cap xs rfl (fun i hi => ?_) d hd
  have:=repL_ints g4 i hi
  rw[List.getElem?_drop,Array.getElem?_toList]at this
  simp[World.cell?,g3,this]
theorem jlv (hA:CfgOk P A){o:Oper}{s d:TypeId}{x:Operand}{k:St→Option ρ}{r:ρ}(ho:o.op = .convert s d x) (hsrc:(A.ty s).isSome=true) (h:Inv c own [] st a w)
  (hk:convK A st s d (opd st x) (fun v=>k (st.putO o.dst v))=some r):OpGoal P c o k r a w:=by
 obtain⟨⟨ts,fs⟩,hs⟩:=Option.isSome_iff_exists.1 hsrc
 obtain⟨_,_,ds,_,_,_,_,hus,_⟩:=hA.ty s ts fs hs
 have hxv:=jt h x
 unfold convK at hk
 split at hk
 ·rename_i kd f n hx
  rw[hx]at hxv
  split at hk
  case h_2=>cases hk
  rename_i j fd hd
  obtain⟨_,_,dd,_,_,_,_,hud,_,_,_,_,_,hint⟩:=hA.ty d _ fd hd
  have hdd:=hint j rfl
  subst hdd
  refine ji h (v := .val (.int j) .i (j.wrap n)) (value := .int j (j.wrap n)) ?_ (qz _ _) hk
  unfold execOp
  simp only[ho,hxv.int,convert,Sem.run_bind,run_underlying hus,run_underlying hud,Result.andThen_ok,Conv.intToInt,Sem.run_pure]
 ·split at hk
  case h_2=>cases hk
  rename_i f1 f2 hE hD
  obtain⟨e,i,hus2,hty,_⟩:=hA.elem s _ _ hE
  obtain⟨_,_,de,_,_,_,_,hue,_,_,_,_,_,hint⟩:=hty
  have hde:=hint .u8 rfl
  subst hde
  have hud:=jc4 hA hD
  obtain⟨t,f,xs,hk,hm⟩:=jb0 h hxv hk
  split at hk
  case isFalse=>cases hk
  rename_i het
  subst het
  simp only[cast_eq]at hk
  rcases hm with⟨u,e⟩|⟨cs,F0,hh,hr,_⟩
  ·cases e
  simp only[Holds]at hh
  subst hh
  have hrun:=jkb hus2 hue hud hr
  refine ji h (v := .val .str .i _) (value := .string _) ?_ (.inl ⟨_,rfl,rfl,rfl⟩) hk
  unfold execOp
  simp only[ho,Sem.run_bind,hrun,Result.andThen_ok,Sem.run_pure]
  rfl
theorem jda:∀{t:Ty}{n o:Nat},offOf t n=some o→∃tf,fldT t n=some tf∧o+tf.cells≤t.cells
 | .pair a b,0,o,h=>by
  simp only[offOf,Option.some.injEq]at h
  subst h
  exact⟨a,rfl,by simp[Ty.cells]⟩
 | .pair a b,n+1,o,h=>by
  simp only[offOf,Option.map_eq_some_iff]at h
  obtain⟨o',h',rfl⟩:=h
  obtain⟨tf,h1,h2⟩:=jda h'
  exact⟨tf,h1,by simp only[Ty.cells];omega⟩
 | .int _,n,o,h=>by cases n<;>simp[offOf]at h
 | .bool,n,o,h=>by cases n<;>simp[offOf]at h
 | .str,n,o,h=>by cases n<;>simp[offOf]at h
 | .unit,n,o,h=>by cases n<;>simp[offOf]at h
 | .any _,n,o,h=>by cases n<;>simp[offOf]at h
 | .sl _,n,o,h=>by cases n<;>simp[offOf]at h
 | .ptr _,n,o,h=>by cases n<;>simp[offOf]at h
 | .opt _,n,o,h=>by cases n<;>simp[offOf]at h
 | .ns _,n,o,h=>by cases n<;>simp[offOf]at h
 | .map _ _,n,o,h=>by cases n<;>simp[offOf]at h
 | .tup _,n,o,h=>by cases n<;>simp[offOf]at h
 | .clo _ _ _,n,o,h=>by cases n<;>simp[offOf]at h
theorem jij {N:Nat→Prop}:∀{n:Nat}{t:Ty}{f:Fl}{x:t.den}{cs:List Value}{F:List Nat}{k:(t:Ty)→Fl→t.den→Option ρ}{r:ρ}{o:Nat},fldP t f x n k=some r→Rep w N t f x cs F→offOf t n=some o →
  ∃t' f' x' F',k t' f' x'=some r∧fldT t n=some t'∧F'.Sublist F∧Rep w N t' f' x' ((cs.drop o).take t'.cells) F'
 | 0,.pair a b,f,x,cs,F,k,r,o,hk,hr,ho=>by
  simp only[fldP]at hk
  simp only[offOf,Option.some.injEq]at ho
  subst ho
  simp only[Rep]at hr
  obtain⟨F1,F2,e,hl,h1,h2⟩:=hr
  exact⟨a,f.l,x.1,F1,hk,rfl,by rw[e];exact List.sublist_append_left _ _,by simpa using h1⟩
 | n+1,.pair a b,f,x,cs,F,k,r,o,hk,hr,ho=>by
  simp only[fldP]at hk
  simp only[offOf,Option.map_eq_some_iff]at ho
  obtain⟨o',ho',rfl⟩:=ho
  simp only[Rep]at hr
  obtain⟨F1,F2,e,hl,h1,h2⟩:=hr
  obtain⟨t',f',x',F',g1,g2,g3,g4⟩:=jij hk h2 ho'
  exact⟨t',f',x',F',g1,g2,by rw[e];exact g3.trans (List.sublist_append_right _ _),by rw[List.drop_drop]at g4;exact g4⟩
 | n,.int _,_,_,_,_,_,_,_,hk,_,_=>by cases n<;>simp[fldP]at hk
 | n,.bool,_,_,_,_,_,_,_,hk,_,_=>by cases n<;>simp[fldP]at hk
 | n,.str,_,_,_,_,_,_,_,hk,_,_=>by cases n<;>simp[fldP]at hk
 | n,.unit,_,_,_,_,_,_,_,hk,_,_=>by cases n<;>simp[fldP]at hk
 | n,.any _,_,_,_,_,_,_,_,hk,_,_=>by cases n<;>simp[fldP]at hk
 | n,.sl _,_,_,_,_,_,_,_,hk,_,_=>by cases n<;>simp[fldP]at hk
 | n,.ptr _,_,_,_,_,_,_,_,hk,_,_=>by cases n<;>simp[fldP]at hk
 | n,.opt _,_,_,_,_,_,_,_,hk,_,_=>by cases n<;>simp[fldP]at hk
 | n,.ns _,_,_,_,_,_,_,_,hk,_,_=>by cases n<;>simp[fldP]at hk
 | n,.map _ _,_,_,_,_,_,_,_,hk,_,_=>by cases n<;>simp[fldP]at hk
 | n,.tup _,_,_,_,_,_,_,_,hk,_,_=>by cases n<;>simp[fldP]at hk
 | n,.clo _ _ _,_,_,_,_,_,_,_,hk,_,_=>by cases n<;>simp[fldP]at hk
theorem At.fld:∀{n:Nat}{t:Ty}{cs:List Value}{b off o:Nat}{tf:Ty},offOf t n=some o→fldT t n=some tf→At w t cs (some (b,off)) (fldSteps n) tf ((cs.drop o).take tf.cells) (some (b,off+o))
 | 0,.pair a c,cs,b,off,o,tf,h,h'=>by
  simp only[offOf,Option.some.injEq]at h
  simp only[fldT,Option.some.injEq]at h'
  subst h;subst h'
  simp only[fldSteps,At]
  exact⟨trivial,by simp,by simp⟩
 | n+1,.pair a c,cs,b,off,o,tf,h,h'=>by
  simp only[offOf,Option.map_eq_some_iff]at h
  obtain⟨o',ho',rfl⟩:=h
  simp only[fldT]at h'
  have:=At.fld (cs:=cs.drop a.cells) (b:=b) (off:=off+a.cells) ho' h'
  simp only[fldSteps,At,Option.map_some]
  rw[List.drop_drop,Nat.add_assoc]at this
  exact this
 | n,.int _,_,_,_,_,_,h,_=>by cases n<;>simp[offOf]at h
 | n,.bool,_,_,_,_,_,h,_=>by cases n<;>simp[offOf]at h
 | n,.str,_,_,_,_,_,h,_=>by cases n<;>simp[offOf]at h
 | n,.unit,_,_,_,_,_,h,_=>by cases n<;>simp[offOf]at h
 | n,.any _,_,_,_,_,_,h,_=>by cases n<;>simp[offOf]at h
 | n,.sl _,_,_,_,_,_,h,_=>by cases n<;>simp[offOf]at h
 | n,.ptr _,_,_,_,_,_,h,_=>by cases n<;>simp[offOf]at h
 | n,.opt _,_,_,_,_,_,h,_=>by cases n<;>simp[offOf]at h
 | n,.ns _,_,_,_,_,_,h,_=>by cases n<;>simp[offOf]at h
 | n,.map _ _,_,_,_,_,_,h,_=>by cases n<;>simp[offOf]at h
 | n,.tup _,_,_,_,_,_,h,_=>by cases n<;>simp[offOf]at h
 | n,.clo _ _ _,_,_,_,_,_,h,_=>by cases n<;>simp[offOf]at h
theorem jg3:∀{n:Nat}{t:Ty}{f:Fl}{x:t.den}{o:Nat},offOf t n=some o→∃m,getD t f x (fldSteps n)=some m
 | 0,.pair a b,f,x,o,h=>⟨⟨a,f.l,x.1⟩,by simp only[fldSteps,getD,getP]⟩
 | n+1,.pair a b,f,x,o,h=>by
  simp only[offOf,Option.map_eq_some_iff]at h
  obtain⟨o',ho',rfl⟩:=h
  obtain⟨m,hm⟩:=jg3 (f:=f.r) (x:=x.2) ho'
  exact⟨m,by simpa only [fldSteps,getD,getP] using hm⟩
 | n,.int _,_,_,_,h=>by cases n<;>simp[offOf]at h
 | n,.bool,_,_,_,h=>by cases n<;>simp[offOf]at h
 | n,.str,_,_,_,h=>by cases n<;>simp[offOf]at h
 | n,.unit,_,_,_,h=>by cases n<;>simp[offOf]at h
 | n,.any _,_,_,_,h=>by cases n<;>simp[offOf]at h
 | n,.sl _,_,_,_,h=>by cases n<;>simp[offOf]at h
 | n,.ptr _,_,_,_,h=>by cases n<;>simp[offOf]at h
 | n,.opt _,_,_,_,h=>by cases n<;>simp[offOf]at h
 | n,.ns _,_,_,_,h=>by cases n<;>simp[offOf]at h
 | n,.map _ _,_,_,_,h=>by cases n<;>simp[offOf]at h
 | n,.tup _,_,_,_,h=>by cases n<;>simp[offOf]at h
 | n,.clo _ _ _,_,_,_,h=>by cases n<;>simp[offOf]at h
theorem jhg {o:Oper}{x:Operand}{fts:List (Ty×Fl)}{f:Nat}{k:St→Option ρ}{r:ρ}(h:Inv c own [] st a w)
  (hex:∀b off n,a.eval x = .pointer (some ⟨b,off,none⟩)→offL fts f=some n→(execOp a.eval o).run P w = .ok (.value (.pointer (some ⟨b,off+n,none⟩))) w)
  (hk:fieldAddrK fts st (opd st x) f (fun v=>k (st.putO o.dst v))=some r):OpGoal P c o k r a w:=by
 have hxv:=jt h x
 unfold fieldAddrK at hk
 split at hk
 ·rename_i t f2 e hx
  split at hk
  case isFalse=>cases hk
  rename_i hc
  simp only[Bool.and_eq_true,decide_eq_true_eq]at hc
  obtain⟨n,hn⟩:=Option.isSome_iff_exists.1 hc.1
  rw[hx]at hxv
  obtain⟨cs,hh,hrep⟩:=hxv.rep (by intro u hu;cases hu)
  have hrep:=hrep.asPlain
  simp only[Holds]at hh
  subst hh
  simp only[Rep]at hrep
  obtain⟨_,b,off,arr,et,fr,g1,g2,g3,g5,g4⟩:=hrep
  simp only[List.cons.injEq,and_true]at g1
  obtain⟨tf,hf,hle⟩:=jda hn
  obtain⟨t',f',x',F',hk,hf',hsub,hr'⟩:=jij hk g4 hn
  rw[hf]at hf'
  cases hf'
  have hF:F'=[]:=List.sublist_nil.1 hsub
  subst hF
  refine ji h (hex b off n g1 (by rw[←hc.2];exact hn)) (v := .val (.ptr tf) .i x') (.inl ⟨_,rfl, ?_⟩) hk
  simp only[Rep]
  refine⟨trivial,b,off+n,arr,et,fr,rfl,g2,g3,by omega, ?_⟩
  have e1:List.take tf.cells (List.drop (off+n) arr.toList)=List.take tf.cells (List.drop n (List.take t.cells (List.drop off arr.toList))):=by
   rw[List.drop_take,List.take_take,List.drop_drop]
   congr 1
   omega
  rw[e1]
  exact hr'.asPlain
 ·split at hk
  case h_2=>cases hk
  rename_i s p ha
  have hr:=jb8 h hxv ha
  split at hk
  case h_2=>cases hk
  rename_i τ g y hs
  obtain⟨⟨nt,nf,nx⟩,hg,hk2⟩:=qx hk
  simp only at hk2
  split at hk2
  case isFalse=>cases hk2
  rename_i hc
  simp only[Bool.and_eq_true,decide_eq_true_eq]at hc
  obtain⟨n,hn⟩:=Option.isSome_iff_exists.1 hc.1
  obtain⟨tf,hf,hle⟩:=jda hn
  obtain⟨cs,cs',l',hh,hrep,hat,⟨b,off,rfl,hv⟩,F0,m0,r0⟩:=jb4 h hr hs hg (by rintro u rfl;simp[offOf]at hn)
  have hnany:∀n,τ ≠ .any n:=by
   rintro m rfl
   cases p with
   | nil=>simp only[getD,getP,Option.some.injEq]at hg;cases hg;simp[offOf]at hn
   | cons s p=>cases s<;>simp[getD,getP]at hg
  obtain⟨m,hm⟩:=jg3 (f:=nf) (x:=nx) hn
  refine ji h (hex b off n hv (by rw[←hc.2];exact hn)) (v := .ref s (p++fldSteps f) .addr) ?_ hk2
  refine⟨rfl,hr.1,.inr ⟨τ,g,y,cs,tf,_,_,hs,⟨hnany, ?_⟩,hh,hat.snoc (At.fld hn hf),⟨b,off+n,rfl,rfl⟩⟩⟩
  rw[jfm hg hm]
  rfl
theorem FlOk.nth:∀{fls:List Field}{off:Nat}{fts:List (Ty×Fl)}{f n:Nat},FlOk P fls off fts→offL fts f=some n→∃fl t,fls[f]? = some fl∧fl.offset=off+n∧0<Ty.cells t∧∃j,P.info? fl.type=some j∧j.size=t.cells
 | [],_,[],f,n,_,h=>by cases f<;>simp[offL]at h
 | [],_,_::_,_,_,h,_=>h.elim
 | _::_,_,[],f,n,_,h=>by cases f<;>simp[offL]at h
 | fl::fls,off,(t,g)::ts,0,n,⟨h1,h2,h3,h4⟩,h=>by
  simp only[offL,Option.some.injEq]at h
  subst h
  exact⟨fl,t,rfl,by simpa using h1,h2,h3⟩
 | fl::fls,off,(t,g)::ts,f+1,n,⟨h1,h2,h3,h4⟩,h=>by
  simp only[offL,Option.map_eq_some_iff]at h
  obtain⟨m,hm,rfl⟩:=h
  obtain⟨fl',t',e1,e2,e3⟩:=h4.nth hm
  exact⟨fl',t',by simpa using e1,by omega,e3⟩
theorem jej (b off n:Nat):(⟨b,off,none⟩:Addr).add n=⟨b,off+n,none⟩:=by
 unfold Addr.add;split<;>simp_all
theorem jgx (hA:CfgOk P A){o:Oper}{S:TypeId}{x:Operand}{f:Nat}{fts:List (Ty×Fl)}{k:St→Option ρ}{r:ρ}(ho:o.op = .fieldAddr S x f) (hS:A.flds S=some fts) (h:Inv c own [] st a w)
  (hk:fieldAddrK fts st (opd st x) f (fun v=>k (st.putO o.dst v))=some r):OpGoal P c o k r a w:=by
 refine jhg h (fun b off n hv hn => ?_) hk
 obtain⟨i,z,fields,_,_,hu,_,hfl,_⟩:=hA.flds S fts hS
 obtain⟨fl,t,e1,e2,e3,j,e4,e5⟩:=hfl.nth hn
 have e1':fields[f]? = some fl:=by simpa using e1
 have hne:j.size≠0:=by omega
 unfold execOp
 simp only[ho,hv,Instr.fieldAt,Sem.run_bind,run_underlying hu,Result.andThen_ok,e1',Instr.sureAddr,Sem.run_pure,fieldPlace,sizeOf,typeInfo,run_program,e4,hne,if_false,jej,e2,Nat.zero_add]
theorem jhc:∀{n m:Nat}{t:Ty}{f:Fl}{i:Nat},offL (List.replicate n (t,f)) i=some m→i<n∧m=i*t.cells
 | 0,m,t,f,i,h=>by cases i<;>simp[offL]at h
 | n+1,m,t,f,0,h=>by simp only[List.replicate_succ,offL,Option.some.injEq]at h;subst h;simp
 | n+1,m,t,f,i+1,h=>by
  simp only[List.replicate_succ,offL,Option.map_eq_some_iff]at h
  obtain⟨m',h',rfl⟩:=h
  obtain⟨h1,h2⟩:=jhc h'
  refine⟨by omega, ?_⟩
  rw[h2,Nat.succ_mul];omega
theorem jhy (hA:CfgOk P A){o:Oper}{T:TypeId}{x i:Operand}{t:Ty}{f fi:Fl}{n:Nat}{kd:IntKind}{j:Int}{k:St→Option ρ}{r:ρ}(ho:o.op = .indexAddr T x i) (hT:A.arrs T=some (t,f,n)) (h:Inv c own [] st a w)
  (hi:opd st i = .val (.int kd) fi j) (hj:0≤j∧j<n) (hk:fieldAddrK (List.replicate n (t,f)) st (opd st x) j.toNat (fun v=>k (st.putO o.dst v))=some r):OpGoal P c o k r a w:=by
 have hiv:=jt h i
 rw[hi]at hiv
 refine jhg h (fun b off m hv hm => ?_) hk
 obtain⟨_,_,e,je,_,_,hu,_,h1,h2,h3,_⟩:=hA.arrs T t f n hT
 obtain⟨_,hm2⟩:=jhc hm
 unfold execOp
 simp only[ho,hv,hiv.int,Instr.indexAt,asIntOf,Sem.run_bind,Sem.run_pure,Result.andThen_ok,run_underlying hu,Instr.sureAddr,if_pos hj,sizeOf,typeInfo,run_program,h1,jej,h2,hm2]
theorem jkv {place:Nat→Option (Nat×Nat)}{n off size:Nat}{v:Value}{rest:List (Nat×Value)}{pre cs z:List Value}(hp:place n=some (off,size)) (hv:v.cells.toList=cs) (hl:cs.length=size) (hpre:pre.length=off) (hz:size≤z.length) :
  Instr.fill place (pre++z).toArray ((n,v)::rest)=Instr.fill place (pre++cs++z.drop size).toArray rest:=by
 have hvs:v.cells.size=size:=by rw[←Array.length_toList,hv,hl]
 have hfit:off+v.cells.size≤(pre++z).toArray.size:=by simp;omega
 have hz2:=jbm off v.cells.toList 0 (pre++z).toArray (by simpa using hfit)
 have hstep:(v.cells.zipIdx.foldl (fun cs (q:Value×Nat)=>cs.setIfInBounds (off+q.2) q.1) (pre++z).toArray)=((v.cells.toList.zipIdx 0).foldl (fun cs (q:Value×Nat)=>cs.setIfInBounds (off+q.2) q.1) (pre++z).toArray):=by
  rw[←Array.foldl_toList]
  simp
 simp only[Instr.fill,hp]
 rw[if_neg (by simp only[hvs,ne_eq,not_true_eq_false,decide_false,Bool.false_or,decide_eq_true_eq];rw[hvs]at hfit;omega)]
 congr 1
 apply Array.ext'
 refine(congrArg Array.toList hstep).trans (hz2.trans ?_)
 simp only[Nat.add_zero,List.size_toArray,hv,hl]
 rw[←hpre]
 simp[List.drop_append]
theorem jbs:∀{ts:List (Ty×Fl)}{ps:List (Nat×Operand)}{n:Nat}{own:Nat→List Nat}{E:List Nat}{st:St}{k:St→(t:Ty)→Fl→t.den→Option ρ}{r:ρ},(∀q∈ts,(∀m,q.1 ≠ .any m)∧(∀u,q.1 ≠ .tup u)) →
  Inv c own E st a w→fieldsK st ps ts n k=some r →
  ∃own' F st' t f x cs,k st' t f x=some r∧Inv c own' (F++E) st' a w∧t.isAgg=true∧Rep w (NB c own' (F++E) w) t f x cs F∧(∀b,NB c own E w b→NB c own' (F++E) w b) ∧
   ∀(place:Nat→Option (Nat×Nat)) (off:Nat) (pre z:List Value),pre.length=off→ZOk ts z→PlOk place n off ts→Instr.fill place (pre++z).toArray (ps.map fun p=>(p.1,a.eval p.2))=some (pre++cs).toArray
 | [],[],n,own,E,st,k,r,_,h,hk=>by
  simp only[fieldsK]at hk
  refine⟨own,[],st,.unit,.i,(),[],hk,by simpa using h,rfl,⟨rfl,rfl⟩,fun b hb=>by simpa using hb,fun place off pre z _ hz _ => ?_⟩
  simp only[ZOk]at hz
  subst hz
  rfl
 | [],p::ps,n,own,E,st,k,r,_,h,hk=>by simp[fieldsK]at hk
 | (t,f)::ts,ps,n,own,E,st,k,r,hts,h,hk=>by
  have hts':∀q∈ts,(∀m,q.1 ≠ .any m)∧(∀u,q.1 ≠ .tup u):=fun q hq=>hts q (List.mem_cons_of_mem _ hq)
  have ht:(∀m,t ≠ .any m)∧(∀u,t ≠ .tup u):=hts (t,f) List.mem_cons_self
  have zero:t.hasZero=true→fieldsK st ps ts (n+1) (fun st'' u h y=>k st'' (.pair t u) (Fl.mkP f h) (zeroTy t,y))=some r →
    ∃own' F st' t' f' x cs,k st' t' f' x=some r∧Inv c own' (F++E) st' a w∧t'.isAgg=true∧Rep w (NB c own' (F++E) w) t' f' x cs F∧(∀b,NB c own E w b→NB c own' (F++E) w b) ∧
    ∀(place:Nat→Option (Nat×Nat)) (off:Nat) (pre z:List Value),pre.length=off→ZOk ((t,f)::ts) z→PlOk place n off ((t,f)::ts)→Instr.fill place (pre++z).toArray (ps.map fun p=>(p.1,a.eval p.2))=some (pre++cs).toArray:=by
   intro hz0 hk
   obtain⟨own',F,st',u,g,y,cs,hk,h1,h2,h3,h4,h5⟩:=jbs hts' h hk
   have hzr:=jbc (w:=w) (N:=NB c own' (F++E) w) (t:=t) (f:=f) hz0
   have hzl:=hzr.len
   refine⟨own',F,st',_,_,_,zc t++cs,hk,h1,rfl, ?_,h4,fun place off pre z hpre hz hpl => ?_⟩
   ·rw[Rep.mkP]
    refine⟨[],F,rfl,by simp;omega, ?_, ?_⟩
    ·rw[←hzl,List.take_left']
     ·exact hzr
     ·rfl
    ·rw[←hzl,List.drop_left']
     ·exact h3
     ·rfl
   ·simp only[ZOk]at hz
    simp only[PlOk]at hpl
    have:=h5 place (off+t.cells) (pre++zc t) (z.drop t.cells) (by simp[hpre];omega) hz.2.2 hpl.2
    rw[List.append_assoc,←hz.2.1 hz0,List.take_append_drop]at this
    rw[this,hz.2.1 hz0,List.append_assoc]
  match ps,hk,zero with
  | [],hk,zero =>
   simp only[fieldsK]at hk
   split at hk
   ·rename_i hz0;exact zero hz0 hk
   ·cases hk
  | (i,o)::ps,hk,zero =>
   simp only[fieldsK]at hk
   split at hk
   ·rename_i hin
    subst hin
    obtain⟨own1,F1,st1,g,x,cs1,hk,h1,hh,hr1,hN1⟩:=jaf h ht.2 (jt h o) hk
    obtain⟨own2,F2,st2,u,g2,y,cs2,hk,h2,hag,hr2,hN2,hfill⟩:=jbs hts' h1 hk
    have hsub:∀b∈F1++F2++E,b∈F2++(F1++E):=by intro b hb;simp at hb ⊢;rcases hb with hb|hb|hb<;>simp[hb]
    refine⟨own2,F1++F2,st2,_,_,_,cs1++cs2,hk,h2.hand hsub ?_,rfl, ?_,fun b hb=>(hN2 b (hN1 b hb)).hand hsub,fun place off pre z hpre hz hpl => ?_⟩
    ·rw[List.append_assoc]
     exact(List.perm_append_comm_assoc F2 F1 E).nodup h2.ndE
    ·rw[Rep.mkP]
     have hl:=hr1.len
     refine⟨F1,F2,rfl,by simp;omega, ?_, ?_⟩
     ·rw[←hl,List.take_left']
      ·exact hr1.mono (fun b hb=>⟨(hN2 b hb).hand hsub,rfl⟩) fun _ _=>rfl
      ·rfl
     ·rw[←hl,List.drop_left']
      ·exact hr2.mono (fun b hb=>⟨hb.hand hsub,rfl⟩) fun _ _=>rfl
      ·rfl
    ·simp only[ZOk]at hz
     simp only[PlOk]at hpl
     have hcs:=hh.cells ht.1 hr1
     simp only[List.map_cons]
     rw[jkv hpl.1 hcs hr1.len hpre hz.1]
     have:=hfill place (off+t.cells) (pre++cs1) (z.drop t.cells) (by simp[hpre,hr1.len]) hz.2.2 hpl.2
     rw[this,List.append_assoc]
   ·split at hk
    ·rename_i hz0;exact zero hz0 hk
    ·cases hk
theorem FlOk.places:∀{fls:List Field}{off:Nat}{fts:List (Ty×Fl)}{sz:Field→Nat}{place:Nat→Option (Nat×Nat)}{n:Nat},FlOk P fls off fts→(∀fl j,P.info? fl.type=some j→sz fl=j.size)→(∀i fl,fls[i]? = some fl→place (n+i)=some (fl.offset,sz fl))→PlOk place n off fts
 | [],_,[],_,_,_,_,_,_=>trivial
 | [],_,_::_,_,_,_,h,_,_=>h.elim
 | _::_,_,[],_,_,_,_,_,_=>trivial
 | fl::fls,off,(t,g)::ts,sz,place,n,⟨h1,h2,⟨j,h3,h3'⟩,h4⟩,hsz,hp=>by
  refine⟨?_,h4.places (sz:=sz) hsz fun i fl' hi => ?_⟩
  ·have:=hp 0 fl rfl
   rw[Nat.add_zero,h1,hsz fl j h3,h3']at this
   exact this
  ·have:=hp (i+1) fl' (by simpa using hi)
   rw[Nat.add_assoc,Nat.add_comm 1];exact this
theorem jle {α β:Type}{f:α→Sem β}{g:α→β}{as:Array α}(h:∀x∈as.toList,(f x).run P w = .ok (g x) w):(as.mapM f).run P w = .ok (as.toList.map g).toArray w:=by
 have key:∀l:List α,(∀x∈l,(f x).run P w = .ok (g x) w)→(l.mapM f).run P w = .ok (l.map g) w:=by
  intro l
  induction l with
  | nil=>intro _;rfl
  | cons x l ih =>
   intro h
   simp only[List.mapM_cons,Sem.run_bind,h x (by simp),Result.andThen_ok,ih fun y hy=>h y (by simp[hy]),Sem.run_pure,List.map_cons]
 rw[Array.mapM_eq_mapM_toList,map_eq_pure_bind]
 simp only[Sem.run_bind,key _ h,Result.andThen_ok,Sem.run_pure]
theorem FlOk.sizes:∀{fls:List Field}{off:Nat}{fts:List (Ty×Fl)},FlOk P fls off fts→∀fl∈fls,∃j,P.info? fl.type=some j
 | [],_,_,_=>by simp
 | _::_,_,[],h=>h.elim
 | fl::fls,off,(t,g)::ts,⟨_,_,⟨j,h3,_⟩,h4⟩=>by
  intro fl' h
  rcases List.mem_cons.1 h with rfl|h
  ·exact⟨j,h3⟩
  ·exact h4.sizes fl' h
theorem jkr (hA:CfgOk P A){o:Oper}{T:TypeId}{ps:Array (Nat×Operand)}{fts:List (Ty×Fl)}{k:St→Option ρ}{r:ρ}(ho:o.op = .build T ps) (hT:A.flds T=some fts) (h:Inv c own [] st a w)
  (hk:fieldsK st ps.toList fts 0 (fun st' t f x=>k (st'.putO o.dst (.val t f x)))=some r):OpGoal P c o k r a w:=by
 obtain⟨i,z,fields,h1,h2,hu,hz,hfl,hts⟩:=hA.flds T fts hT
 obtain⟨own',F,st',t,f,x,cs,hk,hinv,hag,hrep,hN,hfill⟩:=jbs hts h hk
 rw[List.append_nil]at hinv hrep
 have hh:Holds t (.agg cs.toArray) cs:=by cases t<;>simp_all [Ty.isAgg,Holds]
 refine qq hinv (v := .val t f x) (value := .agg cs.toArray) ?_ (.inl ⟨cs,hh,hrep⟩) hk
 have hpl:PlOk (fun i=>((fields.toList.map fun fl=>(fl.offset,((P.info? fl.type).map (·.size)).getD 0)).toArray)[i]?) 0 0 fts:=by
  refine hfl.places (sz:=fun fl=>((P.info? fl.type).map (·.size)).getD 0) (fun fl j hj=>by simp[hj]) fun i fl hi => ?_
  simp only[Nat.zero_add,List.getElem?_toArray,List.getElem?_map,hi,Option.map_some]
 have hfill:=hfill _ 0 [] z.cells.toList rfl hz hpl
 simp only[List.nil_append]at hfill
 have hmap:=jle (P:=P) (w:=w) (as:=fields) (f:=fun f=>do pure (f.offset,←sizeOf f.type)) (g:=fun fl=>(fl.offset,((P.info? fl.type).map (·.size)).getD 0)) (fun fl hfl'=>by
  obtain⟨j,hj⟩:=hfl.sizes fl hfl'
  simp only[Sem.run_bind,sizeOf,typeInfo,run_program,Result.andThen_ok,hj,Sem.run_pure,Option.map_some,Option.getD_some])
 have hps:(Array.map (fun p:Nat×Operand=>(p.1,a.eval p.2)) ps).toList=ps.toList.map fun p=>(p.1,a.eval p.2):=by simp
 unfold execOp
 simp only[ho,Instr.build,Sem.run_bind,zeroValue,typeInfo,run_program,Result.andThen_ok,h1,h2,Sem.run_pure,run_underlying hu,hmap,hps,hfill]
theorem PlOk.rep {t:Ty}{f:Fl}:∀{n m:Nat},PlOk (fun i=>some (i*t.cells,t.cells)) m (m*t.cells) (List.replicate n (t,f))
 | 0,_=>trivial
 | n+1,m=>⟨rfl,by
  have:=PlOk.rep (t:=t) (f:=f) (n:=n) (m:=m+1)
  rw[Nat.succ_mul]at this
  exact this⟩
theorem jhz (hA:CfgOk P A){o:Oper}{T:TypeId}{ps:Array (Nat×Operand)}{t:Ty}{f:Fl}{n:Nat}{k:St→Option ρ}{r:ρ}(ho:o.op = .build T ps) (hT:A.arrs T=some (t,f,n)) (h:Inv c own [] st a w)
  (hk:fieldsK st ps.toList (List.replicate n (t,f)) 0 (fun st' t f x=>k (st'.putO o.dst (.val t f x)))=some r):OpGoal P c o k r a w:=by
 obtain⟨i,z,e,j,h1,h2,hu,hz,hj,hjs,hpos,hna,hnt⟩:=hA.arrs T t f n hT
 obtain⟨own',F,st',t2,f2,x,cs,hk,hinv,hag,hrep,hN,hfill⟩:=jbs (fun q hq=>by rw[List.eq_of_mem_replicate hq];exact⟨hna,hnt⟩) h hk
 rw[List.append_nil]at hinv hrep
 have hh:Holds t2 (.agg cs.toArray) cs:=by cases t2<;>simp_all [Ty.isAgg,Holds]
 refine qq hinv (v := .val t2 f2 x) (value := .agg cs.toArray) ?_ (.inl ⟨cs,hh,hrep⟩) hk
 have hpl:PlOk (fun i=>some (i*t.cells,t.cells)) 0 0 (List.replicate n (t,f)):=by
  have:=PlOk.rep (t:=t) (f:=f) (n:=n) (m:=0)
  rw[Nat.zero_mul]at this
  exact this
 have hfill:=hfill _ 0 [] z.cells.toList rfl hz hpl
 simp only[List.nil_append]at hfill
 have hps:(Array.map (fun p:Nat×Operand=>(p.1,a.eval p.2)) ps).toList=ps.toList.map fun p=>(p.1,a.eval p.2):=by simp
 unfold execOp
 simp only[ho,Instr.build,Sem.run_bind,zeroValue,sizeOf,typeInfo,run_program,Result.andThen_ok,h1,h2,hj,hjs,Sem.run_pure,run_underlying hu,hps,hfill]
end
end Go.Gx
