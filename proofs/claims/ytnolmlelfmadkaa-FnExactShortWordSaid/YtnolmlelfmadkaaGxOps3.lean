import Derived.Test.YtnolmlelfmadkaaGxOps2
import Derived.Lib.Strings
set_option linter.unusedSimpArgs false
set_option linter.unusedVariables false
namespace Go.Gx
open Go
theorem RepL.drop {α:Type}{f:α→List Value→List Nat→Prop}{sz:Nat}:∀{n:Nat}{xs:List α}{cs:List Value},RepL f sz xs cs []→RepL f sz (xs.drop n) (cs.drop (n*sz)) []
 | 0,xs,cs,h=>by simpa using h
 | n+1,[],cs,h=>by simp[RepL]
 | n+1,x::xs,cs,⟨F1,F2,e,hl,hx,hr⟩=>by
  have e':=List.append_eq_nil_iff.1 e.symm
  rw[e'.2]at hr
  have:=RepL.drop (n:=n) hr
  rw[List.drop_drop]at this
  simpa [Nat.succ_mul,Nat.add_comm] using this
theorem RepL.take {α:Type}{f:α→List Value→List Nat→Prop}{sz:Nat}:∀{n:Nat}{xs:List α}{cs:List Value},RepL f sz xs cs []→RepL f sz (xs.take n) cs []
 | 0,xs,cs,h=>by simp[RepL]
 | n+1,[],cs,h=>by simp[RepL]
 | n+1,x::xs,cs,⟨F1,F2,e,hl,hx,hr⟩=>by
  have e':=List.append_eq_nil_iff.1 e.symm
  rw[e'.2]at hr
  rw[e'.1]at hx
  exact⟨[],[],rfl,hl,hx,RepL.take (n:=n) hr⟩
section
variable {P:Program} {A:Cfg} {c:Ctx} {own:Nat→List Nat} {st:St} {a:Act} {w:World} {ρ:Type}
def V.names (s:Nat):V→Prop
 | .ref r _ _=>r=s
 | .win r _ _ _=>r=s
 | _=>False
theorem jb0 {E:List Nat}(h:Inv c own E st a w){v:V}{value:Value}{k:(t:Ty)→Fl→t.den→Option ρ}{r:ρ}(hv:VOk w (NB c own E w) st a v value) (hk:fetch st v k=some r) :
  ∃t f x,k t f x=some r∧((∃u,t = .tup u)∨∃cs F0,Holds t value cs∧Rep w (NB c own E w) t f x cs F0∧(F0=[]∨∃s,v.names s∧∀b∈F0,b∈own s)):=by
 unfold fetch at hk
 split at hk
 ·rename_i t f x
  refine⟨t,f,x,hk, ?_⟩
  rcases hv.val with⟨cs,h1,h2⟩|⟨u,_,_,h1,_⟩
  ·exact .inr ⟨cs,[],h1,h2,.inl rfl⟩
  ·exact .inl ⟨u,h1⟩
 ·rename_i s p
  split at hk
  ·rename_i τ g y hs
   obtain⟨n,hg,hk⟩:=qx hk
   refine⟨n.1,n.2.1,n.2.2,hk, ?_⟩
   by_cases hn:∃u,n.1 = .tup u
   ·exact .inl hn
   ·obtain⟨cs,cs',l',hh,hrep,hat,hnm,F0,m0,r0⟩:=jb4 h hv.ref hs hg (fun u hu=>hn ⟨u,hu⟩)
    exact .inr ⟨cs',F0,hnm,r0,.inr ⟨s,rfl,m0⟩⟩
  ·cases hk
 ·cases hk
theorem jmo {N:Nat→Prop}{t:Ty}{f:Fl}{xs:List t.den}{cs:List Value}{F:List Nat}(h:Rep w N (.sl t) f xs cs F):∃ad cap,cs=[.slice ad xs.length cap]:=by
 simp only[Rep]at h
 split at h
 ·rcases h with⟨h1,h2,_⟩|⟨b,cap,_,_,_,h1,_⟩
  ·exact⟨none,0,by rw[h2,h1];rfl⟩
  ·exact⟨_,cap,h1⟩
 ·obtain⟨_,ad,cap,h1,_⟩:=h
  exact⟨ad,cap,h1⟩
theorem jbt (hA:CfgOk P A){T:TypeId}(h:(A.elem T).isSome=true):∃e,P.underlying T=some (.slice e):=by
 obtain⟨⟨t,f⟩,ht⟩:=Option.isSome_iff_exists.1 h
 obtain⟨e,i,hu,_⟩:=hA.elem T t f ht
 exact⟨e,hu⟩
theorem jc4 (hA:CfgOk P A){T:TypeId}{f:Fl}(h:A.ty T=some (.str,f)):P.underlying T=some .string:=by
 obtain⟨i,z,d,h1,h2,h3,h4,h5,h6,h7,h8,_⟩:=hA.ty T _ f h
 rw[h8 rfl]at h5
 exact h5
theorem jmm (hA:CfgOk P A){o:Oper}{cc:Call}{x:Operand}{T:TypeId}{k:St→Option ρ}{r:ρ}(ho:o.op = .call cc) (hc:cc.callee = .builtin .len) (hx:cc.args.toList=[x]) (hT:cc.argTypes.toList=[T]) (h:Inv c own [] st a w)
  (hk:(match opd st x with
    | .nilS=>if(A.elem T).isSome then k (st.putO o.dst (.val (.int .i64) .i (0:Int))) else none
    | v=>fetch st v fun t _ e=>lenK A T t e fun n=>k (st.putO o.dst (.val (.int .i64) .i n)))=some r):OpGoal P c o k r a w:=by
 have hxv:=jt h x
 have hargs:cc.args = #[x]:=by rw[←Array.toArray_toList (xs:=cc.args),hx]
 have hats:cc.argTypes = #[T]:=by rw[←Array.toArray_toList (xs:=cc.argTypes),hT]
 obtain⟨callee,args,argTypes⟩:=cc
 simp only at hc hargs hats
 subst hc hargs hats
 have fin:∀n:Int,((Builtin.len_ #[T] o.type #[a.eval x]).run P w = .ok (.int .i64 n) w)→k (st.putO o.dst (.val (.int .i64) .i n))=some r→OpGoal P c o k r a w:=by
  intro n hrun hk
  refine ji h (v := .val (.int .i64) .i n) (value := .int .i64 n) ?_ (qz _ _) hk
  unfold execOp
  simp only[ho,resolve,invoke,builtin,Sem.run_bind,Sem.run_pure,Result.andThen_ok,List.map_toArray,List.map_cons,List.map_nil,hrun]
 split at hk
 ·rename_i hx0
  rw[hx0]at hxv
  split at hk
  ·rename_i he
   obtain⟨e,hu⟩:=jbt hA he
   rcases hxv with hv|hv
   ·cases hv
   ·refine fin 0 ?_ hk
    simp only[Builtin.len_,hv.2,Sem.run_bind,run_underlying hu,Result.andThen_ok,goInt]
    simp[run_underlying hu,Sem.run_pure]
  ·cases hk
 ·obtain⟨t,f,e,hk,ht⟩:=jb0 h hxv hk
  rcases ht with⟨u,rfl⟩|⟨cs,F0,hh,hrep,_⟩
  ·simp[lenK]at hk
  ·cases t with
   | sl t =>
    simp only[lenK]at hk
    split at hk
    ·rename_i he
     obtain⟨e',hu⟩:=jbt hA he
     obtain⟨ad,cap,h1⟩:=jmo hrep
     simp only[Holds]at hh
     rw[hh]at h1
     simp only[List.cons.injEq,and_true]at h1
     refine fin _ ?_ hk
     simp[Builtin.len_,h1,run_underlying hu,Sem.run_pure,goInt]
    ·cases hk
   | str =>
    simp only[lenK]at hk
    split at hk
    ·rename_i he
     have hu:=jc4 hA he
     simp only[Holds]at hh
     simp only[Rep]at hrep
     rw[hh]at hrep
     have h1:=hrep.1
     simp only[List.cons.injEq,and_true]at h1
     refine fin _ ?_ hk
     have hsz:(⟨e.toArray⟩:ByteArray).size=e.length:=by simp[ByteArray.size]
     simp only[Builtin.len_,h1]
     simp[run_underlying hu,Sem.run_pure,goInt,hsz]
    ·cases hk
   | _=>simp[lenK]at hk
theorem jet {α:Type}{xs ys:List α}{lo hi:Int}(h:slI xs lo hi=some ys):0≤lo∧lo≤hi∧hi≤(xs.length:Nat)∧ys=(xs.drop lo.toNat).take (hi-lo).toNat:=by
 unfold slI at h
 split at h
 ·rename_i h0
  simp only[Option.some.injEq]at h
  exact⟨h0.1,h0.2.1,h0.2.2,h.symm⟩
 ·cases h
theorem qt (k:IntKind) (i:Int) (y:Nat) (cd:BoundsCode) (h0:0≤i) (h1:i≤(y:Nat)):(Instr.sliceBound (.int k i) y cd).run P w = .ok i.toNat w:=by
 simp[Instr.sliceBound,asIntOf,h0,h1,Sem.run_pure]
def CutOk (a:Act) (lo hi:Option Operand) (n:Nat) (l h:Int):Prop :=
 (match lo with|none=>l=0|some x=>∃k,a.eval x = .int k l)∧(match hi with|none=>h=(n:Nat)|some x=>∃k,a.eval x = .int k h)
theorem jcv {lo hi:Option Operand}{n cap:Nat}{l h:Int}(b:Bool) (hc:CutOk a lo hi n l h) (h0:0≤l) (h1:l≤h) (h2:h≤(n:Nat)) (h3:n≤cap) :
  (Instr.sliceBounds b n cap (lo.map a.eval) (hi.map a.eval) none).run P w = .ok (l.toNat,h.toNat,cap) w:=by
 obtain⟨c1,c2⟩:=hc
 cases hi with
 | none =>
  simp only at c2
  cases lo with
  | none =>
   simp only at c1
   subst c1 c2
   simp[Instr.sliceBounds,Sem.run_pure]
  | some x =>
   obtain⟨k,hx⟩:=c1
   simp only[Instr.sliceBounds,Option.map_some,Option.map_none,hx,Sem.run_bind,Sem.run_pure,Result.andThen_ok,qt k l n _ h0 (by omega),Option.isSome_none]
   simp[c2,qt k l n _ h0 (by omega),Sem.run_pure]
 | some y =>
  obtain⟨k',hy⟩:=c2
  cases lo with
  | none =>
   simp only at c1
   subst c1
   simp[Instr.sliceBounds,hy,qt k' h cap _ (by omega) (by omega),Sem.run_pure]
  | some x =>
   obtain⟨k,hx⟩:=c1
   simp[Instr.sliceBounds,hx,hy,qt k' h cap _ (by omega) (by omega),qt k l h.toNat _ h0 (by omega),Sem.run_pure]
theorem jgs {E:List Nat}(h:Inv c own E st a w){lo hi:Option Operand}{n:Nat}{F:Int→Int→Option ρ}{r:ρ}
  (hk:(match lo.map (opd st),hi.map (opd st) with
   | none,none=>F 0 (n:Nat)
   | some (.val (.int _) _ a),none=>F a (n:Nat)
   | none,some (.val (.int _) _ b)=>F 0 b
   | some (.val (.int _) _ a),some (.val (.int _) _ b)=>F a b
   | _,_=>none)=some r):∃l u,F l u=some r∧CutOk a lo hi n l u:=by
 cases lo with
 | none =>
  cases hi with
  | none=>exact⟨0,_,hk,rfl,rfl⟩
  | some y =>
   have hyv:=jt h y
   simp only[Option.map_none,Option.map_some]at hk
   split at hk
   ·rename_i hh;cases hh
   ·rename_i hh;cases hh
   ·rename_i kd f b hx hy
    simp only[Option.some.injEq]at hy
    rw[hy]at hyv
    exact⟨0,_,hk,rfl,kd,hyv.int⟩
   ·rename_i hh _;cases hh
   ·cases hk
 | some x =>
  have hxv:=jt h x
  cases hi with
  | none =>
   simp only[Option.map_none,Option.map_some]at hk
   split at hk
   ·rename_i hh _;cases hh
   ·rename_i kd f b hx _
    simp only[Option.some.injEq]at hx
    rw[hx]at hxv
    exact⟨b,_,hk,⟨kd,hxv.int⟩,rfl⟩
   ·rename_i hh _;cases hh
   ·rename_i hh;cases hh
   ·cases hk
  | some y =>
   have hyv:=jt h y
   simp only[Option.map_some]at hk
   split at hk
   ·rename_i hh _;cases hh
   ·rename_i hh;cases hh
   ·rename_i hh _;cases hh
   ·rename_i kd f b kd' f' b' hx hy
    simp only[Option.some.injEq]at hx hy
    rw[hx]at hxv
    rw[hy]at hyv
    exact⟨b,b',hk,⟨kd,hxv.int⟩,kd',hyv.int⟩
   ·cases hk
theorem jl9 {N:Nat→Prop}{t:Ty}{xs ys:List t.den}{value:Value}{l u:Int}(h:Rep w N (.sl t) .i xs [value] []) (hy:slI xs l u=some ys) :
  ∃ad cap,value = .slice ad xs.length cap∧xs.length≤cap∧Rep w N (.sl t) .i ys [.slice (if cap=l.toNat then ad else ad.map (·.add (l.toNat*t.cells))) (u.toNat-l.toNat) (cap-l.toNat)] []:=by
 obtain⟨h0,h1,h2,h3⟩:=jet hy
 simp only[Rep]at h ⊢
 obtain⟨_,ad,cap,g1,g2,g3,g4⟩:=h
 simp only[List.cons.injEq,and_true]at g1
 have hlen:ys.length=u.toNat-l.toNat:=by rw[h3];simp;omega
 refine⟨ad,cap,g1,g2,trivial,_,_,by rw[hlen],by omega,by omega,fun hne => ?_⟩
 have hx:xs≠[]:=by rintro rfl;rw[h3]at hne;simp at hne
 obtain⟨b,off,arr,e,fr,g5,g6,g7,g8⟩:=g4 hx
 have hpos:0<ys.length:=List.length_pos_iff.2 hne
 rw[if_neg (by omega),g5]
 refine⟨b,off+l.toNat*t.cells,arr,e,fr, ?_,g6,g7, ?_⟩
 ·simp only[Option.map_some,Option.some.injEq,Addr.add]
  split<;>simp_all
 ·rw[h3,←List.drop_drop]
  exact g8.drop.take
theorem jhr (hA:CfgOk P A){o:Oper}{T:TypeId}{x:Operand}{lo hi:Option Operand}{k:St→Option ρ}{r:ρ}(ho:o.op = .slice T x lo hi none) (h:Inv c own [] st a w)
  (T':Option Ty) (hT:match T' with|some t=>∃f,A.elem T=some (t,f)|none=>∃f,A.ty T=some (.str,f)) (hk:sliceK T' (opd st x) (lo.map (opd st)) (hi.map (opd st)) (fun v=>k (st.putO o.dst v))=some r):OpGoal P c o k r a w:=by
 have hxv:=jt h x
 unfold sliceK at hk
 simp only at hk
 split at hk
 ·rename_i t f xs hx
  rw[hx]at hxv
  split at hk
  ·rename_i hTt
   subst hTt
   obtain⟨ft,hT⟩:=hT
   obtain⟨e,i,hu,hty,_⟩:=hA.elem T t ft hT
   obtain⟨l,u,hk,hcut⟩:=jgs (n:=xs.length) (F:=fun a b=>(slI xs a b).bind fun ys=>k (st.putO o.dst (.val (.sl t) .i ys))) h hk
   cases hy:slI xs l u with
   | none=>rw[hy]at hk;cases hk
   | some ys =>
    rw[hy]at hk
    simp only[Option.bind_some]at hk
    obtain⟨cs,hh,hrep⟩:=hxv.rep (by intro u hu;cases hu)
    simp only[Holds]at hh
    subst hh
    obtain⟨ad,cap,g1,g2,g3⟩:=jl9 hrep.asPlain hy
    obtain⟨h0,h1,h2,_⟩:=jet hy
    refine ji h (v := .val (.sl t) .i ys) ?_ (.inl ⟨_,rfl,g3⟩) hk
    unfold execOp
    simp only[ho,Instr.sliceAt,Instr.slice,Option.map_none,Sem.run_bind,run_underlying hu,Result.andThen_ok,g1,jcv true hcut h0 h1 h2 g2,jai hty,Sem.run_pure]
  ·cases hk
 ·rename_i f xs hx
  rw[hx]at hxv
  split at hk
  ·rename_i hTt
   subst hTt
   obtain⟨ft,hT⟩:=hT
   have hu:=jc4 hA hT
   obtain⟨l,u,hk,hcut⟩:=jgs (n:=xs.length) (F:=fun a b=>(slI xs a b).bind fun ys=>k (st.putO o.dst (.val .str .i ys))) h hk
   cases hy:slI xs l u with
   | none=>rw[hy]at hk;cases hk
   | some ys =>
    rw[hy]at hk
    simp only[Option.bind_some]at hk
    obtain⟨h0,h1,h2,h3⟩:=jet hy
    have hsz:(⟨xs.toArray⟩:ByteArray).size=xs.length:=by simp[ByteArray.size]
    refine ji h (v := .val .str .i ys) (value := .string ((⟨xs.toArray⟩:ByteArray).extract l.toNat u.toNat)) ?_ (.inl ⟨_,rfl, ?_⟩) hk
    ·unfold execOp
     simp only[ho,Instr.sliceAt,Instr.slice,Option.map_none,Sem.run_bind,run_underlying hu,Result.andThen_ok,hxv.str,hsz,jcv false hcut h0 h1 h2 (Nat.le_refl _),Sem.run_pure,Option.isSome_none,Bool.false_eq_true,if_false]
    ·simp only[Rep,and_true]
     congr 2
     apply ByteArray.ext
     apply Array.ext'
     rw[Go.Lib.extract_data,h3]
     have:u.toNat-l.toNat=(u-l).toNat:=by omega
     rw[this]
  ·cases hk
 ·cases hk
theorem jk0 (hA:CfgOk P A){o:Oper}{T:TypeId}{x i:Operand}{k:St→Option ρ}{r:ρ}{ft f1 f2:Fl}{xs:List UInt8}{kd:IntKind}{n:Int}(ho:o.op = .index T x i) (h:Inv c own [] st a w) (hT:A.ty T=some (.str,ft))
  (hx:opd st x = .val .str f1 xs) (hi:opd st i = .val (.int kd) f2 n) (hk:((atI xs n).bind fun b=>k (st.putO o.dst (.val (.int .u8) .i (b.toNat:Int))))=some r):OpGoal P c o k r a w:=by
 have hxv:=jt h x
 have hiv:=jt h i
 rw[hx]at hxv
 rw[hi]at hiv
 have hu:=jc4 hA hT
 cases hat:atI xs n with
 | none=>rw[hat]at hk;cases hk
 | some b =>
  rw[hat]at hk
  simp only[Option.bind_some]at hk
  obtain⟨h0,h1,h2⟩:=jem hat
  refine ji h (v := .val (.int .u8) .i _) (value := .int .u8 b.toNat) ?_ (qz _ _) hk
  unfold execOp
  have hg:(⟨xs.toArray⟩:ByteArray)[n.toNat]? = some b:=by
   rw[←h2]
   have hlt:n.toNat<xs.length:=(List.getElem?_eq_some_iff.1 h2).1
   have hlt':n.toNat<(⟨xs.toArray⟩:ByteArray).size:=by simpa [ByteArray.size] using hlt
   show(if _:_ then _ else _)=_
   rw[dif_pos hlt',List.getElem?_eq_getElem hlt]
   rfl
  simp only[ho,Instr.index,hxv.str,hiv.int,asIntOf,Sem.run_bind,run_underlying hu,Result.andThen_ok,Sem.run_pure,h0,if_true,hg]
end
end Go.Gx
