import Derived.Test.YtnolmlelfmadkaaGxOps
set_option linter.unusedSimpArgs false
set_option linter.unusedVariables false
namespace Go.Gx
open Go
section
variable {P:Program} {A:Cfg} {c:Ctx} {own:Nat→List Nat} {st:St} {a:Act} {w:World} {ρ:Type}
theorem jjr (hA:CfgOk P A){T:TypeId}(h:isBoolTy (A.ty T)=true):P.underlying T=some .bool:=by
 cases ht:A.ty T with
 | none=>rw[ht]at h;cases h
 | some tf =>
  obtain⟨t,f⟩:=tf
  rw[ht]at h
  cases t<;>simp[isBoolTy]at h
  obtain⟨i,z,d,h1,h2,h3,h4,h5,h6,h7,_⟩:=hA.ty T _ f ht
  rw[h7 rfl]at h5
  exact h5
theorem jkg (x y:List UInt8):((⟨x.toArray⟩:ByteArray).toList==(⟨y.toArray⟩:ByteArray).toList)=decide (x=y):=by
 rw[ByteArray.toList_mk,ByteArray.toList_mk,Bool.eq_iff_iff]
 simp
theorem jhn (T:TypeId) (m n:Bool) (h:P.underlying T=some .bool):(binOp .eql T (.bool m) (.bool n)).run P w = .ok (.bool (m==n)) w:=by
 have h1:(Op.equal T (.bool m) (.bool n)).run P w = .ok (m==n) w:=run_equalIn_bool w 9999 T m n h
 simp only[binOp,Sem.run_bind,h1,Result.andThen_ok,Sem.run_pure]
theorem jho (T:TypeId) (m n:Bool) (h:P.underlying T=some .bool):(binOp .neq T (.bool m) (.bool n)).run P w = .ok (.bool (m != n)) w:=by
 have h1:(Op.equal T (.bool m) (.bool n)).run P w = .ok (m==n) w:=run_equalIn_bool w 9999 T m n h
 simp only[binOp,Sem.run_bind,h1,Result.andThen_ok,Sem.run_pure]
 rfl
theorem jcn (op:BinOp) (T:TypeId) (x y:Operand) (k j:IntKind) (m n:Int):(eqGuard op T x y (.int k m) (.int j n)).run P w = .ok () w:=by
 unfold eqGuard
 split<;>simp[Sem.run_pure]
theorem jdj (op:BinOp) (T:TypeId) (x y:Operand) (m n:Bool):(eqGuard op T x y (.bool m) (.bool n)).run P w = .ok () w:=by
 unfold eqGuard
 split<;>simp[Sem.run_pure]
theorem jco (op:BinOp) (T:TypeId) (x y:Operand) (m n:ByteArray):(eqGuard op T x y (.string m) (.string n)).run P w = .ok () w:=by
 unfold eqGuard
 split<;>simp[Sem.run_pure]
theorem jbp {T e:TypeId}(hu:P.underlying T=some (.slice e)) (d:Nat) (q:Option Addr) (l n:Nat):(Op.equalIn (d+1) T (.slice q l n) (.slice none 0 0)).run P w = .ok q.isNone w:=by
 cases q<;>simp[Op.equalIn,Sem.run_bind,run_underlying hu,Result.andThen_ok,Sem.run_pure]
theorem jeo {N:Nat→Prop}:∀{t:Ty}{f:Fl}{x:t.den},t.flat=true→Rep w N t f x (flatV t x) []
 | .int _,_,_,_=>⟨rfl,rfl⟩
 | .bool,_,_,_=>⟨rfl,rfl⟩
 | .str,_,_,_=>⟨rfl,rfl⟩
 | .unit,_,_,_=>⟨rfl,rfl⟩
 | .pair a b,f,x,h=>by
  simp only[Ty.flat,Bool.and_eq_true]at h
  have h1:=jeo (N:=N) (f:=f.l) (x:=x.1) h.1
  have h2:=jeo (N:=N) (f:=f.r) (x:=x.2) h.2
  have hl:=h1.len
  simp only[Rep,flatV]
  refine⟨[],[],rfl,by simp[hl], ?_, ?_⟩
  ·rw[List.take_append_of_le_length (by omega),List.take_of_length_le (by omega)];exact h1
  ·rw[List.drop_append_of_le_length (by omega),List.drop_eq_nil_of_le (by omega)];exact h2
 | .any _,_,_,h=>by simp[Ty.flat]at h
 | .tup _,_,_,h=>by simp[Ty.flat]at h
 | .sl _,_,_,h=>by simp[Ty.flat]at h
 | .ptr _,_,_,h=>by simp[Ty.flat]at h
 | .opt _,_,_,h=>by simp[Ty.flat]at h
 | .ns _,_,_,h=>by simp[Ty.flat]at h
 | .clo _ _ _,_,_,h=>by simp[Ty.flat]at h
 | .map _ _,_,_,h=>by simp[Ty.flat]at h
theorem jc1 {N:Nat→Prop}:∀{t:Ty}{f:Fl}{x:t.den}{cs:List Value}{F:List Nat},t.flat=true→Rep w N t f x cs F→cs=flatV t x
 | .int _,_,_,_,_,_,h=>h.1
 | .bool,_,_,_,_,_,h=>h.1
 | .str,_,_,_,_,_,h=>h.1
 | .unit,_,_,_,_,_,h=>h.1
 | .pair a b,f,x,cs,F,hf,h=>by
  simp only[Ty.flat,Bool.and_eq_true]at hf
  simp only[Rep]at h
  obtain⟨F1,F2,_,hl,h1,h2⟩:=h
  have e1:=jc1 hf.1 h1
  have e2:=jc1 hf.2 h2
  simp only[flatV]
  rw[←e1,←e2,List.take_append_drop]
 | .any _,_,_,_,_,h,_=>by simp[Ty.flat]at h
 | .tup _,_,_,_,_,h,_=>by simp[Ty.flat]at h
 | .sl _,_,_,_,_,h,_=>by simp[Ty.flat]at h
 | .ptr _,_,_,_,_,h,_=>by simp[Ty.flat]at h
 | .opt _,_,_,_,_,h,_=>by simp[Ty.flat]at h
 | .ns _,_,_,_,_,h,_=>by simp[Ty.flat]at h
 | .clo _ _ _,_,_,_,_,h,_=>by simp[Ty.flat]at h
 | .map _ _,_,_,_,_,h,_=>by simp[Ty.flat]at h
theorem jkw {t:Ty}{x:t.den}(h:t.flat=true):Holds t (one t x) (flatV t x):=by
 cases t<;>simp_all [Ty.flat,Holds,one,flatV]
theorem jc2 {N:Nat→Prop}{t:Ty}{f:Fl}{x:t.den}{v:Value}{cs:List Value}{F:List Nat}(h:t.flat=true) (hh:Holds t v cs) (hr:Rep w N t f x cs F):v=one t x:=by
 have e:=jc1 h hr
 subst e
 cases t<;>simp_all [Ty.flat,Holds,one,flatV]
theorem jfl {N:Nat→Prop}{t:Ty}{x:t.den}(h:t.flat=true):RepS w N t .i x (one t x) []:=⟨_,jkw h,jeo h⟩
theorem jkp (hA:CfgOk P A){o:Oper}{op:BinOp}{T T':TypeId}{x y:Operand}{k:St→Option ρ}{r:ρ}(ho:o.op = .binOp op T x y T') (h:Inv c own [] st a w)
  (hk:binV (isBoolTy (A.ty T)) (A.elem T).isSome (arrT (A.arrs T)) op (opd st x) (opd st y) (fun v=>k (st.putO o.dst v))=some r):OpGoal P c o k r a w:=by
 have hxv:=jt h x
 have hyv:=jt h y
 unfold binV at hk
 split at hk
 ·rename_i j f1 m kd f2 n hx hy
  rw[hx]at hxv
  rw[hy]at hyv
  have sh:∀(z:Option Int),(binOp op T (.int j m) (.int kd n)).run P w=(match z with|some z => .ok (.int j z) w|none=>(binOp op T (.int j m) (.int kd n)).run P w)→z.bind (fun x=>k (st.putO o.dst (.val (.int j) .i x)))=some r→OpGoal P c o k r a w:=by
   intro z hz hk
   cases z with
   | none=>cases hk
   | some z =>
    refine ji h (v := .val (.int j) .i z) (value := .int j z) ?_ (qz _ _) hk
    unfold execOp
    simp only[ho,hxv.int,hyv.int,Sem.run_bind,jcn,hz,Result.andThen_ok,Sem.run_pure]
  split at hk
  ·refine sh _ ?_ hk
   unfold shlI
   by_cases hn:n<0
   ·simp[hn]
   ·simp[hn,binOp,Op.shift]
  ·refine sh _ ?_ hk
   unfold shrI
   by_cases hn:n<0
   ·simp[hn]
   ·simp[hn,binOp,Op.shift]
  split at hk
  ·rename_i hjk
   subst hjk
   obtain⟨v,value,hc,hrun,hs⟩:=jlr (P:=P) (w:=w) hk T
   refine ji h (v:=v) (value:=value) ?_ (hs _ _ _ _) hc
   unfold execOp
   simp only[ho,hxv.int,hyv.int,Sem.run_bind,jcn,hrun,Result.andThen_ok,Sem.run_pure]
  ·cases hk
 ·rename_i f1 m f2 n hx hy
  rw[hx]at hxv
  rw[hy]at hyv
  split at hk
  ·rename_i hb
   have hu:=jjr hA hb
   split at hk
   ·refine ji h (v := .val .bool .i _) (value := .bool _) ?_ (qd _) hk
    unfold execOp
    simp only[ho,hxv.bool,hyv.bool,Sem.run_bind,jdj,Result.andThen_ok,Sem.run_pure,jhn T _ _ hu]
   ·refine ji h (v := .val .bool .i _) (value := .bool _) ?_ (qd _) hk
    unfold execOp
    simp only[ho,hxv.bool,hyv.bool,Sem.run_bind,jdj,Result.andThen_ok,Sem.run_pure,jho T _ _ hu]
   ·cases hk
  ·cases hk
 ·rename_i f1 m f2 n hx hy
  rw[hx]at hxv
  rw[hy]at hyv
  split at hk
  ·refine ji h (v := .val .bool .i _) (value := .bool (decide (m=n))) ?_ (qd _) hk
   unfold execOp
   simp only[ho,hxv.str,hyv.str,Sem.run_bind,jco,Result.andThen_ok,Sem.run_pure,binOp,Op.stringOp,jkg]
  ·refine ji h (v := .val .bool .i _) (value := .bool (decide (m≠n))) ?_ (qd _) hk
   unfold execOp
   simp only[ho,hxv.str,hyv.str,Sem.run_bind,jco,Result.andThen_ok,Sem.run_pure,binOp,Op.stringOp,jkg,decide_not]
  ·cases hz:appI m n with
   | none=>rw[hz]at hk;cases hk
   | some z =>
    rw[hz,Option.bind_some]at hk
    unfold appI at hz
    split at hz
    ·rename_i hle
     simp only[Option.some.injEq]at hz
     subst hz
     refine ji h (v := .val .str .i (m++n)) (value := .string ⟨(m++n).toArray⟩) ?_ (.inl ⟨_,rfl,rfl,rfl⟩) hk
     unfold execOp
     have e1:(⟨m.toArray⟩:ByteArray).size=m.length:=by simp[ByteArray.size]
     have e2:(⟨n.toArray⟩:ByteArray).size=n.length:=by simp[ByteArray.size]
     have e3:(⟨m.toArray⟩:ByteArray)++⟨n.toArray⟩=⟨(m++n).toArray⟩:=by
      apply ByteArray.ext
      simp
     simp only[ho,hxv.str,hyv.str,Sem.run_bind,jco,Result.andThen_ok,Sem.run_pure,binOp,Op.stringOp,e1,e2,e3]
     rw[if_neg (by have:IntKind.i64.max=9223372036854775807:=rfl;omega)]
     rfl
    ·cases hz
  ·cases hk
 ·rename_i t u f1 m t' u' f2 n hx hy
  split at hk
  case isFalse=>cases hk
  rename_i he
  injection he with e1 e2
  subst e1 e2
  split at hk
  case isFalse=>cases hk
  rename_i hta
  simp only[cast_eq]at hk
  obtain⟨hfl,heq⟩:=hA.eqs T _ hta
  rw[hx]at hxv
  rw[hy]at hyv
  obtain⟨cs,hh,hrep⟩:=hxv.rep (by intro u hu;cases hu)
  obtain⟨cs',hh',hrep'⟩:=hyv.rep (by intro u hu;cases hu)
  have ex:=jc2 hfl hh hrep
  have ey:=jc2 hfl hh' hrep'
  obtain⟨h1,h2⟩:=heq m n w
  simp only[one]at h1 h2 ex ey
  split at hk
  ·refine ji h (v := .val .bool .i _) (value := .bool _) ?_ (qd _) hk
   unfold execOp
   simp only[ho,ex,ey,Sem.run_bind,h2,Result.andThen_ok,Sem.run_pure,binOp,h1]
  ·refine ji h (v := .val .bool .i _) (value := .bool _) ?_ (qd _) hk
   unfold execOp
   simp only[ho,ex,ey,Sem.run_bind,h2,Result.andThen_ok,Sem.run_pure,binOp,h1]
  ·cases hk
 ·rename_i t f1 o hx hy
  split at hk
  ·rename_i hts
   obtain⟨t',f',hT⟩:∃t' f',A.elem T=some (t',f'):=by
    cases he:A.elem T with
    | none=>rw[he]at hts;cases hts
    | some q=>exact⟨q.1,q.2,rfl⟩
   obtain⟨e,i,hu,_⟩:=hA.elem T t' f' hT
   rw[hx]at hxv
   rw[hy]at hyv
   obtain⟨cs,hh,hrep⟩:=hxv.rep (by intro u hu;cases hu)
   have hy2:a.eval y = .slice none 0 0:=by
    rcases hyv with hyv|hyv
    ·cases hyv
    ·exact hyv.2
   have hcs:cs=[a.eval x]:=hh
   subst hcs
   have hrep:=hrep.toPlain (N2:=NB c own [] w) (fun _ hb=>hb) fun _ hb=>by cases hb
   simp only[Rep]at hrep
   obtain⟨_,hrep⟩:=hrep
   have hg:∀v,(∃q l n,v=Value.slice q l n)→(eqGuard op T x y v (.slice none 0 0)).run P w = .ok () w:=by
    rintro v ⟨q,l,n,rfl⟩
    unfold eqGuard
    split<;>simp[Sem.run_pure]
   have he:∀v,(∃q l n,v=Value.slice q l n∧q.isNone=o.isNone)→(Op.equal T v (.slice none 0 0)).run P w = .ok o.isNone w:=by
    rintro v ⟨q,l,n,rfl,hq⟩
    rw[←hq]
    exact jbp hu 9999 q l n
   have hv:∃q l n,a.eval x=Value.slice q l n∧q.isNone=o.isNone:=by
    cases o with
    | none=>simp only[List.cons.injEq,and_true]at hrep;exact⟨none,0,0,hrep,rfl⟩
    | some xs =>
     simp only at hrep
     obtain⟨_,b,off,cap,arr,e',fr,g1,_⟩:=hrep
     simp only[List.cons.injEq,and_true]at g1
     exact⟨_,_,_,g1,rfl⟩
   have hv2:∃q l n,a.eval x=Value.slice q l n:=by
    obtain⟨q,l,n,h1,_⟩:=hv;exact⟨q,l,n,h1⟩
   obtain⟨q,l,n,hvx⟩:=hv2
   split at hk
   ·refine ji h (v := .val .bool .i _) (value := .bool o.isNone) ?_ (qd _) hk
    unfold execOp
    have h1:=he _ hv
    have h2:=hg _ ⟨q,l,n,hvx⟩
    rw[hvx]at h1 h2
    simp only[ho,hy2,hvx,Sem.run_bind,h2,Result.andThen_ok,Sem.run_pure,binOp,h1]
   ·refine ji h (v := .val .bool .i _) (value := .bool o.isSome) ?_ (qd _) hk
    unfold execOp
    have h1:=he _ hv
    have h2:=hg _ ⟨q,l,n,hvx⟩
    rw[hvx]at h1 h2
    simp only[ho,hy2,hvx,Sem.run_bind,h2,Result.andThen_ok,Sem.run_pure,binOp,h1]
    cases o<;>rfl
   ·cases hk
  ·cases hk
 ·cases hk
theorem jk6 (hA:CfgOk P A){o:Oper}{b:Bool}{k:St→Option ρ}{r:ρ}(hc:nsCmp A o st=some b) (h:Inv c own [] st a w)
  (hk:k (st.putO o.dst (.val .bool .i b))=some r):OpGoal P c o k r a w:=by
 unfold nsCmp at hc
 split at hc
 case h_2=>cases hc
 rename_i op T x y T' ho
 split at hc
 case h_2=>cases hc
 rename_i s hx
 split at hc
 case h_2=>cases hc
 rename_i t g o' hs
 split at hc
 case h_2=>cases hc
 rename_i hy
 split at hc
 case isFalse=>cases hc
 rename_i hts
 obtain⟨t',f',hT⟩:∃t' f',A.elem T=some (t',f'):=by
  cases he:A.elem T with
  | none=>rw[he]at hts;cases hts
  | some q=>exact⟨q.1,q.2,rfl⟩
 obtain⟨e,i,hu,_⟩:=hA.elem T t' f' hT
 have hxv:=jt h x
 have hyv:=jt h y
 rw[hx]at hxv
 rw[hy]at hyv
 have hy2:a.eval y = .slice none 0 0:=by
  rcases hyv with hyv|hyv
  ·cases hyv
  ·exact hyv.2
 have hxa:a.eval x=Act.at_ a s:=by
  rcases hxv.ref.2 with⟨_,_,e⟩|⟨τ,f,y,cs,t1,cs1,l1,e1,_,e3,e4,e5⟩
  ·exact e
  ·rw[hs]at e1
   simp only[V.val.injEq]at e1
   obtain⟨rfl,_,_⟩:=e1
   simp only[At]at e4
   obtain⟨rfl,rfl,_⟩:=e4
   simp only[Named,Holds]at e3 e5
   rw[e3]at e5
   simpa using e5.symm
 have hsl:=h.slot s
 rw[hs]at hsl
 have hv:∃q l n,a.eval x=Value.slice q l n∧q.isNone=o'.isNone:=by
  rw[hxa]
  rcases hsl with⟨cs,hh,hr⟩|⟨u,_,_,e,_⟩
  ·simp only[Holds]at hh
   subst hh
   simp only[Rep]at hr
   cases o' with
   | none=>obtain⟨h1,_⟩:=hr;simp only[List.cons.injEq,and_true]at h1;exact⟨none,0,0,h1,rfl⟩
   | some xs =>
    obtain⟨_,b,cap,arr,e',G,g1,_⟩:=hr
    simp only[List.cons.injEq,and_true]at g1
    exact⟨_,_,_,g1,rfl⟩
  ·cases e
 have hg:∀v,(∃q l n,v=Value.slice q l n)→(eqGuard op T x y v (.slice none 0 0)).run P w = .ok () w:=by
  rintro v ⟨q,l,n,rfl⟩
  unfold eqGuard
  split<;>simp[Sem.run_pure]
 have he:∀v,(∃q l n,v=Value.slice q l n∧q.isNone=o'.isNone)→(Op.equal T v (.slice none 0 0)).run P w = .ok o'.isNone w:=by
  rintro v ⟨q,l,n,rfl,hq⟩
  rw[←hq]
  exact jbp hu 9999 q l n
 have hv2:∃q l n,a.eval x=Value.slice q l n:=by
  obtain⟨q,l,n,h1,_⟩:=hv;exact⟨q,l,n,h1⟩
 obtain⟨q,l,n,hvx⟩:=hv2
 have h1:=he _ hv
 have h2:=hg _ ⟨q,l,n,hvx⟩
 rw[hvx]at h1 h2
 split at hc
 ·simp only[Option.some.injEq]at hc
  subst hc
  refine ji h (v := .val .bool .i _) (value := .bool o'.isNone) ?_ (qd _) hk
  unfold execOp
  simp only[ho,hy2,hvx,Sem.run_bind,h2,Result.andThen_ok,Sem.run_pure,binOp,h1]
 ·simp only[Option.some.injEq]at hc
  subst hc
  refine ji h (v := .val .bool .i _) (value := .bool o'.isSome) ?_ (qd _) hk
  unfold execOp
  simp only[ho,hy2,hvx,Sem.run_bind,h2,Result.andThen_ok,Sem.run_pure,binOp,h1]
  cases o'<;>rfl
 ·cases hc
theorem jme {o:Oper}{op:UnOp}{T:TypeId}{x:Operand}{k:St→Option ρ}{r:ρ}(ho:o.op = .unOp op T x) (h:Inv c own [] st a w)
  (hk:unV op (opd st x) (fun v=>k (st.putO o.dst v))=some r):OpGoal P c o k r a w:=by
 have hxv:=jt h x
 unfold unV at hk
 split at hk
 ·rename_i f m hx
  rw[hx]at hxv
  split at hk
  ·refine ji h (v := .val .bool .i _) (value := .bool (!m)) ?_ (qd _) hk
   unfold execOp
   simp only[ho,hxv.bool,Sem.run_bind,Result.andThen_ok,Sem.run_pure,Op.unary]
  ·cases hk
 ·rename_i kd f m hx
  rw[hx]at hxv
  split at hk
  ·refine ji h (v := .val (.int kd) .i _) (value := .int kd (kd.wrap (0-m))) ?_ (qz _ _) hk
   unfold execOp
   simp only[ho,hxv.int,Sem.run_bind,Result.andThen_ok,Sem.run_pure,Op.unary,Op.intArith]
  ·cases hk
 ·cases hk
theorem jl7 {o:Oper}{x y z:Operand}{k:St→Option ρ}{r:ρ}(ho:o.op = .pick x y z) (h:Inv c own [] st a w)
  (hk:pickV (opd st x) (opd st y) (opd st z) (fun v=>k (st.putO o.dst v))=some r):OpGoal P c o k r a w:=by
 have hxv:=jt h x
 have hyv:=jt h y
 have hzv:=jt h z
 unfold pickV at hk
 split at hk
 ·rename_i f b hx
  rw[hx]at hxv
  split at hk
  ·rename_i f1 m f2 n hy hz
   rw[hy]at hyv
   rw[hz]at hzv
   refine ji h (v := .val .bool .i _) (value := .bool (cond b m n)) ?_ (qd _) hk
   unfold execOp
   simp only[ho,hxv.bool,hyv.bool,hzv.bool,asBool,Sem.run_bind,Result.andThen_ok,Sem.run_pure]
   cases b<;>rfl
  ·rename_i f1 m hy _
   rw[hy]at hyv
   cases b with
   | false=>cases hk
   | true =>
    refine ji h (v := .val .bool .i _) (value := .bool m) ?_ (qd _) hk
    unfold execOp
    simp only[ho,hxv.bool,hyv.bool,asBool,Sem.run_bind,Result.andThen_ok,Sem.run_pure,if_true]
  ·rename_i f1 m hz _
   rw[hz]at hzv
   cases b with
   | true=>cases hk
   | false =>
    refine ji h (v := .val .bool .i _) (value := .bool m) ?_ (qd _) hk
    unfold execOp
    simp only[ho,hxv.bool,hzv.bool,asBool,Sem.run_bind,Result.andThen_ok,Sem.run_pure,Bool.false_eq_true,if_false]
  ·cases hk
 ·cases hk
end
end Go.Gx
