import Derived.Test.YtnolmlelfmadkaaGxInv
set_option linter.unusedSimpArgs false
set_option linter.unusedVariables false
namespace Go.Gx
open Go
def Ty.isAgg:Ty→Bool
 | .pair _ _=>true | .unit=>true|_=>false
def zc:Ty→List Value
 | .int k=>[.int k 0] | .bool=>[.bool false] | .str=>[.string ⟨#[]⟩] | .unit=>[] | .any _=>[]
 | .sl _=>[.slice none 0 0] | .ptr _=>[] | .opt _=>[.pointer none] | .pair a b=>zc a++zc b | .tup _=>[] | .clo _ _ _=>[] | .ns _=>[.slice none 0 0] | .map _ _=>[]
def TyOk (P:Program) (T:TypeId) (t:Ty):Prop :=
 ∃i z d,P.info? T=some i∧i.size=t.cells∧i.zero=some z∧((t.hasZero=true→z.cells.toList=zc t)∧z.cells.size=t.cells)∧P.underlying T=some d ∧
  (t.isAgg=match d with | .struct _=>true | .array _ _=>true|_=>false)∧(t = .bool→d = .bool)∧(t = .str→d = .string)∧(∀n,t ≠ .any n)∧(∀u,t ≠ .tup u)∧(∀j,t = .int j→d = .int j)
def ZOk:List (Ty×Fl)→List Value→Prop
 | [],z=>z=[]
 | (t,_)::ts,z=>t.cells≤z.length∧(t.hasZero=true→z.take t.cells=zc t)∧ZOk ts (z.drop t.cells)
def PlOk (place:Nat→Option (Nat×Nat)):Nat→Nat→List (Ty×Fl)→Prop
 | _,_,[]=>True
 | n,off,(t,_)::ts=>place n=some (off,t.cells)∧PlOk place (n+1) (off+t.cells) ts
def FlOk (P:Program):List Field→Nat→List (Ty×Fl)→Prop
 | [],_,[]=>True
 | fl::fls,off,(t,_)::ts=>fl.offset=off∧0<t.cells∧(∃j,P.info? fl.type=some j∧j.size=t.cells)∧FlOk P fls (off+t.cells) ts
 | _,_,_=>False
def FldsOk (P:Program) (T:TypeId) (fts:List (Ty×Fl)):Prop :=
 ∃i z fields,P.info? T=some i∧i.zero=some z∧P.underlying T=some (.struct fields)∧ZOk fts z.cells.toList∧FlOk P fields.toList 0 fts∧∀q∈fts,(∀m,q.1 ≠ .any m)∧(∀u,q.1 ≠ .tup u)
def ArrOk (P:Program) (T:TypeId) (t:Ty) (f:Fl) (n:Nat):Prop :=
 ∃i z e j,P.info? T=some i∧i.zero=some z∧P.underlying T=some (.array n e)∧ZOk (List.replicate n (t,f)) z.cells.toList∧P.info? e=some j∧j.size=t.cells∧0<t.cells∧(∀m,t ≠ .any m)∧(∀u,t ≠ .tup u)
def mfind {β:Type}(k:Ty) (a:k.den):List (k.den×β)→Nat→Option (Nat×β)
 | [],_=>none
 | p::m,i=>cond (eqD k a p.1) (some (i,p.2)) (mfind k a m (i+1))
def KeyOk (P:Program) (K:TypeId) (k:Ty):Prop :=
 (∀em a w,(Instr.checkKey em 10000 K (one k a)).run P w = .ok () w) ∧
 (∀(a:k.den) (m:List (k.den×Value)) (es:List MapEntry) w,es.map (fun e=>(e.key,e.val))=m.map (fun p=>(one k p.1,p.2))→(Instr.findKey K (one k a) es).run P w = .ok (mfind k a m 0) w) ∧
 (∀a b,eqD k a b=true→one k b=one k a)∧∀a w,(Instr.keyThatStays (one k a) (one k a)).run P w = .ok (one k a) w
def MapOk (P:Program) (T:TypeId) (k v:Ty):Prop :=
 ∃K E i,P.underlying T=some (.map K E)∧KeyOk P K k∧k.flat=true∧v.flat=true∧P.info? E=some i∧i.zero=some (one v (zeroTy v))
def EqOk (P:Program) (T:TypeId) (t:Ty):Prop:=t.flat=true ∧
 ∀a b w,(Op.equal T (one t a) (one t b)).run P w = .ok (eqD t a b) w∧∀op x y,(eqGuard op T x y (one t a) (one t b)).run P w = .ok () w
structure CfgOk (P:Program) (A:Cfg):Prop where
 elem:∀T t f,A.elem T=some (t,f)→∃e i,P.underlying T=some (.slice e)∧TyOk P e t∧P.info? e=some i∧i.bytes≤32768∧0<t.cells∧t.cells≤64
 ty:∀T t f,A.ty T=some (t,f)→TyOk P T t
 flds:∀T fts,A.flds T=some fts→FldsOk P T fts
 arrs:∀T t f n,A.arrs T=some (t,f,n)→ArrOk P T t f n
 mixed:P.follows .mixedOrders=true
 maps:∀T k v,A.maps T=some (k,v)→MapOk P T k v
 eqs:∀T t,arrT (A.arrs T)=some t→EqOk P T t
section
variable {P:Program} {A:Cfg} {c:Ctx} {own:Nat→List Nat} {st:St} {a:Act} {w:World} {ρ:Type}
theorem qp {o:Oper}{v:Value}{w':World}{K:Act→World→Prop}{Q:Exit→Act→World→Prop}(h:(execOp a.eval o).run P w = .ok (.value v) w') (hk:K (a.put o.dst v) w'):o.wp P a w K Q:=by
 unfold Oper.wp
 rw[h]
 exact hk
theorem jhw {o:Oper}{w':World}{K:Act→World→Prop}{Q:Exit→Act→World→Prop}(h:(execOp a.eval o).run P w = .ok .skip w') (hk:K (a.put o.dst undef) w'):o.wp P a w K Q:=by
 unfold Oper.wp
 rw[h]
 exact hk
theorem Inv.putO {E F:List Nat}{v:V}{value:Value}(d:Option Nat) (h:Inv c own (F++E) st a w) (hv:SlotOk w (NB c own (F++E) w) st a F value v) (hfx:∀n,d=some n→∀u,c.fix n=some u→u=value):∃own',Inv c own' E (st.putO d v) (a.put d value) w:=by
 cases d with
 | none=>exact⟨own,by simpa [St.putO,Act.put] using h.letgo (List.sublist_append_right _ _)⟩
 | some d =>
  obtain⟨own',h',_⟩:=h.put d hv (hfx d rfl)
  exact⟨own',h'⟩
def VOk (w:World) (N:Nat→Prop) (st:St) (a:Act) (v:V) (value:Value):Prop:=v = .u∨SlotOk w N st a [] value v
theorem jt {E:List Nat}(h:Inv c own E st a w) (o:Operand):VOk w (NB c own E w) st a (opd st o) (a.eval o):=by
 cases o with
 | tmp t =>
  have hs:=h.slot t
  show VOk w _ st a (opd st (.tmp t)) (Act.at_ a t)
  cases hv:st.get t with
  | u=>simp only[opd,hv];exact .inl rfl
  | val τ f x =>
   rw[hv]at hs
   cases f with
   | i =>
    have h0:=RepV.plain hs
    simp only[SlotOk]at hs
    rw[h0]at hs
    simp only[opd,hv];exact .inr hs
   | o g=>simp only[opd,hv];exact .inr ⟨rfl,by rw[hv];rfl,.inl ⟨rfl,rfl,rfl⟩⟩
   | p g g'=>simp only[opd,hv];exact .inr ⟨rfl,by rw[hv];rfl,.inl ⟨rfl,rfl,rfl⟩⟩
  | nilS=>rw[hv]at hs;simp only[opd,hv];exact .inr ⟨rfl,hs.2⟩
  | nilP=>rw[hv]at hs;simp only[opd,hv];exact .inr ⟨rfl,hs.2⟩
  | ref s p k=>rw[hv]at hs;simp only[opd,hv];exact .inr ⟨rfl,hs.2⟩
  | win _ _ _ _=>rw[hv]at hs;simp only[opd,hv];exact .inr ⟨rfl,hs.2⟩
 | const v =>
  show VOk w _ st a (constV v) v
  unfold constV
  split
  ·exact .inr (.inl ⟨_,rfl,rfl,rfl⟩)
  ·exact .inr (.inl ⟨_,rfl,rfl,rfl⟩)
  ·exact .inr (.inl ⟨_,rfl,by simp[Rep]⟩)
  ·exact .inr ⟨rfl,rfl⟩
  ·exact .inr ⟨rfl,rfl⟩
  ·exact .inl rfl
 | global _=>exact .inl rfl
 | func f=>exact .inr (.inl ⟨[_],rfl,rfl,[],rfl,rfl,rfl⟩)
theorem VOk.val {N:Nat→Prop}{t:Ty}{f:Fl}{x:t.den}{value:Value}(h:VOk w N st a (.val t f x) value):RepV w N t f x value []:=by
 rcases h with h|h
 ·cases h
 ·exact h
theorem VOk.int {N:Nat→Prop}{k:IntKind}{f:Fl}{x:Int}{value:Value}(h:VOk w N st a (.val (.int k) f x) value):value = .int k x:=by
 rcases h.val with⟨cs,h1,h2⟩|⟨u,_,_,h1,_⟩
 ·simp only[Holds]at h1
  simp only[Rep]at h2
  rw[h1]at h2
  simpa using h2.1
 ·cases h1
theorem VOk.bool {N:Nat→Prop}{f:Fl}{x:Bool}{value:Value}(h:VOk w N st a (.val .bool f x) value):value = .bool x:=by
 rcases h.val with⟨cs,h1,h2⟩|⟨u,_,_,h1,_⟩
 ·simp only[Holds]at h1
  simp only[Rep]at h2
  rw[h1]at h2
  simpa using h2.1
 ·cases h1
theorem VOk.str {N:Nat→Prop}{f:Fl}{x:List UInt8}{value:Value}(h:VOk w N st a (.val .str f x) value):value = .string ⟨x.toArray⟩:=by
 rcases h.val with⟨cs,h1,h2⟩|⟨u,_,_,h1,_⟩
 ·simp only[Holds]at h1
  simp only[Rep]at h2
  rw[h1]at h2
  simpa using h2.1
 ·cases h1
theorem qz {N:Nat→Prop}(k:IntKind) (x:Int):SlotOk w N st a [] (.int k x) (.val (.int k) .i x) := .inl ⟨_,rfl,rfl,rfl⟩
theorem qd {N:Nat→Prop}(x:Bool):SlotOk w N st a [] (.bool x) (.val .bool .i x) := .inl ⟨_,rfl,rfl,rfl⟩
def OpGoal (P:Program) (c:Ctx) (o:Oper) (k:St→Option ρ) (r:ρ) (a:Act) (w:World):Prop :=
 (∀n,o.dst=some n→c.fix n=none)→∀(K:Act→World→Prop) (Q:Exit→Act→World→Prop),(∀own' st' a' w',k st'=some r→Inv c own' [] st' a' w'→K a' w')→o.wp P a w K Q
theorem vp {c:Ctx}{d:Option Nat}{value:Value}(h:∀n,d=some n→c.fix n=none):∀n,d=some n→∀u,c.fix n=some u→u=value:=by
 intro n hn u hu
 rw[h n hn]at hu
 cases hu
theorem ji {o:Oper}{k:St→Option ρ}{r:ρ}{v:V}{value:Value}(h:Inv c own [] st a w) (hr:(execOp a.eval o).run P w = .ok (.value value) w) (hv:SlotOk w (NB c own [] w) st a [] value v) (hk:k (st.putO o.dst v)=some r):OpGoal P c o k r a w:=by
 intro hfx K Q hK
 obtain⟨own',h'⟩:=Inv.putO (F:=[]) (E:=[]) o.dst h hv (vp hfx)
 exact qp hr (hK _ _ _ _ hk h')
theorem jl5 {o:Oper}{x:Operand}{k:St→Option ρ}{r:ρ}(ho:o.op = .move x) (h:Inv c own [] st a w) (hk:k (st.putO o.dst (opd st x))=some r):OpGoal P c o k r a w:=by
 refine ji h (value:=a.eval x) (by unfold execOp;simp[ho,Sem.run,pure]) ?_ hk
 rcases jt h x with h'|h'
 ·rw[h'];rfl
 ·exact h'
theorem jlr {op:BinOp}{k:IntKind}{x y:Int}{cc:V→Option ρ}{r:ρ}(h:binI op k x y cc=some r) (T:TypeId) :
  ∃v value,cc v=some r∧(binOp op T (.int k x) (.int k y)).run P w = .ok value w∧∀(w:World) (N:Nat→Prop) (st:St) (a:Act),SlotOk w N st a [] value v:=by
 cases op<;>simp only[binI]at h<;>try cases h
 ·exact⟨_,_,h,by simp[binOp,Op.intArith,Sem.run,pure],fun _ _ _ _=>qz k _⟩
 ·exact⟨_,_,h,by simp[binOp,Op.intArith,Sem.run,pure],fun _ _ _ _=>qz k _⟩
 ·exact⟨_,_,h,by simp[binOp,Op.intArith,Sem.run,pure],fun _ _ _ _=>qz k _⟩
 ·unfold quoI at h
  split at h
  ·cases h
  ·rename_i h0
   exact⟨_,_,h,by simp[binOp,Op.intDiv,h0,Sem.run,pure],fun _ _ _ _=>qz k _⟩
 ·unfold remI at h
  split at h
  ·cases h
  ·rename_i h0
   exact⟨_,_,h,by simp[binOp,Op.intDiv,h0,Sem.run,pure],fun _ _ _ _=>qz k _⟩
 ·exact⟨_,.int k (bitI .and k x y),h,by simp[binOp,Op.intBits,bitI,Sem.run,pure],fun _ _ _ _=>qz k _⟩
 ·exact⟨_,.int k (bitI .or k x y),h,by simp[binOp,Op.intBits,bitI,Sem.run,pure],fun _ _ _ _=>qz k _⟩
 ·exact⟨_,.int k (bitI .xor k x y),h,by simp[binOp,Op.intBits,bitI,Sem.run,pure],fun _ _ _ _=>qz k _⟩
 ·exact⟨_,.bool (decide (x=y)),h,by simp[binOp,Op.intCmp,Sem.run,pure];rfl,fun _ _ _ _=>qd _⟩
 ·exact⟨_,.bool (decide (x≠y)),h,by simp[binOp,Op.intCmp,Sem.run,pure];rfl,fun _ _ _ _=>qd _⟩
 ·exact⟨_,_,h,by simp[binOp,Op.intCmp,Sem.run,pure],fun _ _ _ _=>qd _⟩
 ·exact⟨_,_,h,by simp[binOp,Op.intCmp,Sem.run,pure],fun _ _ _ _=>qd _⟩
 ·exact⟨_,_,h,by simp[binOp,Op.intCmp,Sem.run,pure],fun _ _ _ _=>qd _⟩
 ·exact⟨_,_,h,by simp[binOp,Op.intCmp,Sem.run,pure],fun _ _ _ _=>qd _⟩
theorem VOk.rep {N:Nat→Prop}{t:Ty}{f:Fl}{x:t.den}{value:Value}(h:VOk w N st a (.val t f x) value) (ht:∀u,t ≠ .tup u):∃cs,Holds t value cs∧Rep w N t f x cs []:=by
 rcases h.val with h|⟨u,_,_,h1,_⟩
 ·exact h
 ·exact absurd h1 (ht u)
theorem Rep.asPlain {N:Nat→Prop}{t:Ty}{f:Fl}{x:t.den}{cs:List Value}(h:Rep w N t f x cs []):Rep w N t .i x cs []:=h.toPlain (fun _ hb=>hb) fun _ hb=>by cases hb
theorem VOk.ref {N:Nat→Prop}{s:Nat}{p:List Stp}{k:RK}{value:Value}(h:VOk w N st a (.ref s p k) value):RefOk w st a s p k value:=by
 rcases h with h|h
 ·cases h
 ·exact h.2
theorem qx {t:Ty}{f:Fl}{x:t.den}{p:List Stp}{k:(t:Ty)→Fl→t.den→Option ρ}{r:ρ}(h:getP t f x p k=some r):∃n,getD t f x p=some n∧k n.1 n.2.1 n.2.2=some r:=by
 rw[ja9]at h
 cases hg:getD t f x p with
 | none=>rw[hg]at h;cases h
 | some n=>rw[hg]at h;exact⟨n,rfl,h⟩
theorem jch {t:Ty}{f:Fl}{x:t.den}{p:List Stp}{t':Ty}{f':Fl}{y:t'.den}{k:(t:Ty)→Fl→t.den→Option ρ}{r:ρ}(h:setP t f x p t' f' y k=some r):∃n,setD t f x p t' f' y=some n∧k n.1 n.2.1 n.2.2=some r:=by
 rw[vn]at h
 cases hg:setD t f x p t' f' y with
 | none=>rw[hg]at h;cases h
 | some n=>rw[hg]at h;exact⟨n,rfl,h⟩
theorem jg4 {u:Ty}{f:Fl}{x:(Ty.tup u).den}{p:List Stp}{n:Node}(h:getD (.tup u) f x p=some n):p=[]∧n.1 = .tup u:=by
 cases p with
 | nil=>simp only[getD,getP,Option.some.injEq]at h;subst h;exact⟨rfl,rfl⟩
 | cons s p=>cases s<;>simp[getD,getP]at h
theorem jb4 {E:List Nat}(h:Inv c own E st a w){s:Nat}{p:List Stp}{k:RK}{v:Value}{τ:Ty}{f:Fl}{x:τ.den}{n:Node}(hr:RefOk w st a s p k v) (hs:st.get s = .val τ f x) (hg:getD τ f x p=some n) (hn:∀u,n.1 ≠ .tup u) :
  ∃cs cs' l',Holds τ (Act.at_ a s) cs∧Rep w (NB c own E w) τ f x cs (own s)∧At w τ cs none p n.1 cs' l'∧Named k n.1 v cs' l'∧∃F0,(∀b∈F0,b∈own s)∧Rep w (NB c own E w) n.1 n.2.1 n.2.2 cs' F0:=by
 have hslot:=h.slot s
 rw[hs]at hslot
 simp only[SlotOk]at hslot
 rcases hslot with⟨cs,hh,hrep⟩|⟨u,_,_,h1,_⟩
 ·obtain⟨_,⟨rfl,rfl,rfl⟩|⟨t1,f1,x1,cs1,t',cs',l',e1,e5,e2,e3,e4⟩⟩:=hr
  ·simp only[getD,getP,Option.some.injEq]at hg
   subst hg
   exact⟨cs,cs,none,hh,hrep,by simp only[At];exact⟨trivial,trivial,trivial⟩,hh,own s,fun _ hb=>hb,hrep⟩
  ·rw[hs]at e1
   cases e1
   obtain rfl:=Holds.uniq e5.1 hh e2
   obtain⟨rfl,F0,m,r0⟩:=nav hrep e3 hg
   exact⟨cs,cs',l',hh,hrep,e3,e4,F0,m,r0⟩
 ·subst h1
  obtain⟨_,h3⟩:=jg4 hg
  exact absurd h3 (hn u)
theorem jem {α:Type}{xs:List α}{i:Int}{x:α}(h:atI xs i=some x):0≤i∧i<(xs.length:Nat)∧xs[i.toNat]? = some x:=by
 unfold atI at h
 split at h
 ·rename_i h0
  have hlt:i.toNat<xs.length:=(List.getElem?_eq_some_iff.1 h).1
  exact⟨h0,by omega,h⟩
 ·cases h
theorem jai {T:TypeId}{t:Ty}(h:TyOk P T t):(sizeOf T).run P w = .ok t.cells w:=by
 obtain⟨i,z,d,h1,h2,_⟩:=h
 simp[sizeOf,typeInfo,program,h1,h2,Sem.run,bind,Sem.bind,pure]
theorem jef {T:TypeId}{t:Ty}{f:Fl}(hA:CfgOk P A) (hT:A.elem T=some (t,f)) (b off len cap:Nat) (k:IntKind) (n:Int) (h0:0≤n) (h1:n<len) :
  (Instr.indexAt T (.slice (some ⟨b,off,none⟩) len cap) (.int k n)).run P w = .ok (.pointer (some ⟨b,off+n.toNat*t.cells,none⟩)) w:=by
 obtain⟨e,i,hu,ht,_⟩:=hA.elem T t f hT
 have hsz:=jai (w:=w) ht
 simp only[Instr.indexAt,asIntOf,Sem.run_bind,Sem.run_pure,Result.andThen_ok,run_underlying hu,h0,h1,and_self,if_true,hsz]
 simp only[Addr.add]
 split<;>simp_all
theorem jg7 (hA:CfgOk P A){o:Oper}{T:TypeId}{x i:Operand}{t:Ty}{f:Fl}{k:St→Option ρ}{r:ρ}(ho:o.op = .indexAddr T x i) (hT:A.elem T=some (t,f)) (h:Inv c own [] st a w)
  (hk:indexAddrK t st (opd st x) (opd st i) (fun v=>k (st.putO o.dst v))=some r):OpGoal P c o k r a w:=by
 unfold indexAddrK at hk
 have hxv:=jt h x
 have hiv:=jt h i
 split at hk
 ·rename_i kd fi n hi
  rw[hi]at hiv
  have hiv:=hiv.int
  split at hk
  ·rename_i t2 f2 xs hx
   split at hk
   ·rename_i ht
    subst ht
    cases hat:atI xs n with
    | none=>rw[hat]at hk;cases hk
    | some e =>
     rw[hat]at hk
     simp only[Option.bind_some]at hk
     obtain⟨h0,hn1,h1⟩:=jem hat
     rw[hx]at hxv
     obtain⟨cs,hh,hrep⟩:=hxv.rep (by intro u hu;cases hu)
     simp only[Holds]at hh
     subst hh
     have hrep:=hrep.asPlain
     simp only[Rep]at hrep
     obtain⟨_,ad,cap,g1,g2,g3,g4⟩:=hrep
     have hne:xs≠[]:=by rintro rfl;simp at h1
     obtain⟨b,off,arr,et,fr,g5,g6,g7,g8⟩:=g4 hne
     subst g5
     simp only[List.cons.injEq,and_true]at g1
     have hlt:n.toNat<xs.length:=(List.getElem?_eq_some_iff.1 h1).1
     obtain⟨F0,m0,hb,r0⟩:=g8.nth h1
     have hF0:F0=[]:=List.eq_nil_iff_forall_not_mem.2 fun b hb=>by have:=m0 b hb;cases this
     subst hF0
     refine ji h (value := .pointer (some ⟨b,off+n.toNat*t2.cells,none⟩)) ?_ ?_ hk
     ·unfold execOp
      simp only[ho,hiv,g1,Sem.run_bind,jef hA hT b off _ cap kd n h0 hn1,Result.andThen_ok,Sem.run_pure]
     ·refine .inl ⟨_,rfl, ?_⟩
      simp only[Rep]
      simp only[List.length_drop,Array.length_toList]at hb
      obtain⟨_,_,_,_,_,_,hpos,_⟩:=hA.elem T t2 f hT
      refine⟨trivial,b,_,arr,et,fr,rfl,g6,g7,by omega, ?_⟩
      rw[List.drop_drop]at r0
      exact r0
   ·cases hk
  ·rename_i s p hx
   rw[hx]at hxv
   have hr:=hxv.ref
   split at hk
   ·rename_i τ g y hs
    obtain⟨⟨nt,nf,nx⟩,hg,hk2⟩:=qx hk
    simp only at hk2
    split at hk2
    ·rename_i t2 f2 xs
     split at hk2
     ·rename_i ht
      subst ht
      cases hat:atI xs n with
      | none=>rw[hat]at hk2;cases hk2
      | some e =>
       rw[hat]at hk2
       simp only[Option.bind_some]at hk2
       obtain⟨h0,hn1,h1⟩:=jem hat
       obtain⟨cs,cs',l',hh,hrep,hat',hn,F0,m0,r0⟩:=jb4 h hr hs hg (by intro u hu;cases hu)
       simp only[Named,Holds]at hn
       subst hn
       simp only[Rep]at r0
       have hne:xs≠[]:=by rintro rfl;simp at h1
       have hlt:n.toNat<xs.length:=(List.getElem?_eq_some_iff.1 h1).1
       rcases r0 with⟨q,_⟩|⟨b,cap,arr,et,G,g1,g2,g3,g4,g5,g6,g7⟩
       ·exact absurd q hne
       ·simp only[List.cons.injEq,and_true]at g1
        refine ji h (value := .pointer (some ⟨b,0+n.toNat*t2.cells,none⟩)) ?_ ?_ hk2
        ·unfold execOp
         simp only[ho,hiv,g1,Sem.run_bind,jef hA hT b 0 _ cap kd n h0 hn1,Result.andThen_ok,Sem.run_pure]
        ·refine⟨rfl,by rw[hs];have:=hr.1;rw[hs]at this;exact this,.inr ⟨τ,g,y,cs,t2,(arr.toList.drop (n.toNat*t2.cells)).take t2.cells,some (b,n.toNat*t2.cells),hs,⟨?_, ?_⟩,hh,hat'.snoc ?_,b,_,rfl,by simp⟩⟩
         ·rintro m rfl
          cases p with
          | nil=>simp[getD,getP]at hg
          | cons s p=>cases s<;>simp[getD,getP]at hg
         ·rw[jfm (m:=⟨t2,f2,e⟩) hg (by simp[getD,getP,h1,Fl.inn])];rfl
         ·simp only[At]
          exact⟨b,_,cap,arr,et,by rw[g1],g2,trivial,rfl,rfl⟩
     ·cases hk2
    ·cases hk2
   ·cases hk
  ·cases hk
 ·cases hk
theorem At.seg:∀{p:List Stp}{t:Ty}{cs:List Value}{l:Option (Nat×Nat)}{t1:Ty}{c1:List Value}{l1:Option (Nat×Nat)},
  At w t cs l p t1 c1 l1→(∀q,l=some q→∃arr e,w.heap[q.1]? = some (.cells arr e (0,0))∧cs=(arr.toList.drop q.2).take t.cells)→∀q,l1=some q→∃arr e,w.heap[q.1]? = some (.cells arr e (0,0))∧c1=(arr.toList.drop q.2).take t1.cells:=by
 intro p
 induction p with
 | nil=>intro t cs l t1 c1 l1 h hl;simp only[At]at h;obtain⟨rfl,rfl,rfl⟩:=h;exact hl
 | cons s p ih =>
  intro t cs l t1 c1 l1 h hl
  cases t<;>cases s<;>simp only[At]at h
  ·obtain⟨b,len,cap,arr,e,e1,e2,h⟩:=h
   exact ih h fun q hq=>by simp only[Option.some.injEq]at hq;subst hq;exact⟨arr,e,e2,rfl⟩
  ·obtain⟨b,arr,e,e1,e2,e3,h⟩:=h
   exact ih h fun q hq=>by
    simp only[Option.some.injEq]at hq;subst hq
    exact⟨arr,e,e2,by simp only[List.drop_zero];rw[List.take_of_length_le (by simp[e3])]⟩
  ·exact ih h fun q hq=>by
    obtain⟨arr,e,u1,u2⟩:=hl q hq
    exact⟨arr,e,u1,by rw[u2,List.take_take];congr 1;simp only[Ty.cells];omega⟩
  ·exact ih h fun q hq=>by
    cases l with
    | none=>cases hq
    | some q0 =>
     simp only[Option.map_some,Option.some.injEq]at hq
     subst hq
     obtain⟨arr,e,u1,u2⟩:=hl q0 rfl
     exact⟨arr,e,u1,by rw[u2,List.drop_take,List.drop_drop];congr 1;simp only[Ty.cells];omega⟩
theorem jbx {b off:Nat}{arr:Array Value}{e:TypeId}{fr:Nat×Nat}(h:w.heap[b]? = some (.cells arr e fr)) (j:Nat):w.cell? ((⟨b,off,none⟩:Addr).add j)=(arr.toList.drop off)[j]? := by
 have:(⟨b,off,none⟩:Addr).add j=⟨b,off+j,none⟩:=by unfold Addr.add;split<;>simp_all
 rw[this]
 simp[World.cell?,h]
theorem TyOk.notTup {T:TypeId}{t:Ty}(h:TyOk P T t):∀u,t ≠ .tup u:=by
 obtain⟨_,_,_,_,_,_,_,_,_,_,_,_,h⟩:=h;exact h.1
theorem TyOk.notAny {T:TypeId}{t:Ty}(h:TyOk P T t):∀n,t ≠ .any n:=by
 obtain⟨_,_,_,_,_,_,_,_,_,_,_,h,_⟩:=h;exact h
theorem jbg {T:TypeId}{t:Ty}(ht:TyOk P T t){b off:Nat}{arr:Array Value}{e:TypeId}{fr:Nat×Nat}(h:w.heap[b]? = some (.cells arr e fr)){cs:List Value}(hcs:cs=(arr.toList.drop off).take t.cells) (hl:cs.length=t.cells) :
  ∃v,(loadVar T ⟨b,off,none⟩).run P w = .ok v w∧Holds t v cs:=by
 obtain⟨i,z,d,h1,h2,h3,h4,h5,h6,h7,h8,h9,h10⟩:=ht
 have hcell:∀j v,cs[j]? = some v→w.cell? ((⟨b,off,none⟩:Addr).add j)=some v:=by
  intro j v hv
  rw[jbx h,←hv,hcs,List.getElem?_take]
  have:j<t.cells:=by rw[←hl];exact(List.getElem?_eq_some_iff.1 hv).1
  simp[this]
 have hagg:(isAgg T).run P w = .ok t.isAgg w:=by
  simp only[isAgg,Sem.run_bind,run_underlying h5,Result.andThen_ok]
  rw[h6]
  cases d<;>simp[Sem.run_pure]
 by_cases ha:t.isAgg=true
 ·refine⟨.agg cs.toArray, ?_, ?_⟩
  ·have hsz:(sizeOf T).run P w = .ok cs.length w:=by simp[sizeOf,typeInfo,program,h1,h2,hl,Sem.run,bind,Sem.bind,pure]
   simp only[loadVar,Sem.run_bind,hagg,Result.andThen_ok,ha,if_true,hsz,run_loadCells_list w _ cs hcell,Sem.run_pure]
  ·cases t<;>simp_all [Ty.isAgg,Holds]
 ·have h1c:t.cells=1:=by cases t<;>simp_all [Ty.isAgg,Ty.cells]
  rw[h1c]at hl
  obtain⟨v,rfl⟩:=List.length_eq_one_iff.1 hl
  refine⟨v, ?_, ?_⟩
  ·have:=hcell 0 v rfl
   simp only[loadVar,Sem.run_bind,hagg,Result.andThen_ok,ha,Bool.false_eq_true,if_false]
   have e0:(⟨b,off,none⟩:Addr).add 0=⟨b,off,none⟩:=by simp[Addr.add]
   rw[e0]at this
   simp[run_load,this]
  ·cases t<;>simp_all [Ty.isAgg,Holds]
theorem jib {E:List Nat}{s:Nat}{p:List Stp}{t:Ty}{f:Fl}{e:t.den}{v:Value}{cs:List Value}{F0:List Nat}(hh:Holds t v cs) (hr:Rep w (NB c own E w) t f e cs F0) (hF:f = .i→F0=[]) (href:f ≠ .i→RefOk w st a s p .val v) :
  SlotOk w (NB c own E w) st a [] v (V.ofNode s p t f e):=by
 unfold V.ofNode
 cases f with
 | i=>obtain rfl:=hF rfl;exact .inl ⟨cs,hh,hr⟩
 | o g=>exact⟨rfl,href (by simp)⟩
 | p g g'=>exact⟨rfl,href (by simp)⟩
theorem jb8 {E:List Nat}(h:Inv c own E st a w){v:V}{value:Value}{s:Nat}{p:List Stp}(hv:VOk w (NB c own E w) st a v value) (ha:asAddr st v=some (s,p)):RefOk w st a s p .addr value:=by
 unfold asAddr at ha
 split at ha
 ·simp only[Option.some.injEq,Prod.mk.injEq]at ha
  obtain⟨rfl,rfl⟩:=ha
  exact hv.ref
 ·rename_i q
  split at ha
  ·rename_i t g x hs
   simp only[Option.some.injEq,Prod.mk.injEq]at ha
   obtain⟨rfl,rfl⟩:=ha
   have hr:=hv.ref
   obtain⟨cs,cs',l',hh,hrep,hat,hn,F0,m0,r0⟩:=jb4 h hr hs (n:=⟨_,_,_⟩) rfl (by intro u hu;cases hu)
   simp only[Named,Holds]at hn
   subst hn
   simp only[Rep]at r0
   obtain⟨b,arr,e,G,g1,g2,g3,g4⟩:=r0
   simp only[List.cons.injEq,and_true]at g1
   have hl:=g4.len
   refine⟨hr.1,.inr ⟨_,_,_,cs,t,arr.toList,some (b,0),hs,⟨(by intro n hn;cases hn),(by simp[getD,getP])⟩,hh, ?_,b,0,rfl,g1⟩⟩
   simp only[At]at hat ⊢
   obtain⟨_,rfl,rfl⟩:=hat
   exact⟨b,arr,e,by rw[g1],g2,by simpa using hl,trivial,rfl,rfl⟩
  ·cases ha
 ·cases ha
theorem jl2 (hA:CfgOk P A){o:Oper}{T:TypeId}{x:Operand}{t:Ty}{f:Fl}{k:St→Option ρ}{r:ρ}(ho:o.op = .load T x) (hT:A.ty T=some (t,f)) (h:Inv c own [] st a w)
  (hk:loadK t st (opd st x) (fun v=>k (st.putO o.dst v))=some r):OpGoal P c o k r a w:=by
 have hxv:=jt h x
 have htk:=hA.ty T t f hT
 unfold loadK at hk
 have imm:∀{b off:Nat} {arr:Array Value} {et:TypeId} {fr:Nat×Nat} {e:t.den},a.eval x = .pointer (some ⟨b,off,none⟩)→w.heap[b]? = some (.cells arr et fr)→Rep w (NB c own [] w) t .i e ((arr.toList.drop off).take t.cells) [] →
   k (st.putO o.dst (.val t .i e))=some r→OpGoal P c o k r a w:=by
  intro b off arr et fr e hv hb hrep hk
  obtain⟨v,hrun,hh⟩:=jbg htk hb rfl hrep.len
  refine ji h (v := .val t .i e) (value:=v) ?_ (.inl ⟨_,hh,hrep⟩) hk
  unfold execOp
  simp only[ho,hv,Instr.loadAt,Instr.sureAddr,Sem.run_bind,Sem.run_pure,Result.andThen_ok,hrun]
 split at hk
 ·rename_i t2 f2 e hx
  split at hk
  ·rename_i ht
   subst ht
   rw[hx]at hxv
   obtain⟨cs,hh,hrep⟩:=hxv.rep (by intro u hu;cases hu)
   have hrep:=hrep.asPlain
   simp only[Holds]at hh
   subst hh
   simp only[Rep]at hrep
   obtain⟨_,b,off,arr,et,fr,g1,g2,g3,g5,g4⟩:=hrep
   simp only[List.cons.injEq,and_true]at g1
   exact imm g1 g3 g4 hk
  ·cases hk
 ·rename_i t2 f2 ov hx
  split at hk
  ·rename_i ht
   subst ht
   cases ov with
   | none=>cases hk
   | some e =>
    rw[hx]at hxv
    obtain⟨cs,hh,hrep⟩:=hxv.rep (by intro u hu;cases hu)
    simp only[Holds]at hh
    subst hh
    have hrep:=hrep.asPlain
    simp only[Rep]at hrep
    obtain⟨_,b,off,arr,et,fr,g1,g2,g3,g5,g4⟩:=hrep
    simp only[List.cons.injEq,and_true]at g1
    exact imm g1 g3 g4 hk
  ·cases hk
 ·split at hk
  ·rename_i s p ha
   have hr:=jb8 h hxv ha
   split at hk
   ·rename_i τ g y hs
    obtain⟨⟨nt,nf,nx⟩,hg,hk2⟩:=qx hk
    simp only at hk2
    split at hk2
    ·rename_i ht
     subst ht
     obtain⟨cs,cs',l',hh,hrep,hat,⟨b,off,hl',hv⟩,F0,m0,r0⟩:=jb4 h hr hs hg htk.notTup
     obtain⟨arr,et,e1,e2⟩:=hat.seg (fun q hq=>by cases hq) _ hl'
     have hnany:∀n,τ ≠ .any n:=by
      rintro m rfl
      cases p with
      | nil=>simp only[getD,getP,Option.some.injEq]at hg;cases hg;exact htk.notAny m rfl
      | cons s p=>cases s<;>simp[getD,getP]at hg
     obtain⟨v,hrun,hv'⟩:=jbg htk e1 e2 r0.len
     refine ji h (value:=v) ?_ (jib hv' r0 ?_ ?_) hk2
     ·unfold execOp
      simp only[ho,hv,Instr.loadAt,Instr.sureAddr,Sem.run_bind,Sem.run_pure,Result.andThen_ok,hrun]
     ·rintro rfl
      exact r0.plain
     ·intro _
      exact⟨hr.1,.inr ⟨τ,g,y,cs,_,cs',l',hs,⟨hnany,by rw[hg];rfl⟩,hh,hat,hv'⟩⟩
    ·cases hk2
   ·cases hk
  ·cases hk
end
end Go.Gx
