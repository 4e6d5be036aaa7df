import Derived.Test.YtnolmlelfmadkaaGxLaw
import Derived.Test.YtnolmlelfmadkaaGxKeys
set_option linter.unusedSimpArgs false
set_option linter.unusedVariables false
namespace Go.Gx
open Go
def vsame:Value→Value→Bool
 | .int k n,.int k' n'=>decide (k=k')&&decide (n=n')
 | .bool a,.bool b=>a==b
 | .string s,.string s'=>s.data.toList.isEmpty&&s'.data.toList.isEmpty
 | .slice none 0 0,.slice none 0 0=>true
 | .pointer none,.pointer none=>true
 | _,_=>false
theorem jhv {u v:Value}(h:vsame u v=true):u=v:=by
 unfold vsame at h
 split at h
 ·simp only[Bool.and_eq_true,decide_eq_true_eq]at h
  rw[h.1,h.2]
 ·simp only[beq_iff_eq]at h;rw[h]
 ·rename_i s s'
  simp only[Bool.and_eq_true,List.isEmpty_iff]at h
  have h1:s=⟨#[]⟩:=by cases s;simp_all
  have h2:s'=⟨#[]⟩:=by cases s';simp_all
  rw[h1,h2]
 ·rfl
 ·rfl
 ·cases h
def vsames:List Value→List Value→Bool
 | [],[]=>true
 | u::us,v::vs=>vsame u v&&vsames us vs
 | _,_=>false
theorem jd2:∀{us vs:List Value},vsames us vs=true→us=vs
 | [],[],_=>rfl
 | u::us,v::vs,h=>by
  simp only[vsames,Bool.and_eq_true]at h
  rw[jhv h.1,jd2 h.2]
 | [],_::_,h=>by cases h
 | _::_,[],h=>by cases h
def aggD:TypeDesc→Bool
 | .struct _=>true | .array _ _=>true|_=>false
def descOk:Ty→TypeDesc→Bool
 | .bool,.bool=>true
 | .bool,_=>false
 | .str,.string=>true
 | .str,_=>false
 | .int j,.int k=>decide (j=k)
 | .int _,_=>false
 | .any _,_=>false
 | .tup _,_=>false
 | _,_=>true
def tyChk (P:Program) (T:TypeId) (t:Ty):Bool:=match P.info? T,P.underlying T with
 | some i,some d=>match i.zero with
  | some z=>decide (i.size=t.cells)&&(!t.hasZero||vsames z.cells.toList (zc t))&&decide (z.cells.size=t.cells)&&(t.isAgg==aggD d)&&descOk t d
  | none=>false
 | _,_=>false
theorem jhu {P:Program}{T:TypeId}{t:Ty}(h:tyChk P T t=true):TyOk P T t:=by
 unfold tyChk at h
 split at h
 case h_2=>cases h
 rename_i i d hi hd
 split at h
 case h_2=>cases h
 rename_i z hz
 simp only[Bool.and_eq_true,decide_eq_true_eq,Bool.or_eq_true,Bool.not_eq_true',beq_iff_eq]at h
 obtain⟨⟨⟨⟨h1,h2⟩,h3⟩,h4⟩,h5⟩:=h
 refine⟨i,z,d,hi,h1,hz,⟨fun ht => ?_,h3⟩,hd, ?_, ?_, ?_, ?_, ?_, ?_⟩
 ·rcases h2 with h2|h2
  ·rw[ht]at h2;cases h2
  ·exact jd2 h2
 ·rw[h4];cases d<;>rfl
 ·intro ht;subst ht;cases d<;>simp_all [descOk]
 ·intro ht;subst ht;cases d<;>simp_all [descOk]
 ·intro n ht;subst ht;simp[descOk]at h5
 ·intro n ht;subst ht;simp[descOk]at h5
 ·intro j ht;subst ht;cases d<;>simp_all [descOk]
def elemChk (P:Program) (T:TypeId) (t:Ty):Bool:=match P.underlying T with
 | some (.slice e)=>match P.info? e with
  | some i=>tyChk P e t&&decide (i.bytes≤32768)&&decide (0<t.cells)&&decide (t.cells≤64)
  | none=>false
 | _=>false
def lookM:List (Nat×Ty×Ty)→Nat→Option (Ty×Ty)
 | [],_=>none
 | (n,a)::l,m=>if m=n then some a else lookM l m
theorem jfs:∀{l:List (Nat×Ty×Ty)}{m:Nat}{a:Ty×Ty},lookM l m=some a→(m,a)∈l
 | [],_,_,h=>by cases h
 | (n,b)::l,m,a,h=>by
  simp only[lookM]at h
  split at h
  ·rename_i e;subst e;cases h;exact List.mem_cons_self
  ·exact List.mem_cons_of_mem _ (jfs h)
def look {α:Type}:List (Nat×α)→Nat→Option α
 | [],_=>none
 | (n,a)::l,m=>if m=n then some a else look l m
def lookT:List (Nat×Ty×Fl)→Nat→Option (Ty×Fl)
 | [],_=>none
 | (n,a)::l,m=>if m=n then some a else lookT l m
def lookS:List (Nat×List Sh)→Nat→Option (List Sh)
 | [],_=>none
 | (n,a)::l,m=>if m=n then some a else lookS l m
def lookF:List (Nat×List (Ty×Fl))→Nat→Option (List (Ty×Fl))
 | [],_=>none
 | (n,a)::l,m=>if m=n then some a else lookF l m
def lookA:List (Nat×Ty×Fl×Nat)→Nat→Option (Ty×Fl×Nat)
 | [],_=>none
 | (n,a)::l,m=>if m=n then some a else lookA l m
structure Tab where
 es:List (Nat×Ty×Fl)
 ts:List (Nat×Ty×Fl)
 fs:List (Nat×List (Ty×Fl))
 ars:List (Nat×Ty×Fl×Nat)
 ms:List (Nat×Ty×Ty):=[]
def mkCfg (T:Tab) (ss:List (Nat×Sig)) (sh:List (Nat×List Sh)):Cfg :=
 { elem:=lookT T.es,flds:=lookF T.fs,arrs:=lookA T.ars,ty:=lookT T.ts,sig:=look ss,shape:=lookS sh,maps:=lookM T.ms }
theorem jfr:∀{l:List (Nat×List (Ty×Fl))}{m:Nat}{a:List (Ty×Fl)},lookF l m=some a→(m,a)∈l
 | [],_,_,h=>by cases h
 | (n,b)::l,m,a,h=>by
  simp only[lookF]at h
  split at h
  ·rename_i e;subst e;cases h;exact List.mem_cons_self
  ·exact List.mem_cons_of_mem _ (jfr h)
theorem jdp:∀{l:List (Nat×Ty×Fl×Nat)}{m:Nat}{a:Ty×Fl×Nat},lookA l m=some a→(m,a)∈l
 | [],_,_,h=>by cases h
 | (n,b)::l,m,a,h=>by
  simp only[lookA]at h
  split at h
  ·rename_i e;subst e;cases h;exact List.mem_cons_self
  ·exact List.mem_cons_of_mem _ (jdp h)
def zB:List (Ty×Fl)→List Value→Bool
 | [],z=>z.isEmpty
 | (t,_)::ts,z=>decide (t.cells≤z.length)&&(!t.hasZero||vsames (z.take t.cells) (zc t))&&zB ts (z.drop t.cells)
theorem jjd:∀{ts:List (Ty×Fl)}{z:List Value},zB ts z=true→ZOk ts z
 | [],z,h=>by simpa [zB,ZOk] using h
 | (t,_)::ts,z,h=>by
  simp only[zB,Bool.and_eq_true,decide_eq_true_eq,Bool.or_eq_true,Bool.not_eq_true']at h
  refine⟨h.1.1,fun ht => ?_,jjd h.2⟩
  rcases h.1.2 with h2|h2
  ·rw[ht]at h2;cases h2
  ·exact jd2 h2
def sizeIs (P:Program) (T:TypeId) (n:Nat):Bool:=match P.info? T with
 | some j=>decide (j.size=n)
 | none=>false
theorem jga {P:Program}{T:TypeId}{n:Nat}(h:sizeIs P T n=true):∃j,P.info? T=some j∧j.size=n:=by
 unfold sizeIs at h
 split at h
 ·rename_i j hj;exact⟨j,hj,by simpa using h⟩
 ·cases h
def flB (P:Program):List Field→Nat→List (Ty×Fl)→Bool
 | [],_,[]=>true
 | fl::fls,off,(t,_)::ts=>decide (fl.offset=off)&&decide (0<t.cells)&&sizeIs P fl.type t.cells&&flB P fls (off+t.cells) ts
 | _,_,_=>false
theorem jjm {P:Program}:∀{fls:List Field}{off:Nat}{ts:List (Ty×Fl)},flB P fls off ts=true→FlOk P fls off ts
 | [],_,[],_=>trivial
 | fl::fls,off,(t,_)::ts,h=>by
  simp only[flB,Bool.and_eq_true,decide_eq_true_eq]at h
  exact⟨h.1.1.1,h.1.1.2,jga h.1.2,jjm h.2⟩
 | [],_,_::_,h=>by simp[flB]at h
 | _::_,_,[],h=>by simp[flB]at h
def okTy:Ty→Bool
 | .any _=>false
 | .tup _=>false
 | _=>true
theorem jio {t:Ty}(h:okTy t=true):(∀m,t ≠ .any m)∧(∀u,t ≠ .tup u):=by
 refine⟨?_, ?_⟩<;>rintro u rfl<;>simp[okTy]at h
def fldsChk (P:Program) (T:TypeId) (fts:List (Ty×Fl)):Bool:=match P.info? T,P.underlying T with
 | some i,some (.struct fields)=>match i.zero with
  | some z=>zB fts z.cells.toList&&flB P fields.toList 0 fts&&fts.all fun q=>okTy q.1
  | none=>false
 | _,_=>false
theorem jix {P:Program}{T:TypeId}{fts:List (Ty×Fl)}(h:fldsChk P T fts=true):FldsOk P T fts:=by
 unfold fldsChk at h
 split at h
 case h_2=>cases h
 rename_i i fields hi hu
 split at h
 case h_2=>cases h
 rename_i z hz
 simp only[Bool.and_eq_true,List.all_eq_true]at h
 exact⟨i,z,fields,hi,hz,hu,jjd h.1.1,jjm h.1.2,fun q hq=>jio (h.2 q hq)⟩
def arrsChk (P:Program) (T:TypeId) (t:Ty) (f:Fl) (n:Nat):Bool:=match P.info? T,P.underlying T with
 | some i,some (.array m e)=>match i.zero with
  | some z=>decide (m=n)&&zB (List.replicate n (t,f)) z.cells.toList&&sizeIs P e t.cells&&decide (0<t.cells)&&okTy t
  | none=>false
 | _,_=>false
theorem jit {P:Program}{T:TypeId}{t:Ty}{f:Fl}{n:Nat}(h:arrsChk P T t f n=true):ArrOk P T t f n:=by
 unfold arrsChk at h
 split at h
 case h_2=>cases h
 rename_i i m e hi hu
 split at h
 case h_2=>cases h
 rename_i z hz
 simp only[Bool.and_eq_true,decide_eq_true_eq]at h
 obtain⟨⟨⟨⟨rfl,h2⟩,h3⟩,h4⟩,h5⟩:=h
 obtain⟨j,hj,hjs⟩:=jga h3
 exact⟨i,z,e,j,hi,hz,hu,jjd h2,hj,hjs,h4,jio h5⟩
def mapChk (P:Program) (T:TypeId) (k v:Ty):Bool:=match P.underlying T with
 | some (.map K E)=>keyChk P K k&&k.flat&&v.flat&&match P.info? E with
  | some i=>(match i.zero with|some z=>vsame z (one v (zeroTy v))|none=>false)
  | none=>false
 | _=>false
theorem jjv {P:Program}{T:TypeId}{k v:Ty}(h:mapChk P T k v=true):MapOk P T k v:=by
 unfold mapChk at h
 split at h
 case h_2=>cases h
 rename_i K E hu
 simp only[Bool.and_eq_true]at h
 obtain⟨⟨⟨h1,h2⟩,h3⟩,h4⟩:=h
 split at h4
 case h_2=>cases h4
 rename_i i hi
 split at h4
 case h_2=>cases h4
 rename_i z hz
 exact⟨K,E,i,hu,jjs h1,h2,h3,hi,by rw[hz,jhv h4]⟩
def arrEq (P:Program) (r:Nat×Ty×Fl×Nat):Bool:=match r.2.1 with
 | .int q=>eqChk P r.1 q r.2.2.2
 | _=>true
def Tab.chk (P:Program) (T:Tab):Bool :=
 T.ms.all (fun r=>mapChk P r.1 r.2.1 r.2.2)&&T.ars.all (arrEq P)&&P.follows .mixedOrders&&T.es.all (fun r=>elemChk P r.1 r.2.1)&&T.ts.all (fun r=>tyChk P r.1 r.2.1)&&T.fs.all (fun r=>fldsChk P r.1 r.2)&&T.ars.all (fun r=>arrsChk P r.1 r.2.1 r.2.2.1 r.2.2.2)
theorem jdq:∀{l:List (Nat×Ty×Fl)}{m:Nat}{a:Ty×Fl},lookT l m=some a→(m,a)∈l
 | [],_,_,h=>by cases h
 | (n,b)::l,m,a,h=>by
  simp only[lookT]at h
  split at h
  ·rename_i e;subst e;cases h;exact List.mem_cons_self
  ·exact List.mem_cons_of_mem _ (jdq h)
theorem jg9 {α:Type}:∀{l:List (Nat×α)}{m:Nat}{a:α},look l m=some a→(m,a)∈l
 | [],_,_,h=>by cases h
 | (n,b)::l,m,a,h=>by
  simp only[look]at h
  split at h
  ·rename_i e;subst e;cases h;exact List.mem_cons_self
  ·exact List.mem_cons_of_mem _ (jg9 h)
theorem qu {P:Program}{T:Tab}{ss:List (Nat×Sig)}{sh:List (Nat×List Sh)}(h:T.chk P=true):CfgOk P (mkCfg T ss sh):=by
 simp only[Tab.chk,Bool.and_eq_true,List.all_eq_true]at h
 obtain⟨⟨⟨⟨⟨⟨hm,hq⟩,h0⟩,h1⟩,h2⟩,h3⟩,h4⟩:=h
 refine⟨fun T t f hT => ?_,fun T t f hT => ?_,fun T fts hT => ?_,fun T t f n hT => ?_,h0,fun T k v hT=>jjv (hm _ (jfs hT)),fun T t hT => ?_⟩
 ·have:=h1 _ (jdq hT)
  simp only[elemChk]at this
  split at this
  case h_2=>cases this
  rename_i e he
  split at this
  case h_2=>cases this
  rename_i i hi
  simp only[Bool.and_eq_true,decide_eq_true_eq]at this
  exact⟨e,i,he,jhu this.1.1.1,hi,this.1.1.2,this.1.2,this.2⟩
 ·exact jhu (h2 _ (jdq hT))
 ·exact jix (h3 _ (jfr hT))
 ·exact jit (h4 _ (jdp hT))
 ·unfold arrT at hT
  split at hT
  ·rename_i q f n hA
   cases hT
   have:=hq _ (jdp hA)
   exact jku this
  ·cases hT
def FnOk (P : Program) (f : FuncId) : Prop := ∃ fn, P.funcs[f]? = some fn ∧ fn.body.isNone = false ∧ (fn.name == "runtime.NumGoroutine") = false
def winCfg (A:Cfg):Cfg:={ A with wins:=true }
theorem winCfg_ok {P:Program}{A:Cfg}(h:CfgOk P A):CfgOk P (winCfg A):=⟨h.elem,h.ty,h.flds,h.arrs,h.mixed,h.maps,h.eqs⟩
theorem winCfg_sig {P:Program}{A:Cfg}(h:SigOk P A):SigOk P (winCfg A):=⟨h.sig⟩
def hookCfg (h:Nat→Option Hook) (A:Cfg):Cfg:={ A with hook:=h }
theorem ji1 {P:Program}{A:Cfg}{h':Nat→Option Hook}(h:CfgOk P A):CfgOk P (hookCfg h' A):=⟨h.elem,h.ty,h.flds,h.arrs,h.mixed,h.maps,h.eqs⟩
theorem jh2 {P:Program}{A:Cfg}{h':Nat→Option Hook}(h:SigOk P A):SigOk P (hookCfg h' A):=⟨h.sig⟩
theorem jaw {P:Program}{T:Tab}{ss:List (Nat×Sig)}{sh:List (Nat×List Sh)}(h:∀p∈ss,FnOk P p.1∧Good P p.1 p.2):SigOk P (mkCfg T ss sh) :=
 ⟨fun f S hS=>h (f,S) (jg9 hS)⟩
def loopOf (r:Nat):Code→Option Code
 | .loop c=>if rid c=r then some c else loopOf r c
 | .seq a b=>(loopOf r a).orElse fun _=>loopOf r b
 | .block _ c=>loopOf r c
 | .cond _ a b=>(loopOf r a).orElse fun _=>loopOf r b
 | _=>none
def restOf (r:Nat):Code→Option Code
 | .seq a b=>if rid b=r then some b else(restOf r a).orElse fun _=>restOf r b
 | .block _ c=>restOf r c
 | .loop c=>restOf r c
 | .cond _ a b=>(restOf r a).orElse fun _=>restOf r b
 | _=>none
def loopAt (fn:Func) (r:Nat):Code:=(fn.body.bind (loopOf r)).getD .skip
def restAt (fn:Func) (r:Nat):Code:=(fn.body.bind (restOf r)).getD .skip
end Go.Gx
