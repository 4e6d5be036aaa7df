import Derived.Test.YtnolmlelfmadkaaGxFn
import Derived.ProofKit
import Derived.OpenShut
set_option linter.unusedSimpArgs false
set_option linter.unusedVariables false
namespace Go.Gx
open Go
def Wf:(t:Ty)→t.den→Prop
 | .int k,x=>(Lit.int k x).wf=true
 | .str,x=>x.length≤maxLen
 | .sl t,xs=>xs.length≤maxLen∧∀x∈xs,Wf t x
 | .ptr t,x=>Wf t x
 | .opt t,o=>∀x,o=some x→Wf t x
 | .pair a b,x=>Wf a x.1∧Wf b x.2
 | .tup t,x=>Wf t x
 | _,_=>True
def fldTy (P:Program) (F:TypeId→Option Ty):List Field→Nat→Option Ty
 | [],_=>some .unit
 | f::fs,off=>if f.offset=off then(F f.type).bind fun t=>if P.cellsOf f.type=t.cells then(fldTy P F fs (off+t.cells)).map (.pair t) else none else none
def repTy (t:Ty):Nat→Ty
 | 0 => .unit
 | n+1 => .pair t (repTy t n)
def tyOf (P:Program):Nat→TypeId→Option Ty
 | 0,_=>none
 | n+1,T=>match P.underlying T with
  | some .bool=>some .bool
  | some (.int k)=>some (.int k)
  | some .string=>some .str
  | some (.pointer e)=>(tyOf P n e).bind fun t=>if P.cellsOf e=t.cells∧0<t.cells then some (.opt t) else none
  | some (.slice e)=>(tyOf P n e).bind fun t=>if P.cellsOf e=t.cells∧0<t.cells then some (.sl t) else none
  | some (.struct fs)=>(fldTy P (tyOf P n) fs.toList 0).bind fun t=>if P.cellsOf T=t.cells then some t else none
  | some (.array m e)=>(tyOf P n e).bind fun t=>if P.cellsOf e=t.cells∧P.cellsOf T=m*t.cells then some (repTy t m) else none
  | _=>none
theorem jft {α β:Type}{f:α→Option β}:∀{l:List α}{r:List β},l.mapM f=some r→r.length=l.length∧∀(i:Nat) x,l[i]? = some x→f x=r[i]?
 | [],r,h=>by
  simp only[List.mapM_nil]at h
  cases h
  simp
 | y::l,r,h=>by
  rw[List.mapM_cons]at h
  cases hy:f y with
  | none=>rw[hy]at h;cases h
  | some z =>
   rw[hy]at h
   cases hl:l.mapM f with
   | none=>rw[hl]at h;cases h
   | some r' =>
    rw[hl]at h
    cases h
    obtain⟨h1,h2⟩:=jft hl
    refine⟨by simp[h1],fun i x hx => ?_⟩
    cases i with
    | zero=>simp only[List.getElem?_cons_zero,Option.some.injEq]at hx;subst hx;simpa using hy
    | succ i=>simpa using h2 i x (by simpa using hx)
section
variable {P:Program} {w:World}
theorem cells?_some {base:Nat}{p:Addr}{n:Nat}{cs:List Value}(h:w.cells? base p n=some cs) (hn:0<n) :
  p.spot=none∧∃arr e fr,w.heap[p.block]? = some (.cells arr e fr)∧cs=(arr.toList.drop p.off).take n∧p.off+n≤arr.size:=by
 unfold World.cells? at h
 split at h
 case isFalse=>cases h
 obtain⟨hl,hi⟩:=jft h
 simp only[List.length_range]at hl
 have hc:∀i,i<n→w.cell? (p.add i)=cs[i]? := fun i hlt=>hi i i (by rw[List.getElem?_range hlt])
 have h0:=hc 0 hn
 rw[List.getElem?_eq_getElem (by omega)]at h0
 have hp0:p.add 0=p:=by simp[Addr.add]
 rw[hp0]at h0
 unfold World.cell? at h0
 split at h0
 case h_2=>cases h0
 rename_i arr e fr hb
 split at h0
 ·cases h0
 rename_i hs
 have hs:p.spot=none:=by simpa using hs
 have hcell:∀i,i<n→arr[p.off+i]? = cs[i]? := by
  intro i hlt
  rw[←hc i hlt]
  by_cases hi0:i=0
  ·subst hi0
   rw[hp0]
   simp[World.cell?,hb,hs]
  ·simp[World.cell?,Addr.add,hi0,hb]
 refine⟨hs,arr,e,fr,hb, ?_, ?_⟩
 ·apply List.ext_getElem?
  intro i
  rw[List.getElem?_take]
  split
  ·rename_i hlt
   rw[List.getElem?_drop,←hcell i hlt,Array.getElem?_toList]
  ·rw[List.getElem?_eq_none (by omega)]
 ·have:=hcell (n-1) (by omega)
  rw[List.getElem?_eq_getElem (by omega)]at this
  have hlt:p.off+(n-1)<arr.size:=by
   rcases Nat.lt_or_ge (p.off+(n-1)) arr.size with h|h
   ·exact h
   ·rw[Array.getElem?_eq_none h]at this;cases this
  omega
theorem jd9 {α:Type}{p:Nat→α→Prop}:∀{n:Nat},(∀i,i<n→∃x,p i x)→∃l:List α,l.length=n∧∀(i:Nat) x,l[i]? = some x→p i x
 | 0,_=>⟨[],rfl,by simp⟩
 | n+1,h=>by
  obtain⟨l,hl,hp⟩:=jd9 (n:=n) fun i hi=>h i (by omega)
  obtain⟨x,hx⟩:=h n (by omega)
  refine⟨l++[x],by simp[hl],fun i y hy => ?_⟩
  by_cases hi:i<n
  ·rw[List.getElem?_append_left (by omega)]at hy;exact hp i y hy
  ·rw[List.getElem?_append_right (by omega)]at hy
   have:i=n:=by
    have:=(List.getElem?_eq_some_iff.1 hy).1
    simp at this;omega
   subst this
   simp[hl]at hy
   subst hy;exact hx
theorem jg0 {N:Nat→Prop}{F:TypeId→Option Ty}{G:TypeId→List Value→Prop}(hF:∀T t cs,F T=some t→G T cs→∃y:t.den,Rep w N t .i y cs []∧Wf t y){cs:List Value}:∀{fs:List Field}{off:Nat}{t:Ty},fldTy P F fs off=some t →
  (∀f∈fs,G f.type ((cs.drop f.offset).take (P.cellsOf f.type)))→off+t.cells≤cs.length→∃y:t.den,Rep w N t .i y ((cs.drop off).take t.cells) []∧Wf t y
 | [],off,t,h,_,_=>by
  cases h
  exact⟨(),⟨by simp[Ty.cells],rfl⟩,trivial⟩
 | f::fs,off,t,h,hG,hl=>by
  simp only[fldTy]at h
  split at h
  case isFalse=>cases h
  rename_i ho
  cases hf:F f.type with
  | none=>rw[hf]at h;cases h
  | some tf =>
   rw[hf]at h
   simp only[Option.bind_some]at h
   split at h
   case isFalse=>cases h
   rename_i hc
   cases hr:fldTy P F fs (off+tf.cells) with
   | none=>rw[hr]at h;cases h
   | some tr =>
    rw[hr]at h
    cases h
    simp only[Ty.cells]at hl
    obtain⟨y,hy,hwy⟩:=hF _ _ _ hf (hG f (by simp))
    obtain⟨z,hz,hwz⟩:=jg0 hF hr (fun f' hf'=>hG f' (by simp[hf'])) (by omega)
    rw[ho,hc]at hy
    refine⟨(y,z), ?_,hwy,hwz⟩
    simp only[Rep]
    refine⟨[],[],rfl,by simp[Ty.cells];omega, ?_, ?_⟩
    ·rw[List.take_take,Ty.cells,Nat.min_eq_left (by omega)];exact hy
    ·rw[List.drop_take,List.drop_drop,Ty.cells,Nat.add_sub_cancel_left];exact hz
theorem jhi {N:Nat→Prop}{t:Ty}{cs:List Value}:∀{k j:Nat},(∀i,j≤i→i<j+k→∃y:t.den,Rep w N t .i y ((cs.drop (i*t.cells)).take t.cells) []∧Wf t y)→(j+k)*t.cells≤cs.length →
  ∃y:(repTy t k).den,Rep w N (repTy t k) .i y ((cs.drop (j*t.cells)).take (k*t.cells)) []∧Wf (repTy t k) y
 | 0,j,_,_=>⟨(),⟨by simp,rfl⟩,trivial⟩
 | k+1,j,h,hl=>by
  obtain⟨y,hy,hwy⟩:=h j (Nat.le_refl _) (by omega)
  obtain⟨z,hz,hwz⟩:=jhi (k:=k) (j:=j+1) (fun i h1 h2=>h i (by omega) (by omega)) (by rw[show j+1+k=j+(k+1) by omega];exact hl)
  have e1:(j+(k+1))*t.cells=j*t.cells+t.cells+k*t.cells:=by rw[Nat.add_mul,Nat.succ_mul];omega
  have e2:(k+1)*t.cells=t.cells+k*t.cells:=by rw[Nat.succ_mul];omega
  refine⟨(y,z), ?_,hwy,hwz⟩
  simp only[repTy,Rep]
  refine⟨[],[],rfl,by simp;omega, ?_, ?_⟩
  ·rw[List.take_take,Nat.min_eq_left (by omega)];exact hy
  ·rw[List.drop_take,List.drop_drop,e2,Nat.add_sub_cancel_left]
   rw[Nat.succ_mul]at hz
   exact hz
theorem down {H:Type}{enc:TypeId×Value→H}{base:Nat}{spare:Nat→Bool}{held:Bool}:∀{n:Nat}{T:TypeId}{t:Ty}{fuel:Nat}{cs:List Value}{x:DataW H×List MemPlace},tyOf P n T=some t →
  DataW.trod enc P w base spare held fuel T cs=some x→∃y:t.den,Rep w (fun b=>b<w.heap.size) t .i y cs []∧Wf t y:=by
 intro n
 induction n with
 | zero=>intro T t fuel cs x h;cases h
 | succ n ih =>
  intro T t fuel cs x h hx
  simp only[tyOf]at h
  split at h
  ·rename_i hu
   cases h
   obtain⟨b,rfl,_⟩:=DataW.trod_bool hu hx
   exact⟨b,⟨rfl,rfl⟩,trivial⟩
  ·rename_i k hu
   cases h
   obtain⟨m,rfl,_,hw⟩:=DataW.trod_int hu hx
   exact⟨m,⟨rfl,rfl⟩,hw⟩
  ·rename_i hu
   cases h
   obtain⟨s,rfl,_,hl⟩:=DataW.trod_string hu hx
   exact⟨s.data.toList,⟨rfl,rfl⟩,by simpa [Wf] using hl⟩
  ·rename_i e hu
   cases he:tyOf P n e with
   | none=>rw[he]at h;cases h
   | some te =>
    rw[he]at h
    simp only[Option.bind_some]at h
    split at h
    case isFalse=>cases h
    rename_i hsz
    cases h
    rcases DataW.trod_pointer hu hx with⟨rfl,_⟩|⟨a,cs',y,m,_,rfl,_,hc,hy⟩
    ·exact⟨none,by simp[Rep],by simp[Wf]⟩
    ·rw[hsz.1]at hc
     obtain⟨hs,arr,e',fr,hb,hcs,hle⟩:=cells?_some hc hsz.2
     obtain⟨z,hz,hwz⟩:=ih he hy
     refine⟨some z, ?_,by intro z' hz';cases hz';exact hwz⟩
     simp only[Rep]
     refine⟨trivial,a.block,a.off,arr,e',fr, ?_,um hb,hb,hle,by rw[←hcs];exact hz⟩
     cases a;simp at hs;subst hs;rfl
  ·rename_i e hu
   cases he:tyOf P n e with
   | none=>rw[he]at h;cases h
   | some te =>
    rw[he]at h
    simp only[Option.bind_some]at h
    split at h
    case isFalse=>cases h
    rename_i hsz
    cases h
    rcases DataW.trod_slice hu hx with⟨rfl,_⟩|⟨a,len,cap,elems,rest,m,_,rfl,_,_,h1,h2,h3,h4,_⟩
    ·refine⟨[], ?_,by simp[Wf]⟩
     simp only[Rep]
     exact⟨trivial,none,0,rfl,Nat.le_refl _,Nat.zero_le _,fun h=>absurd rfl h⟩
    ·by_cases hlen:len=0
     ·subst hlen
      refine⟨[], ?_,by simp[Wf]⟩
      simp only[Rep]
      exact⟨trivial,some a,cap,rfl,Nat.zero_le _,h2,fun h=>absurd rfl h⟩
     rw[hsz.1]at h4
     have hcell:∀i,i<len→∃cs' y,w.cells? base (a.add (i*te.cells)) te.cells=some cs'∧DataW.trod enc P w base spare held m e cs'=some y:=by
      intro i hi
      have:=h4 i hi
      cases hcc:w.cells? base (a.add (i*te.cells)) te.cells with
      | none=>rw[hcc,List.getElem?_eq_getElem (by omega)]at this;cases this
      | some cs' =>
       rw[hcc,List.getElem?_eq_getElem (by omega)]at this
       exact⟨cs',_,rfl,this⟩
     obtain⟨cs0,y0,hc0,_⟩:=hcell 0 (by omega)
     obtain⟨hs0,arr,e',fr,hb,_,_⟩:=cells?_some hc0 hsz.2
     have ha0:a.add (0*te.cells)=a:=by simp[Addr.add]
     rw[ha0]at hs0 hb
     obtain⟨b,off,sp⟩:=a
     simp only at hs0 hb
     subst hs0
     have hel:∀i,i<len→∃z:te.den,(off+(i+1)*te.cells≤arr.size∧Rep w (fun b=>b<w.heap.size) te .i z ((arr.toList.drop (off+i*te.cells)).take te.cells) [])∧Wf te z:=by
      intro i hi
      obtain⟨cs',y,hcc,hy⟩:=hcell i hi
      rw[Addr.add_lit]at hcc
      obtain⟨_,arr',e'',fr',hb',hcs,hle⟩:=cells?_some hcc hsz.2
      simp only at hb' hcs hle
      rw[hb]at hb'
      cases hb'
      obtain⟨z,hz,hwz⟩:=ih he hy
      rw[hcs]at hz
      exact⟨z,⟨by rw[Nat.succ_mul];omega,hz⟩,hwz⟩
     obtain⟨l,hl,hp⟩:=jd9 hel
     refine⟨l, ?_,by simp only[Wf];exact⟨by omega,fun x hx=>by
      obtain⟨i,hi⟩:=List.getElem?_of_mem hx
      exact(hp i x hi).2⟩⟩
     simp only[Rep]
     refine⟨trivial,some ⟨b,off,none⟩,cap,by rw[hl],by omega,h2,fun _=>⟨b,off,arr,e',fr,rfl,um hb,hb, ?_⟩⟩
     refine RepL.of_seg ?_ fun i x hx => ?_
     ·obtain⟨z,⟨hz,_⟩,_⟩:=hel (len-1) (by omega)
      have:len-1+1=len:=by omega
      rw[this]at hz
      simp only[List.length_drop,Array.length_toList,hl]
      omega
     ·rw[List.drop_drop]
      exact(hp i x hx).1.2
  ·rename_i fs hu
   cases hf:fldTy P (tyOf P n) fs.toList 0 with
   | none=>rw[hf]at h;cases h
   | some t' =>
    rw[hf]at h
    simp only[Option.bind_some]at h
    split at h
    case isFalse=>cases h
    rename_i hsz
    cases h
    obtain⟨xs,m,_,_,hlen,hxs,hi⟩:=DataW.trod_struct hu hx
    obtain⟨y,hy,hwy⟩:=jg0 (w:=w) (P:=P) (N:=fun b=>b<w.heap.size) (G:=fun T cs=>∃z,DataW.trod enc P w base spare held m T cs=some z) (fun T t cs hT ⟨z,hz⟩=>ih hT hz) (cs:=cs) hf (fun f hf=>by
     obtain⟨i,hif⟩:=List.getElem?_of_mem hf
     rw[Array.getElem?_toList]at hif
     have hlt:i<xs.length:=by
      rw[hxs]
      rcases Nat.lt_or_ge i fs.size with h|h
      ·exact h
      ·rw[Array.getElem?_eq_none h]at hif;cases hif
     exact⟨xs[i],by rw[hi i f hif,List.getElem?_eq_getElem hlt]⟩) (by omega)
    rw[List.drop_zero,List.take_of_length_le (by omega)]at hy
    exact⟨y,hy,hwy⟩
  ·rename_i mm e hu
   cases he:tyOf P n e with
   | none=>rw[he]at h;cases h
   | some te =>
    rw[he]at h
    simp only[Option.bind_some]at h
    split at h
    case isFalse=>cases h
    rename_i hsz
    cases h
    obtain⟨xs,m,_,_,hlen,hxs,hi⟩:=DataW.trod_array hu hx
    obtain⟨y,hy,hwy⟩:=jhi (w:=w) (N:=fun b=>b<w.heap.size) (t:=te) (cs:=cs) (k:=mm) (j:=0) (fun i _ hlt=>by
     have:=hi i (by omega)
     rw[hsz.1,List.getElem?_eq_getElem (by omega)]at this
     exact ih he this) (by rw[hlen,hsz.2];simp)
    rw[Nat.zero_mul,List.drop_zero,List.take_of_length_le (by omega)]at hy
    exact⟨y,hy,hwy⟩
  ·cases h
def argTy (P:Program) (n:Nat):List TypeId→Option Ty
 | []=>some .unit
 | t::ts=>(tyOf P n t).bind fun a=>(argTy P n ts).map (.pair a)
def Ty.isBox:Ty→Bool
 | .pair _ _=>true | .unit=>true|_=>false
theorem jjn {F:TypeId→Option Ty}:∀{fs:List Field}{off:Nat}{t:Ty},fldTy P F fs off=some t→t.isBox=true
 | [],_,t,h=>by cases h;rfl
 | f::fs,off,t,h=>by
  simp only[fldTy]at h
  split at h
  case isFalse=>cases h
  cases hf:F f.type with
  | none=>rw[hf]at h;cases h
  | some tf =>
   rw[hf]at h
   simp only[Option.bind_some]at h
   split at h
   case isFalse=>cases h
   cases hr:fldTy P F fs (off+tf.cells) with
   | none=>rw[hr]at h;cases h
   | some tr=>rw[hr]at h;cases h;rfl
theorem jj7 (t:Ty) (m:Nat):(repTy t m).isBox=true:=by cases m<;>rfl
theorem jg6 {r:Reach}{b0:Nat}{n:Nat}{T:TypeId}{t:Ty}{v:Value}(h:tyOf P n T=some t) (hv:Value.okWide P w r b0 T v):Holds t v v.cells.toList:=by
 have box:∀{t:Ty} {cs:Array Value},t.isBox=true→Holds t (.agg cs) cs.toList:=by
  intro t cs ht
  cases t<;>simp_all [Ty.isBox,Holds]
 cases n with
 | zero=>cases h
 | succ n =>
  simp only[tyOf]at h
  split at h
  ·rename_i hu
   cases h
   simp only[Value.okWide,hu,Cell.okWide]at hv
   cases v<;>simp_all [Cell.ok,Holds,Value.cells]
  ·rename_i k hu
   cases h
   simp only[Value.okWide,hu,Cell.okWide]at hv
   cases v<;>simp_all [Cell.ok,Holds,Value.cells]
  ·rename_i hu
   cases h
   simp only[Value.okWide,hu,Cell.okWide]at hv
   cases v<;>simp_all [Cell.ok,Holds,Value.cells]
  ·rename_i e hu
   simp only[Value.okWide,hu,Cell.okWide]at hv
   cases he:tyOf P n e with
   | none=>rw[he]at h;cases h
   | some te =>
    rw[he]at h
    simp only[Option.bind_some]at h
    split at h
    ·cases h
     cases v<;>simp_all [Cell.ok,Holds,Value.cells]
    ·cases h
  ·rename_i e hu
   simp only[Value.okWide,hu,Cell.okWide]at hv
   cases he:tyOf P n e with
   | none=>rw[he]at h;cases h
   | some te =>
    rw[he]at h
    simp only[Option.bind_some]at h
    split at h
    ·cases h
     cases v<;>simp_all [Cell.ok,Holds,Value.cells]
    ·cases h
  ·rename_i fs hu
   simp only[Value.okWide,hu]at hv
   obtain⟨cs,rfl,_⟩:=hv
   cases hf:fldTy P (tyOf P n) fs.toList 0 with
   | none=>rw[hf]at h;cases h
   | some t' =>
    rw[hf]at h
    simp only[Option.bind_some]at h
    split at h
    ·cases h;exact box (jjn hf)
    ·cases h
  ·rename_i mm e hu
   simp only[Value.okWide,hu]at hv
   obtain⟨cs,rfl,_⟩:=hv
   cases he:tyOf P n e with
   | none=>rw[he]at h;cases h
   | some te =>
    rw[he]at h
    simp only[Option.bind_some]at h
    split at h
    ·cases h;exact box (jj7 _ _)
    ·cases h
  ·cases h
theorem jgt {H:Type}{enc:TypeId×Value→H}{base:Nat}{spare:Nat→Bool}{held:Bool}{r:Reach}{b0 n:Nat}:∀{ts:List TypeId}{vs:List Value}{ds:List (DataW H)}{ps:List MemPlace}{ty:Ty},argTy P n ts=some ty →
  DataW.TrodAll enc P w base spare held ts vs ds ps→(∀(j:Nat) t v,ts[j]? = some t→vs[j]? = some v→Value.okWide P w r b0 t v) →
  ds.length=ts.length∧∃x:ty.den,ArgsR w (fun b=>b<w.heap.size) ty (List.replicate ts.length 0) [] x vs []∧Wf ty x
 | [],vs,ds,ps,ty,hty,h,hv=>by
  cases hty
  cases vs<;>cases ds<;>simp[DataW.TrodAll]at h
  exact⟨rfl,(),rfl,trivial⟩
 | t::ts,vs,ds,ps,ty,hty,h,hv=>by
  cases vs<;>cases ds<;>simp only[DataW.TrodAll]at h
  rename_i v vs d ds
  obtain⟨p,q,⟨fuel,h1⟩,h2,_⟩:=h
  simp only[argTy]at hty
  cases ht:tyOf P n t with
  | none=>rw[ht]at hty;cases hty
  | some a =>
   rw[ht]at hty
   cases hts:argTy P n ts with
   | none=>rw[hts]at hty;cases hty
   | some b =>
    rw[hts]at hty
    cases hty
    obtain⟨x,hx,hwx⟩:=down ht h1
    obtain⟨hl,y,hy,hwy⟩:=jgt hts h2 fun j t v ht hv'=>hv (j+1) t v (by simpa using ht) (by simpa using hv')
    exact⟨by simp[hl],(x,y),⟨⟨_,jg6 ht (hv 0 t v rfl rfl),hx⟩,hy⟩,hwx,hwy⟩
def lawSig (ty:Ty) (n:Nat) (g:ty.den→Option Bool):Sig:={ a:=ty,md:=List.replicate n 0,mf:=[],m := .unit,r := .bool,rf := .i,f:=fun x=>(g x).map fun b=>(b,()) }
theorem jdg {H:Type}{enc:TypeId×Value→H}{W W':World}(hl:laidOutB P=true) (hb:RowKit.Below W.heap.size W W') (sp:Nat→Bool):∀{ts:List TypeId}{vs:List Value}{ds:List (DataW H)}{ps:List MemPlace},
  ts.all (fun t=>P.readableRec t&&decide (t<P.types.size))=true→DataW.TrodAll enc P W 0 (fun _=>true) true ts vs ds ps→(∀p∈ps,sp p.block=true)→DataW.TrodAll enc P W' 0 sp true ts vs ds ps
 | [],vs,ds,ps,_,h,_=>by cases vs<;>cases ds<;>simp_all [DataW.TrodAll]
 | t::ts,vs,ds,ps,hr,h,hs=>by
  have hlt:=h.lt
  cases vs<;>cases ds<;>simp only[DataW.TrodAll]at h ⊢
  obtain⟨p,q,h1,h2,rfl⟩:=h
  simp only[List.all_cons,Bool.and_eq_true,decide_eq_true_eq]at hr
  exact⟨p,q,WideElems.Trod_stays hl hr.1.1 hr.1.2 h1 (fun x hx=>hb.same (hlt x (List.mem_append_left _ hx))) (fun x hx=>hs x (List.mem_append_left _ hx)),jdg hl hb sp (by simpa using hr.2) h2 (fun x hx=>hs x (List.mem_append_right _ hx)),rfl⟩
section
open Go.WideShapes Go.ChangeShapes
variable {H:Type} {enc:TypeId×Value→H} {P:Program}
theorem jla {f:Func}{s:ChangeSpec}{apart fresh handsOn again:Bool}{W W':World}{args:Array Value}{v:Value}{ds gs:List (DataW H)}{p:List MemPlace}
  (hW:DataW.Whole enc P f.params.toList s.vars apart W args.toList ds gs p)
  (hres:∀(b:Nat) (sp:Nat→Bool) (hd:Bool),DataW.TrodAll enc P W' b sp hd f.resultTypes.toList (v.resultList f.resultTypes.size) (s.fn H (ds++gs)).results [])
  (hargs:∀sp:Nat→Bool,(∀q∈p,sp q.block=true)→DataW.TrodAll enc P W' 0 sp true f.params.toList args.toList (s.fn H (ds++gs)).args p)
  (hvars:∀sp:Nat→Bool,(∀q∈p,sp q.block=true)→DataW.TrodVars enc P W' sp s.vars (s.fn H (ds++gs)).vars [])
  (hb:RowKit.Below W.heap.size W W')
  (hok:∀(j:Nat) (t:TypeId) (r:Value),f.resultTypes[j]? = some t→(v.resultList f.resultTypes.size)[j]? = some r→Value.okWide P W' .any 0 t r) :
  s.post enc P f apart fresh handsOn again W args v W':=by
 have hlt:=hW.lt
 have hold:∀q∈p,(fun b=>decide (b<W.heap.size)) q.block=true:=fun q hq=>by simpa using hlt q hq
 refine⟨ds,gs,p,[],p,[],hW,hres _ _ _,hargs _ hold,hvars _ hold,World.keptBut_mono (fun q hq=>⟨hq,Or.inr (Or.inl hq)⟩) (hb.frame _),fun _ => ?_⟩
 obtain⟨_,_,_,_,_,hz,hn⟩:=hW
 refine⟨hok,_,_,([]++p)++[],⟨[]++p,[],trodAll_append (hargs _ (fun _ _=>rfl)) (hres _ _ _),hvars _ (fun _ _=>rfl),rfl, ?_, ?_⟩, ?_⟩
 ·intro b off hp
  have hp':MemPlace.cell b off∈p:=by simpa using hp
  rw[World.frozen?_of_block (hb.block b (hlt _ hp'))]
  exact hz b off (by simpa using hp')
 ·intro ha
  simpa using hn ha
 ·intro q hq _
  simpa using hq
end
theorem law_ok {H:Type}{enc:TypeId×Value→H}{fn:Func}{f:FuncId}{s:ChangeSpec}{W:World}{base:Nat}{args:Array Value}{ds gs:List (DataW H)}{before:List MemPlace}{n:Nat}{ty:Ty}{Tb:TypeId}{apart fresh handsOn again:Bool}
  (g:ty.den→Option Bool) (hl:laidOutB P=true) (hpar:fn.params.toList.all (fun t=>P.readableRec t&&decide (t<P.types.size))=true) (hty:argTy P n fn.params.toList=some ty)
  (hgood:Good P f (lawSig ty fn.params.size g)) (htrue:∀x,Wf ty x→g x=some true) (hrt:fn.resultTypes = #[Tb]) (hTb:P.underlying Tb=some .bool) (hvars:s.vars=[])
  (hs:∀ds:List (DataW H),ds.length=fn.params.size→(s.fn H ds).results=[.lit (.bool true)]∧(s.fn H ds).args=ds∧(s.fn H ds).vars=[])
  (hval:∀(j:Nat) t v,fn.params[j]? = some t→args[j]? = some v→Value.okWide P W .any base t v)
  (hW:DataW.Whole enc P fn.params.toList s.vars apart W args.toList ds gs before) :
  Calls P f args W fun e W'=>∃v,e = .returned v∧s.post enc P fn apart fresh handsOn again W args v W':=by
 have hW':=hW
 obtain⟨p,q,hA,hV,rfl,hfz,hnd⟩:=hW
 rw[hvars]at hV
 obtain⟨rfl,rfl⟩:gs=[]∧q=[]:=by cases gs<;>simp[DataW.TrodVars]at hV;exact⟨rfl,hV⟩
 obtain⟨hdl,x,hx,hwx⟩:=jgt (r := .any) (b0:=base) hty hA fun j t v ht hv=>hval j t v (by rwa [Array.getElem?_toList]at ht) (by rwa [Array.getElem?_toList]at hv)
 rw[Array.length_toList]at hdl hx
 obtain⟨hs1,hs2,hs3⟩:=hs (ds++[]) (by simpa using hdl)
 have hcall:=hgood x (true,()) (by simp[lawSig,htrue x hwx]) W (fun b=>b<W.heap.size) args [] hx (by simp) (by simp) (fun _ h=>h)
 refine hcall.mono fun e W' he => ?_
 cases e with
 | panicked chain=>exact he.elim
 | outgrown=>exact he.elim
 | returned v =>
  obtain⟨F,M',hnd',hrep,hmut,hfresh,hlt,hframe,hgrow,e1,e2,e3,hfz'⟩:=he
  have hv:v = .bool true:=by
   rcases hrep with⟨cs,h1,h2⟩|⟨u,_,_,h1,_⟩
   ·simp only[lawSig,Holds]at h1
    simp only[lawSig,Rep]at h2
    rw[h1]at h2
    simpa using h2.1
   ·cases h1
  subst hv
  have hb:RowKit.Below W.heap.size W W':=⟨e1,e2,e3,hgrow,fun k hk=>hframe k hk (by simp)⟩
  refine⟨_,rfl,jla hW' (fun _ _ _ => ?_) (fun sp hsp => ?_) (fun _ _ => ?_) hb (RowKit.ok_one hrt rfl (RowKit.okWide_bool_mk hTb _))⟩
  ·rw[hs1,hrt]
   exact ChangeShapes.trodAll_mk1 (RowKit.shut_bool hTb true)
  ·rw[hs2]
   simpa using jdg hl hb sp hpar hA fun p hp=>hsp p (by simpa using hp)
  ·rw[hs3,hvars];rfl
end
end Go.Gx
