import Derived.Test.YtgmapdlhkfajoaaGreatPLib
set_option linter.unusedVariables false
namespace Go.Gx
open Go
def mkR {α:Type}(n:Nat) (g:Nat→α):List α:=(List.range n).map g
abbrev mkT {α:Type}(n:Nat) (f:Nat→Nat→α):List (List α):=mkR n fun x=>mkR n (f x)
section
variable {α:Type}
@[simp] theorem mkR_len (n:Nat) (g:Nat→α):(mkR n g).length=n:=by simp[mkR]
theorem jcy (g:Nat→α):mkR 0 g=[]:=rfl
theorem jp {n i:Nat}{g:Nat→α}(h:i<n):(mkR n g)[i]? = some (g i):=by simp[mkR,h]
theorem jd {n i:Nat}{g:Nat→α}(h:i<n):atI (mkR n g) (i:Int)=some (g i):=by rw[jy,jp h]
theorem jt {n:Nat}{g h:Nat→α}(e:∀i,i<n→g i=h i):mkR n g=mkR n h:=List.map_congr_left fun i hi=>e i (List.mem_range.1 hi)
theorem jw {n:Nat}{f g:Nat→Nat→α}(e:∀a b,a<n→b<n→f a b=g a b):mkT n f=mkT n g:=jt fun a ha=>jt fun b hb=>e a b ha hb
theorem jv (n:Nat) (g:Nat→α):mkR (n+1) g=mkR n g++[g n]:=by simp[mkR,List.range_succ]
theorem qz {n i:Nat}{g:Nat→α}{v:α}:(mkR n g).set i v=mkR n fun j=>if j=i then v else g j:=by
 apply List.ext_getElem?
 intro j
 rw[List.getElem?_set]
 simp only[mkR,List.length_map,List.length_range,List.getElem?_map]
 by_cases hj:i=j
 ·subst hj
  by_cases h:i<n
  ·simp[h]
  ·simp[h]
 ·rw[if_neg hj]
  by_cases h:j<n
  ·simp[h,Ne.symm hj]
  ·simp[h]
theorem jij (n:Nat) (v:α):List.replicate n v=mkR n fun _=>v:=by
 apply List.ext_getElem?
 intro j
 by_cases h:j<n
 ·simp[mkR,h]
 ·simp[mkR,h]
theorem jar {n:Nat}{v:α}(h:n≤4294967296):mkI v (n:Int)=some (mkR n fun _=>v):=by
 rw[←jij];simp[mkI];omega
theorem mkR_mem {n:Nat}{g:Nat→α}{x:α}:x∈mkR n g↔∃i,i<n∧g i=x:=by simp[mkR]
theorem jci {n:Nat}{l:List α}{g:Nat→α}(h1:l.length=n) (h2:∀i (h:i<l.length),l[i]=g i):l=mkR n g:=by
 apply List.ext_getElem
 ·simp[h1]
 ·intro i h3 h4;rw[h2 i h3];simp[mkR]
theorem app1 {xs:List α}{x:α}(h:xs.length≤4294967295):appI xs [x]=some (xs++[x]):=by simp[appI];omega
end
def cs (S:List Nat):List Int:=S.map fun x:Nat=>(x:Int)
@[simp] theorem cs_len (S:List Nat):(cs S).length=S.length:=by simp[cs]
@[simp] theorem cs_nil:cs []=[]:=rfl
@[simp] theorem cs_cons (x:Nat) (S:List Nat):cs (x::S)=(x:Int)::cs S:=rfl
theorem qb (S T:List Nat):cs (S++T)=cs S++cs T:=by simp[cs]
theorem jo {S:List Nat}{i:Nat}(h:i<S.length):atI (cs S) (i:Int)=some ((S[i]:Nat):Int):=by rw[jf _ i (by simpa using h)];simp[cs]
theorem jz {S:List Nat}{i:Nat}(h:i<S.length):(cs S)[i]? = some ((S[i]:Nat):Int):=by simp[cs,h]
@[simp] theorem cs_mem {S:List Nat} {x:Nat}:(x:Int)∈cs S↔x∈S:=by
 simp only[cs,List.mem_map]
 exact⟨fun⟨y,hy,e⟩=>(show y=x by omega)▸hy,fun h=>⟨x,h,rfl⟩⟩
def fl (n:Nat) (P:Nat→Bool):List Nat:=(List.range n).filter P
theorem qi (n:Nat) (P:Nat→Bool):fl (n+1) P=if P n then fl n P++[n] else fl n P:=by
 unfold fl
 rw[List.range_succ,List.filter_append]
 by_cases h:P n<;>simp[h]
theorem fl_t {n:Nat}{P:Nat→Bool}(h:P n=true):cs (fl n P)++[(n:Int)]=cs (fl (n+1) P):=by rw[qi,if_pos h,qb];rfl
theorem fl_f {n:Nat}{P:Nat→Bool}(h:P n=false):cs (fl n P)=cs (fl (n+1) P):=by rw[qi,if_neg (by simp[h])]
theorem fl_mem {n:Nat}{P:Nat→Bool}{x:Nat}:x∈fl n P↔x<n∧P x=true:=by simp[fl]
theorem jh (n:Nat) (P:Nat→Bool):(fl n P).length≤n:=Nat.le_trans (List.length_filter_le _ _) (by simp)
theorem ut {n:Nat}{P Q:Nat→Bool}(h:∀x,x<n→P x=Q x):fl n P=fl n Q:=List.filter_congr fun x hx=>h x (List.mem_range.1 hx)
theorem fl_inj {n:Nat}{P Q:Nat→Bool}(h:fl n P=fl n Q){x:Nat}(hx:x<n):P x=Q x:=by
 have h1:x∈fl n P↔x∈fl n Q:=by rw[h]
 rw[fl_mem,fl_mem]at h1
 cases hp:P x<;>cases hq:Q x<;>simp_all
noncomputable def tv (P:Prop):Bool := @decide P (Classical.propDecidable P)
theorem tv_t {P:Prop}(h:P):tv P=true:=by simp[tv,h]
theorem tv_f {P:Prop}(h:¬P):tv P=false:=by simp[tv,h]
theorem tv_iff {P:Prop}:tv P=true↔P:=by simp[tv]
theorem qt {P Q:Prop}(h:P↔Q):tv P=tv Q:=by rw[propext h]
theorem jbb {P:Prop}{b:Bool}(h:b=true↔P):tv P=b:=by cases b<;>simp_all [tv]
theorem qp {α:Type}{l:List α}{i:Nat}(h:i<l.length){P:α→Prop}:(∀x∈l.take (i+1),P x)↔(∀x∈l.take i,P x)∧P l[i]:=by
 rw[List.take_succ_eq_append_getElem h]
 simp only[List.mem_append,or_imp,forall_and,List.mem_singleton,forall_eq]
theorem uu {α:Type}{l:List α}{i:Nat}(h:i<l.length){x:α}:x∈l.take (i+1)↔x∈l.take i∨x=l[i]:=by
 rw[List.take_succ_eq_append_getElem h,List.mem_append,List.mem_singleton]
theorem jea {α:Type}{l:List α}{i:Nat}(h:i<l.length){p:α→Bool}:(l.take (i+1)).all p=((l.take i).all p&&p l[i]):=by
 rw[List.take_succ_eq_append_getElem h,List.all_append];simp only[List.all_cons,List.all_nil,Bool.and_true]
theorem jgp {α:Type}{l:List α}{p:α→Bool}{i:Nat}(h:i<l.length) (h1:∀x∈l.take i,¬p x=true) (h2:p l[i]=true):l.find? p=some l[i]:=by
 have e:l.take i++l[i]::l.drop (i+1)=l:=by rw[←List.drop_eq_getElem_cons h,List.take_append_drop]
 have:(l.take i++l[i]::l.drop (i+1)).find? p=some l[i]:=by
  rw[List.find?_append,List.find?_eq_none.2 h1,List.find?_cons_of_pos h2];rfl
 rw[←this,e]
theorem all_lt_succ {i:Nat}{P:Nat→Prop}:(∀j,j<i+1→P j)↔(∀j,j<i→P j)∧P i:=by
 constructor
 ·exact fun h=>⟨fun j hj=>h j (by omega),h i (by omega)⟩
 ·intro⟨h1,h2⟩ j hj
  rcases Nat.lt_or_ge j i with h|h
  ·exact h1 j h
  ·have:j=i:=by omega
   exact this▸h2
end Go.Gx
