import Derived.Test.YtnolmlelfmadkaaPLib
set_option linter.unusedVariables false
namespace Go.Gx
open Go
def mkR {α:Type}(n:Nat) (g:Nat→α):List α:=(List.range n).map g
abbrev mkT {α:Type}(n:Nat) (f:Nat→Nat→α):List (List α):=mkR n fun x=>mkR n (f x)
section
variable {α:Type}
@[simp] theorem mkR_len (n:Nat) (g:Nat→α):(mkR n g).length=n:=by simp[mkR]
theorem app1 {xs:List α}{x:α}(h:xs.length≤4294967295):appI xs [x]=some (xs++[x]):=by simp[appI];omega
end
def cs (S:List Nat):List Int:=S.map fun x:Nat=>(x:Int)
@[simp] theorem cs_len (S:List Nat):(cs S).length=S.length:=by simp[cs]
@[simp] theorem cs_nil:cs []=[]:=rfl
@[simp] theorem cs_cons (x:Nat) (S:List Nat):cs (x::S)=(x:Int)::cs S:=rfl
@[simp] theorem cs_mem {S:List Nat} {x:Nat}:(x:Int)∈cs S↔x∈S:=by
 simp only[cs,List.mem_map]
 exact⟨fun⟨y,hy,e⟩=>(show y=x by omega)▸hy,fun h=>⟨x,h,rfl⟩⟩
def fl (n:Nat) (P:Nat→Bool):List Nat:=(List.range n).filter P
theorem fl_mem {n:Nat}{P:Nat→Bool}{x:Nat}:x∈fl n P↔x<n∧P x=true:=by simp[fl]
theorem jh (n:Nat) (P:Nat→Bool):(fl n P).length≤n:=Nat.le_trans (List.length_filter_le _ _) (by simp)
theorem wb9 {n:Nat}{P Q:Nat→Bool}(h:fl n P=fl n Q){x:Nat}(hx:x<n):P x=Q x:=by
 have h1:x∈fl n P↔x∈fl n Q:=by rw[h]
 rw[fl_mem,fl_mem]at h1
 cases hp:P x<;>cases hq:Q x<;>simp_all
noncomputable def tv (P:Prop):Bool := @decide P (Classical.propDecidable P)
theorem all_lt_succ {i:Nat}{P:Nat→Prop}:(∀j,j<i+1→P j)↔(∀j,j<i→P j)∧P i:=by
 constructor
 ·exact fun h=>⟨fun j hj=>h j (by omega),h i (by omega)⟩
 ·intro⟨h1,h2⟩ j hj
  rcases Nat.lt_or_ge j i with h|h
  ·exact h1 j h
  ·have:j=i:=by omega
   exact this▸h2
end Go.Gx
