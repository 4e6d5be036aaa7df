import Derived.Test.YtnolmlelfmadkaaGxGen
import Derived.IntWalk
set_option linter.unusedVariables false
namespace Go.Gx
open Go
theorem wr {n:Int}(h1 : -9223372036854775808≤n) (h2:n≤9223372036854775807):IntKind.i64.wrap n=n:=IntWalk.i64_in n ⟨h1,h2⟩
theorem jy {α:Type}(xs:List α) (i:Nat):atI xs (i:Int)=xs[i]? := by simp[atI]
theorem jf {α:Type}(xs:List α) (i:Nat) (h:i<xs.length):atI xs (i:Int)=some xs[i]:=by rw[jy,List.getElem?_eq_getElem h]
theorem uu {α:Type}(x:α) (n:Nat) (h:n≤4294967296):mkI x (n:Int)=some (List.replicate n x):=by
 simp[mkI];omega
theorem jk {α:Type}{xs ys:List α}(h:xs.length+ys.length≤4294967296):appI xs ys=some (xs++ys):=by simp[appI,h]
theorem qo {α:Type}(xs:List α) (lo hi:Nat) (h1:lo≤hi) (h2:hi≤xs.length):slI xs (lo:Int) (hi:Int)=some ((xs.drop lo).take (hi-lo)):=by
 unfold slI
 rw[if_pos (by omega)]
 congr 2
 omega
theorem jq:1099511627776≤big:=by unfold big;decide
theorem cd {α:Type}{p:Prop} [Decidable p] {a b:α}:cond (decide p) a b=if p then a else b:=by by_cases h:p<;>simp[h]
theorem cdt {α:Type}{p:Prop} [Decidable p] {a b:α}(h:p):cond (decide p) a b=a:=by simp[h]
theorem cdf {α:Type}{p:Prop} [Decidable p] {a b:α}(h:¬p):cond (decide p) a b=b:=by simp[h]
theorem Good.congr {P:Program}{f:FuncId}{a:Ty}{md:List Nat}{mf:List Fl}{m r:Ty}{rf:Fl}{g h:a.den→Option (r.den×m.den)}(e:∀x,h x=g x) (hg:Good P f { a:=a,md:=md,mf:=mf,m:=m,r:=r,rf:=rf,f:=g }) :
  Good P f { a:=a,md:=md,mf:=mf,m:=m,r:=r,rf:=rf,f:=h }:=by
 have:h=g:=funext e
 rw[this];exact hg
theorem map_pair (o:Option (Bool×Unit)):(o.map (·.1)).map (fun b=>(b,()))=o:=by
 cases o with
 | none=>rfl
 | some p=>rfl
theorem idxR {cnt:Nat}(P:Nat→Nat→Prop) (hs:∀m i,i<cnt→P m (i+1)→P (m+1) i) (he:∀m,P (m+1) cnt):∀m i,i≤cnt→cnt<m+i→P m i
 | 0,i,h1,h2=>absurd h2 (by omega)
 | m+1,i,h1,h2=>by
  rcases Nat.lt_or_ge i cnt with hl|hg
  ·exact hs m i hl (idxR P hs he m (i+1) (by omega) (by omega))
  ·obtain rfl:i=cnt:=by omega
   exact he m
theorem idxB {cnt:Nat}(P:Nat→Nat→Prop) (hs:∀m i,i<cnt→P m (i+1)→P (m+1) i) (he:∀m,P (m+1) cnt) (i0:Nat) (hi:i0≤cnt) (hn:cnt≤500000000000):P big i0:=idxR P hs he big i0 hi (by have:=jq;omega)
theorem obS {α β:Type}{a:α}{f:α→Option β}:(some a).bind f=f a:=rfl
theorem muR (P:Nat→Prop) (h0:P 0) (hs:∀m,P m→P (m+1)):∀m,P m
 | 0=>h0
 | m+1=>hs m (muR P h0 hs m)
end Go.Gx
