import Derived.Test.YtnolmlelfmadkaaGxBox
set_option linter.unusedSimpArgs false
set_option linter.unusedVariables false
namespace Go.Gx
open Go
def forget (ds:List Nat) (st:St):St:=ds.foldl (fun s d=>s.put d .u) st
def regsAt (ids:List Nat):Code→List Code
 | .region i ops d=>if ids.contains i then [.region i ops d] else []
 | .seq a b=>if ids.contains (3000000+rid a) then [.seq a b] else regsAt ids a++regsAt ids b
 | .cond _ a b=>regsAt ids a++regsAt ids b
 | .block _ c=>regsAt ids c
 | .loop c=>regsAt ids c
 | _=>[]
theorem jat {P:Program}{A:Cfg}{ids:List Nat}(h0:∀i,i ∉ ids→A.hook i=none):∀{code:Code},(∀c∈regsAt ids code,HooksOk P A c)→HooksOk P A code
 | .region i ops d,h=>by
  by_cases hi:i∈ids
  ·exact h _ (by simp[regsAt,hi])
  ·unfold HooksOk;rw[h0 i hi];trivial
 | .seq a b,h=>by
  by_cases hi:(3000000+rid a)∈ids
  ·exact h _ (by simp[regsAt,hi])
  ·unfold HooksOk;rw[h0 _ hi]
   exact⟨jat h0 fun c hc=>h c (by simp[regsAt,hi,hc]),jat h0 fun c hc=>h c (by simp[regsAt,hi,hc])⟩
 | .cond _ a b,h=>⟨jat h0 fun c hc=>h c (by simp[regsAt,hc]),jat h0 fun c hc=>h c (by simp[regsAt,hc])⟩
 | .block _ c,h=>by unfold HooksOk;exact jat h0 fun c' hc=>h c' (by simpa [regsAt] using hc)
 | .loop c,h=>by unfold HooksOk;exact jat h0 fun c' hc=>h c' (by simpa [regsAt] using hc)
 | .skip,_=>trivial
 | .exit _,_=>trivial
 | .ret,_=>trivial
 | .rangeFunc _ _ _ _,_=>trivial
 | .scope _,_=>trivial
 | .label _,_=>trivial
 | .goto _,_=>trivial
 | .refuse _,_=>trivial
end Go.Gx
