import Derived.Test.YtnolmlelfmadkaaGxSort2
set_option linter.unusedVariables false
set_option linter.unusedSimpArgs false
namespace Go.Gx
open Go Go.Proofs Go.Shelf Go.RowKit Go.Lib Go.Sort
variable {P:Program} {ρ:Ren} {α:Type} [Inhabited α] {lt:α→α→Bool}
theorem jdz {a mid b:Nat}{d:Array α}(h1:SortedIn lt a mid d) (h2:SortedIn lt mid b d) (hx:∀p q,a≤p→p<mid→mid≤q→q<b→lt d[q]! d[p]! = false):SortedIn lt a b d:=by
 intro i j hi hij hj
 by_cases h:j<mid
 ·exact h1 i j hi hij h
 ·by_cases h':i<mid
  ·exact hx i j hi h' (by omega) hj
  ·exact h2 i j (by omega) hij hj
theorem jer {s m e:Nat}{d:Array α}(h:s=m∨m=e):Rot s m e d d:=by
 refine⟨rfl,fun _ _=>rfl,fun k hk => ?_,fun k hk => ?_,fun _ _ _ _ _=>permIn_refl _ _ _⟩
 ·rcases h with h|h
  ·rw[h]
  ·omega
 ·rcases h with h|h
  ·omega
  ·exact gi (by omega)
section
variable {a s m e b:Nat} {d d1:Array α}
structure Four (lt:α→α→Bool) (a s m e b:Nat) (d1:Array α):Prop where
 p1:SortedIn lt a s d1
 p2:SortedIn lt s (s+(e-m)) d1
 p3:SortedIn lt (s+(e-m)) e d1
 p4:SortedIn lt e b d1
theorem Rot.four (hr:Rot s m e d d1) (h1:a≤s) (h2:s≤m) (h3:m≤e) (h4:e≤b) (hl:SortedIn lt a m d) (hg:SortedIn lt m b d):Four lt a s m e b d1:=by
 obtain⟨r1,r2,r3,r4,r5⟩:=hr
 refine⟨fun i j hi hij hj => ?_,fun i j hi hij hj => ?_,fun i j hi hij hj => ?_,fun i j hi hij hj => ?_⟩
 ·rw[r2 i (by omega),r2 j (by omega)];exact hl i j hi hij (by omega)
 ·have e1:=r3 (i-s) (by omega)
  have e2:=r3 (j-s) (by omega)
  rw[show s+(i-s)=i by omega]at e1
  rw[show s+(j-s)=j by omega]at e2
  rw[e1,e2]
  exact hg _ _ (by omega) (by omega) (by omega)
 ·have e1:=r4 (i-(s+(e-m))) (by omega)
  have e2:=r4 (j-(s+(e-m))) (by omega)
  rw[show s+(e-m)+(i-(s+(e-m)))=i by omega]at e1
  rw[show s+(e-m)+(j-(s+(e-m)))=j by omega]at e2
  rw[e1,e2]
  exact hl _ _ (by omega) (by omega) (by omega)
 ·rw[r2 i (by omega),r2 j (by omega)];exact hg i j (by omega) hij hj
omit [Inhabited α] in
theorem ntr (hO:SWO lt){x y:α}(h:lt x y=true):lt y x=false:=by
 cases h2:lt y x with
 | false=>rfl
 | true=>have:=hO.trans _ _ _ h h2;rw[hO.irrefl]at this;cases this
theorem Rot.cross (hO:SWO lt) (hr:Rot s m e d d1) (h1:a≤s) (h2:s≤m) (h3:m≤e) (h4:e≤b) (hl:SortedIn lt a m d) (hg:SortedIn lt m b d)
  (c1:s<m→m<e→lt d[e-1]! d[s]! = true) (c2:a<s→e<b→lt d[e]! d[s-1]! = false) :
  ∀p q,a≤p→p<s+(e-m)→s+(e-m)≤q→q<b→lt d1[q]! d1[p]! = false:=by
 obtain⟨r1,r2,r3,r4,r5⟩:=hr
 have le:∀{lo hi:Nat},SortedIn lt lo hi d→∀i j,lo≤i→i≤j→j<hi→lt d[j]! d[i]! = false:=fun h i j hi hij hj=>by
  rcases Nat.lt_or_ge i j with h'|h'
  ·exact h i j hi h' hj
  ·rw[show i=j by omega];exact hO.irrefl _
 intro p q hp hpm hq hqb
 have hpc:p<s∨∃k,k<e-m∧p=s+k:=by
  rcases Nat.lt_or_ge p s with h|h
  ·exact .inl h
  ·exact .inr ⟨p-s,by omega,by omega⟩
 have hqc:e≤q∨∃k,k<m-s∧q=s+(e-m)+k:=by
  rcases Nat.lt_or_ge q e with h|h
  ·exact .inr ⟨q-(s+(e-m)),by omega,by omega⟩
  ·exact .inl h
 rcases hpc with h|⟨k,hk,rfl⟩<;>rcases hqc with g|⟨k2,hk2,rfl⟩
 ·rw[r2 p (by omega),r2 q (by omega)]
  have x1:=c2 (by omega) (by omega)
  have x2:=le hg e q (by omega) g hqb
  have x3:=le hl p (s-1) hp (by omega) (by omega)
  exact hO.ntrans _ _ _ (hO.ntrans _ _ _ x2 x1) x3
 ·rw[r2 p (by omega),r4 k2 hk2]
  exact le hl p (s+k2) hp (by omega) (by omega)
 ·rw[r3 k hk,r2 q (by omega)]
  exact le hg (m+k) q (by omega) (by omega) hqb
 ·rw[r3 k hk,r4 k2 hk2]
  have x1:=ntr hO (c1 (by omega) (by omega))
  have x2:=le hl s (s+k2) (by omega) (by omega) (by omega)
  have x3:=le hg (m+k) (e-1) (by omega) (by omega) (by omega)
  exact hO.ntrans _ _ _ (hO.ntrans _ _ _ x2 x1) x3
theorem jc7 (hO:SWO lt){d2 d3:Array α}(hr:Rot s m e d d1) (h1:a≤s) (h2:s≤m) (h3:m≤e) (h4:e≤b) (hb:b≤d.size) (hx:∀p q,a≤p→p<s+(e-m)→s+(e-m)≤q→q<b→lt d1[q]! d1[p]! = false)
  (p2:PermIn a (s+(e-m)) d1 d2) (s2:SortedIn lt a (s+(e-m)) d2) (p3:PermIn (s+(e-m)) b d2 d3) (s3:SortedIn lt (s+(e-m)) b d3):PermIn a b d d3∧SortedIn lt a b d3:=by
 have z1:d1.size=d.size:=hr.1
 have z2:d2.size=d.size:=p2.1.trans z1
 have q1:PermIn a b d d1:=hr.2.2.2.2 a b h1 h4 hb
 refine⟨permIn_trans _ _ _ _ _ q1 (permIn_trans _ _ _ _ _ (permIn_mono _ _ _ _ _ _ (Nat.le_refl _) (by omega) (by omega) p2) (permIn_mono _ _ _ _ _ _ (by omega) (Nat.le_refl _) (by omega) p3)), ?_⟩
 refine jdz (mid:=s+(e-m)) (fun i j hi hij hj => ?_) s3 fun p q hp hpm hq hqb => ?_
 ·rw[p3.2.1 i (by omega),p3.2.1 j (by omega)];exact s2 i j hi hij hj
 ·rw[p3.2.1 p (by omega)]
  refine permIn_all d2 d3 _ b (fun y=>lt y d2[p]! = false) (by omega) p3 (fun q hq hqb => ?_) q hq hqb
  rw[p2.2.1 q (by omega)]
  exact permIn_all d1 d2 a _ (fun y=>lt d1[q]! y=false) (by omega) p2 (fun p hp hpm=>hx p q hp hpm hq hqb) p hp hpm
end
end Go.Gx
