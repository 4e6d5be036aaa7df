import Derived.Test.YtnolmlelfmadkaaGxSort3
set_option linter.unusedVariables false
set_option linter.unusedSimpArgs false
namespace Go.Gx
open Go Go.Proofs Go.Shelf Go.RowKit Go.Lib Go.Sort
variable {P:Program} {ρ:Ren} {α:Type} [Inhabited α]
theorem jlc {a m k:Nat}{d dk:Array α}(hm:a+1≤m∧m≤a+1) (hk:a≤k) (hks:k+1<d.size) (h:Rot a m (k+1) d dk):Rot a m (k+1+1) d (swp dk k (k+1)):=by
 obtain⟨r1,r2,r3,r4,r5⟩:=h
 have r40:=r4 0 (by omega)
 rw[show a+(k+1-m)+0=k by omega]at r40
 refine⟨by rw[size_swp,r1],fun j hj => ?_,fun j hj => ?_,fun j hj => ?_,fun lo hi hlo hhi hsz => ?_⟩
 ·rw[swp_other _ _ _ _ (by omega) (by omega)];exact r2 j (by omega)
 ·rcases Nat.lt_or_ge j (k+1-m) with h'|h'
  ·rw[swp_other _ _ _ _ (by omega) (by omega)];exact r3 j h'
  ·rw[show a+j=k by omega,swp_left _ _ _ (by omega) (by omega),r2 _ (by omega)]
   exact gi (by omega)
 ·rw[show a+(k+1+1-m)+j=k+1 by omega,swp_right _ _ _ (by omega),r40]
  exact gi (by omega)
 ·exact permIn_trans _ _ _ _ _ (r5 lo hi hlo (by omega) hsz) (swp_permIn dk lo hi k (k+1) (by omega) (by omega) (by omega) (by omega) (by omega))
set_option maxHeartbeats 8000000 in
set_option maxRecDepth 100000 in
theorem jjx (L:LaysGt.n30 P ρ) (enc:α→Value) (lt:α→α→Bool) (hO:SWO lt) (g:Nat) (lb:Array Value) (sf:Nat) (sb:Array Value) (blk off a m b:Nat) (w0 W:World) (d0 d:Array α)
  (eg:∀args w,(callFunc g args).run P w = .ok (.enter g args) w) (hless:LessReads P g lb enc lt blk off d0.size w0) (hswap:SwapSwaps P sf sb enc blk off d0.size) (hH:Holds enc w0 blk off d0) (hblk:blk<w0.heap.size)
  (hW:SW enc w0 blk off d W) (hs:d.size=d0.size) (hm:a+1≤m∧m≤a+1) (hmb:m<b) (hb:b≤d0.size) (hsz:d0.size<2305843009213693952) (hl:SortedIn lt a m d) (hg:SortedIn lt m b d) :
  Calls P (ρ.f 30) #[.agg #[.func (.func g) #[] lb,.func (.func sf) #[] sb],.int .i64 a,.int .i64 m,.int .i64 b] W fun e w'=>e = .returned (.tuple #[])∧∃d',SW enc w0 blk off d' w'∧PermIn a b d d'∧SortedIn lt a b d'∧Fr blk W w':=by
 have mixed:=L.mixed;have t0:=L.t0;have a0:=L.a0;have z0:=L.z0;have v0:=L.v0;have t3:=L.t3;have a3:=L.a3;have z3:=L.z3;have v3:=L.v3;have t4:=L.t4;have a4:=L.a4;have z4:=L.z4;have v4:=L.v4;have t26:=L.t26;have a26:=L.a26;have z26:=L.z26;have v26:=L.v26;have t38:=L.t38;have a38:=L.a38;have z38:=L.z38;have v38:=L.v38;have t42:=L.t42;have a42:=L.a42;have z42:=L.z42;have v42:=L.v42;have t47:=L.t47;have a47:=L.a47;have z47:=L.z47;have v47:=L.v47
 have u42:=run_underlying L.t42
 have hle:=hW.le
 have hne:W.heap.size≠blk:=by omega
 have hSW:=hW.alloc (.cells #[.func (.func g) #[] lb,.func (.func sf) #[] sb] (ρ.t 42))
 have hm1:(m:Int)-(a:Int)=1:=by omega
 go_enter L.f30,BodyGt.n30_ntmps ρ
 go_wp2
 go_loopw [8,9] (fun vi vj wr=>∃i j:Nat,vi = .int .i64 i∧vj = .int .i64 j∧m≤i∧i≤j∧j≤b∧(∀k,m≤k→k<i→lt d[k]! d[a]! = true)∧(∀k,j≤k→k<b→lt d[k]! d[a]! = false)∧SW enc w0 blk off d wr∧Fr blk W wr∧Bx2 W.heap.size (.func (.func g) #[] lb) (.func (.func sf) #[] sb) wr) (fun vi vj _=>(Go.Proofs.intOf vj).toNat-(Go.Proofs.intOf vi).toNat)
 case atStart=>exact⟨m,b,rfl,rfl,by omega,by omega,by omega,fun k _ _=>by omega,fun k _ _=>by omega,hSW,(Fr.refl _ _).alloc _,⟨by simp,by simp,by simp⟩⟩
 case round =>
  obtain⟨i,j,rfl,rfl,hi,hij,hj,hlo,hhi,hsw,hF,hB⟩:=hrel
  obtain⟨x0,x1,_⟩:=id hB
  have HS:Hid (SW enc w0 blk off d wr):=hsw
  have HF:Hid (Fr blk W wr):=hF
  have HB:Hid (Bx2 W.heap.size (.func (.func g) #[] lb) (.func (.func sf) #[] sb) wr):=hB
  have HLO:Hid (∀k,m≤k→k<i→lt d[k]! d[a]! = true):=hlo
  have HHI:Hid (∀k,j≤k→k<b→lt d[k]! d[a]! = false):=hhi
  clear hsw hF hB hlo hhi
  by_cases hlt:i<j
  ·have hc:=HS.out.less hless hs ((i+j) / 2) a (by omega) (by omega)
   have hltz:(i:Int)<j:=by omega
   rw[show(((i+j) / 2:Nat):Int)=((i:Int)+j) / 2 by omega]at hc
   have HR:Hid (SortedIn lt m b d):=hg
   clear hless hswap hH hSW hW
   cases hv:lt d[(i+j) / 2]! d[a]! with
   | true =>
    rw[hv]at hc
    go_wp2_with (go_at_fn g;refine hc.mono ?_;rintro e w1 ⟨rfl,q,rfl⟩)
    go_roundw
    case rel =>
     refine⟨(i+j) / 2+1,j,by go_num,rfl,by omega,by omega,by omega,fun k hk1 hk2 => ?_,HHI.out,HS.out.drewN q,HF.out.drewN q,HB.out⟩
     rcases Nat.lt_or_ge k ((i+j) / 2) with h|h
     ·have x1:=HR.out k ((i+j) / 2) hk1 h (by omega)
      cases hx:lt d[k]! d[a]! with
      | true=>rfl
      | false=>have:=hO.ntrans _ _ _ x1 hx;rw[hv]at this;cases this
     ·rw[show k=(i+j) / 2 by omega];exact hv
    case measure=>simp[Go.Proofs.intOf];omega
   | false =>
    rw[hv]at hc
    go_wp2_with (go_at_fn g;refine hc.mono ?_;rintro e w1 ⟨rfl,q,rfl⟩)
    go_roundw
    case rel =>
     refine⟨i,(i+j) / 2,rfl,by go_num,by omega,by omega,by omega,HLO.out,fun k hk1 hk2 => ?_,HS.out.drewN q,HF.out.drewN q,HB.out⟩
     rcases Nat.lt_or_ge ((i+j) / 2) k with h|h
     ·exact hO.ntrans _ _ _ (HR.out ((i+j) / 2) k (by omega) h hk2) hv
     ·rw[show k=(i+j) / 2 by omega];exact hv
    case measure=>simp[Go.Proofs.intOf];omega
  ·have hlz:¬((i:Int)<j):=by omega
   have e:i=j:=by omega
   subst e
   clear hless hSW hW
   go_wp2
   go_loopw [11] (fun vk wr2=>∃(k:Nat) (dk:Array α),vk = .int .i64 k∧a≤k∧k<i∧dk.size=d0.size∧SW enc w0 blk off dk wr2∧Rot a m (k+1) d dk∧Fr blk W wr2∧Bx2 W.heap.size (.func (.func g) #[] lb) (.func (.func sf) #[] sb) wr2) (fun vk _=>i-(Go.Proofs.intOf vk).toNat)
   case atStart=>exact⟨a,d,rfl,by omega,by omega,hs,HS.out,jer (.inr (by omega)),HF.out,HB.out⟩
   case round =>
    obtain⟨k,dk,rfl,hk,hki,hsk,hsw,hR,hF,hB⟩:=hrel
    obtain⟨_,x1,_⟩:=id hB
    have HS:Hid (SW enc w0 blk off dk wr):=hsw
    have HF:Hid (Fr blk W wr):=hF
    have HB:Hid (Bx2 W.heap.size (.func (.func g) #[] lb) (.func (.func sf) #[] sb) wr):=hB
    have HR:Hid (Rot a m (k+1) d dk):=hR
    have hHk:=hsw.holds hblk hH hsk
    clear hsw hF hB hR
    by_cases hkl:k<i-1
    ·have hs2:=hswap wr dk hHk hsk k (k+1) (by omega) (by omega)
     rw[show(((k+1:Nat):Int))=(k:Int)+1 by omega]at hs2
     have hkz:(k:Int)<(i:Int)-1:=by omega
     clear hHk hH hswap
     go_wp2
     go_roundw
     case rel=>exact⟨k+1,swp dk k (k+1),by go_num,by omega,by omega,by rw[size_swp];exact hsk,HS.out.swap hblk _ _ (by omega) (by omega),jlc hm hk (by omega) HR.out,(HF.out.setCell _ _).setCell _ _,HB.out.keep (((Fr.refl blk wr).setCell _ _).setCell _ _) hne⟩
     case measure=>simp[Go.Proofs.intOf];omega
    ·have hkz:¬((k:Int)<(i:Int)-1):=by omega
     have e:k+1=i:=by omega
     have hR2:=HR.out
     rw[e]at hR2
     have hlo:=HLO.out
     have hhi:=HHI.out
     have F:=hR2.four (Nat.le_refl a) (by omega) hi hj hl hg
     have X:=hR2.cross hO (Nat.le_refl a) (by omega) hi hj hl hg (fun _ h=>hlo _ (by omega) (by omega)) (fun h _=>absurd h (by omega))
     have done:=jc7 hO hR2 (Nat.le_refl a) (by omega) hi hj (by omega) X (permIn_refl _ _ _) F.p2 (permIn_refl _ _ _) (jdz F.p3 F.p4 fun p q hp hpm hq hqb=>by
      have e1:=hR2.2.2.2.1 0 (by omega)
      rw[show p=a+(i-m)+0 by omega,e1,hR2.2.1 q (by omega)]
      exact hhi q hq hqb)
     have DONE:Hid _:=done
     clear done X F hlo hhi hR2 hHk hH hswap
     go_wp2
     refine bodyPost_ret (results_none rfl _ _ _) rfl ?_
     exact⟨rfl,dk,HS.out,DONE.out.1,DONE.out.2,HF.out⟩
end Go.Gx
