import Derived.Test.YtnolmlelfmadkaaGxSort4
set_option linter.unusedVariables false
set_option linter.unusedSimpArgs false
namespace Go.Gx
open Go Go.Proofs Go.Shelf Go.RowKit Go.Lib Go.Sort
variable {P:Program} {ρ:Ren} {α:Type} [Inhabited α]
theorem jlb {k m b:Nat}{d dk:Array α}(hm:m+1≤b∧b≤m+1) (hk:0<k) (hkm:k≤m) (hb:b≤d.size) (h:Rot k m b d dk):Rot (k-1) m b d (swp dk k (k-1)):=by
 obtain⟨r1,r2,r3,r4,r5⟩:=h
 have r30:=r3 0 (by omega)
 rw[show k+0=k by omega,show m+0=m by omega]at r30
 refine⟨by rw[size_swp,r1],fun j hj => ?_,fun j hj => ?_,fun j hj => ?_,fun lo hi hlo hhi hsz => ?_⟩
 ·rw[swp_other _ _ _ _ (by omega) (by omega)];exact r2 j (by omega)
 ·rw[show k-1+j=k-1 by omega,swp_right _ _ _ (by omega),r30]
  exact gi (by omega)
 ·rcases Nat.eq_or_lt_of_le (Nat.zero_le j) with h'|h'
  ·subst h'
   rw[show k-1+(b-m)+0=k by omega,swp_left _ _ _ (by omega) (by omega),r2 _ (by omega)]
   exact gi (by omega)
  ·rw[swp_other _ _ _ _ (by omega) (by omega)]
   have:=r4 (j-1) (by omega)
   rw[show k-1+(b-m)+j=k+(b-m)+(j-1) by omega,this]
   exact gi (by omega)
 ·exact permIn_trans _ _ _ _ _ (r5 lo hi (by omega) hhi hsz) (swp_permIn dk lo hi k (k-1) (by omega) (by omega) (by omega) (by omega) (by omega))
set_option maxHeartbeats 8000000 in
set_option maxRecDepth 100000 in
theorem jjy (L:LaysGt.n30 P ρ) (enc:α→Value) (lt:α→α→Bool) (hO:SWO lt) (g:Nat) (lb:Array Value) (sf:Nat) (sb:Array Value) (blk off a m b:Nat) (w0 W:World) (d0 d:Array α)
  (eg:∀args w,(callFunc g args).run P w = .ok (.enter g args) w) (hless:LessReads P g lb enc lt blk off d0.size w0) (hswap:SwapSwaps P sf sb enc blk off d0.size) (hH:Holds enc w0 blk off d0) (hblk:blk<w0.heap.size)
  (hW:SW enc w0 blk off d W) (hs:d.size=d0.size) (hm:m+1≤b∧b≤m+1) (ham:a+1<m) (hb:b≤d0.size) (hsz:d0.size<2305843009213693952) (hl:SortedIn lt a m d) (hg:SortedIn lt m b d) :
  Calls P (ρ.f 30) #[.agg #[.func (.func g) #[] lb,.func (.func sf) #[] sb],.int .i64 a,.int .i64 m,.int .i64 b] W fun e w'=>e = .returned (.tuple #[])∧∃d',SW enc w0 blk off d' w'∧PermIn a b d d'∧SortedIn lt a b d'∧Fr blk W w':=by
 have mixed:=L.mixed;have t0:=L.t0;have a0:=L.a0;have z0:=L.z0;have v0:=L.v0;have t3:=L.t3;have a3:=L.a3;have z3:=L.z3;have v3:=L.v3;have t4:=L.t4;have a4:=L.a4;have z4:=L.z4;have v4:=L.v4;have t26:=L.t26;have a26:=L.a26;have z26:=L.z26;have v26:=L.v26;have t38:=L.t38;have a38:=L.a38;have z38:=L.z38;have v38:=L.v38;have t42:=L.t42;have a42:=L.a42;have z42:=L.z42;have v42:=L.v42;have t47:=L.t47;have a47:=L.a47;have z47:=L.z47;have v47:=L.v47
 have u42:=run_underlying L.t42
 have hle:=hW.le
 have hne:W.heap.size≠blk:=by omega
 have hSW:=hW.alloc (.cells #[.func (.func g) #[] lb,.func (.func sf) #[] sb] (ρ.t 42))
 have hm1:¬((m:Int)-(a:Int)=1):=by omega
 have hm3:((m:Int)-(a:Int)==1)=false:=by rw[beq_eq_false_iff_ne];exact hm1
 have hm2:(b:Int)-(m:Int)=1:=by omega
 go_enter L.f30,BodyGt.n30_ntmps ρ
 go_wp2
 go_loopw [12,13] (fun vi vj wr=>∃i j:Nat,vi = .int .i64 i∧vj = .int .i64 j∧a≤i∧i≤j∧j≤m∧(∀k,a≤k→k<i→lt d[m]! d[k]! = false)∧(∀k,j≤k→k<m→lt d[m]! d[k]! = true)∧SW enc w0 blk off d wr∧Fr blk W wr∧Bx2 W.heap.size (.func (.func g) #[] lb) (.func (.func sf) #[] sb) wr) (fun vi vj _=>(Go.Proofs.intOf vj).toNat-(Go.Proofs.intOf vi).toNat)
 case atStart=>exact⟨a,m,rfl,rfl,by omega,by omega,by omega,fun k _ _=>by omega,fun k _ _=>by omega,hSW,(Fr.refl _ _).alloc _,⟨by simp,by simp,by simp⟩⟩
 case round =>
  obtain⟨i,j,rfl,rfl,hi,hij,hj,hlo,hhi,hsw,hF,hB⟩:=hrel
  obtain⟨x0,x1,_⟩:=id hB
  have HS:Hid (SW enc w0 blk off d wr):=hsw
  have HF:Hid (Fr blk W wr):=hF
  have HB:Hid (Bx2 W.heap.size (.func (.func g) #[] lb) (.func (.func sf) #[] sb) wr):=hB
  have HLO:Hid (∀k,a≤k→k<i→lt d[m]! d[k]! = false):=hlo
  have HHI:Hid (∀k,j≤k→k<m→lt d[m]! d[k]! = true):=hhi
  clear hsw hF hB hlo hhi
  by_cases hlt:i<j
  ·have hc:=HS.out.less hless hs m ((i+j) / 2) (by omega) (by omega)
   have hltz:(i:Int)<j:=by omega
   rw[show(((i+j) / 2:Nat):Int)=((i:Int)+j) / 2 by omega]at hc
   have HR:Hid (SortedIn lt a m d):=hl
   clear hless hswap hH hSW hW
   cases hv:lt d[m]! d[(i+j) / 2]! with
   | true =>
    rw[hv]at hc
    go_wp2_with (go_at_fn g;refine hc.mono ?_;rintro e w1 ⟨rfl,q,rfl⟩)
    go_roundw
    case rel =>
     refine⟨i,(i+j) / 2,rfl,by go_num,by omega,by omega,by omega,HLO.out,fun k hk1 hk2 => ?_,HS.out.drewN q,HF.out.drewN q,HB.out⟩
     rcases Nat.lt_or_ge ((i+j) / 2) k with h|h
     ·have x1:=HR.out ((i+j) / 2) k (by omega) h hk2
      cases hx:lt d[m]! d[k]! with
      | true=>rfl
      | false=>have:=hO.ntrans _ _ _ hx x1;rw[hv]at this;cases this
     ·rw[show k=(i+j) / 2 by omega];exact hv
    case measure=>simp[Go.Proofs.intOf];omega
   | false =>
    rw[hv]at hc
    go_wp2_with (go_at_fn g;refine hc.mono ?_;rintro e w1 ⟨rfl,q,rfl⟩)
    go_roundw
    case rel =>
     refine⟨(i+j) / 2+1,j,by go_num,rfl,by omega,by omega,by omega,fun k hk1 hk2 => ?_,HHI.out,HS.out.drewN q,HF.out.drewN q,HB.out⟩
     rcases Nat.lt_or_ge k ((i+j) / 2) with h|h
     ·exact hO.ntrans _ _ _ hv (HR.out k ((i+j) / 2) hk1 h (by omega))
     ·rw[show k=(i+j) / 2 by omega];exact hv
    case measure=>simp[Go.Proofs.intOf];omega
  ·have hlz:¬((i:Int)<j):=by omega
   have e:i=j:=by omega
   subst e
   clear hless hSW hW
   go_wp2
   go_loopw [15] (fun vk wr2=>∃(k:Nat) (dk:Array α),vk = .int .i64 k∧i≤k∧k≤m∧dk.size=d0.size∧SW enc w0 blk off dk wr2∧Rot k m b d dk∧Fr blk W wr2∧Bx2 W.heap.size (.func (.func g) #[] lb) (.func (.func sf) #[] sb) wr2) (fun vk _=>(Go.Proofs.intOf vk).toNat)
   case atStart=>exact⟨m,d,rfl,by omega,by omega,hs,HS.out,jer (.inl rfl),HF.out,HB.out⟩
   case round =>
    obtain⟨k,dk,rfl,hk,hki,hsk,hsw,hR,hF,hB⟩:=hrel
    obtain⟨_,x1,_⟩:=id hB
    have HS:Hid (SW enc w0 blk off dk wr):=hsw
    have HF:Hid (Fr blk W wr):=hF
    have HB:Hid (Bx2 W.heap.size (.func (.func g) #[] lb) (.func (.func sf) #[] sb) wr):=hB
    have HR:Hid (Rot k m b d dk):=hR
    have hHk:=hsw.holds hblk hH hsk
    clear hsw hF hB hR
    by_cases hkl:i<k
    ·have hs2:=hswap wr dk hHk hsk k (k-1) (by omega) (by omega)
     rw[show(((k-1:Nat):Int))=(k:Int)-1 by omega]at hs2
     have hkz:(i:Int)<(k:Int):=by omega
     clear hHk hH hswap
     go_wp2
     go_roundw
     case rel=>exact⟨k-1,swp dk k (k-1),by go_num,by omega,by omega,by rw[size_swp];exact hsk,HS.out.swap hblk _ _ (by omega) (by omega),jlb hm (by omega) hki (by omega) HR.out,(HF.out.setCell _ _).setCell _ _,HB.out.keep (((Fr.refl blk wr).setCell _ _).setCell _ _) hne⟩
     case measure=>simp[Go.Proofs.intOf];omega
    ·have e:i=k:=by omega
     subst e
     have hR2:=HR.out
     have hlo:=HLO.out
     have hhi:=HHI.out
     have F:=hR2.four hi (by omega) (by omega) (Nat.le_refl b) hl hg
     have X:=hR2.cross hO hi (by omega) (by omega) (Nat.le_refl b) hl hg (fun h _=>by rw[gi (show b-1=m by omega)];exact hhi _ (Nat.le_refl _) h) (fun _ h=>absurd h (by omega))
     have done:=jc7 hO hR2 hi (by omega) (by omega) (Nat.le_refl b) (by omega) X (permIn_refl _ _ _) (jdz F.p1 F.p2 fun p q hp hpm hq hqb=>by
      have e1:=hR2.2.2.1 0 (by omega)
      rw[show q=i+0 by omega,e1,hR2.2.1 p (by omega)]
      exact hlo p hp hpm) (permIn_refl _ _ _) F.p3
     have DONE:Hid _:=done
     clear done X F hlo hhi hR2 hHk hH hswap
     go_wp2
     refine bodyPost_ret (results_none rfl _ _ _) rfl ?_
     exact⟨rfl,dk,HS.out,DONE.out.1,DONE.out.2,HF.out⟩
end Go.Gx
