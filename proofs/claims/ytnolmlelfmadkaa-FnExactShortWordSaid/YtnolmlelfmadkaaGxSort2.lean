import Derived.Test.YtnolmlelfmadkaaGxSort1
set_option linter.unusedVariables false
set_option linter.unusedSimpArgs false
namespace Go.Gx
open Go Go.Proofs Go.Shelf Go.RowKit Go.Lib Go.Sort
variable {P:Program} {ρ:Ren} {α:Type} [Inhabited α]
def Rot (a m b:Nat) (d d':Array α):Prop :=
 d'.size=d.size∧(∀k,(k<a∨b≤k)→d'[k]! = d[k]!)∧(∀k,k<b-m→d'[a+k]! = d[m+k]!)∧(∀k,k<m-a→d'[a+(b-m)+k]! = d[a+k]!)∧∀lo hi,lo≤a→b≤hi→hi≤d.size→PermIn lo hi d d'
theorem gi {d:Array α}{i j:Nat}(h:i=j):d[i]! = d[j]! := by rw[h]
theorem jmr {m i j:Nat}{d d2 d':Array α}(him:i≤m) (hij:j<i) (hj:0<j) (hs:SwapR (m-i) m j d d2) (hr:Rot (m-(i-j)) m (m+j) d2 d'):Rot (m-i) m (m+j) d d':=by
 obtain⟨s1,s2,s3,s4⟩:=hs
 obtain⟨r1,r2,r3,r4,r5⟩:=hr
 refine⟨by rw[r1,s1],fun k hk => ?_,fun k hk => ?_,fun k hk => ?_,fun lo hi hlo hhi hsz => ?_⟩
 ·rw[r2 k (by omega),s3 k (by omega) (by omega)]
 ·rw[r2 _ (by omega),(s2 k (by omega)).1]
 ·by_cases hkj:k<j
  ·have:=r3 k (by omega)
   rw[(s2 k hkj).2]at this
   rw[←this];exact gi (by omega)
  ·have:=r4 (k-j) (by omega)
   rw[s3 _ (by omega) (by omega)]at this
   rw[gi (show m-i+(m+j-m)+k=m-(i-j)+(m+j-m)+(k-j) by omega),this]
   exact gi (by omega)
 ·exact permIn_trans _ _ _ _ _ (s4 lo hi hlo (by omega) hsz) (r5 lo hi (by omega) hhi (by omega))
theorem jms {m i j:Nat}{d d2 d':Array α}(him:i≤m) (hij:i<j) (hi:0<i) (hs:SwapR (m-i) (m+j-i) i d d2) (hr:Rot (m-i) m (m+(j-i)) d2 d'):Rot (m-i) m (m+j) d d':=by
 obtain⟨s1,s2,s3,s4⟩:=hs
 obtain⟨r1,r2,r3,r4,r5⟩:=hr
 refine⟨by rw[r1,s1],fun k hk => ?_,fun k hk => ?_,fun k hk => ?_,fun lo hi hlo hhi hsz => ?_⟩
 ·rw[r2 k (by omega),s3 k (by omega) (by omega)]
 ·by_cases hkj:k<j-i
  ·rw[r3 k (by omega),s3 _ (by omega) (by omega)]
  ·have:=r4 (k-(j-i)) (by omega)
   rw[(s2 _ (by omega)).1]at this
   rw[gi (show m-i+k=m-i+(m+(j-i)-m)+(k-(j-i)) by omega),this]
   exact gi (by omega)
 ·rw[gi (show m-i+(m+j-m)+k=m+j-i+k by omega),r2 _ (by omega),(s2 k (by omega)).2]
 ·exact permIn_trans _ _ _ _ _ (s4 lo hi hlo (by omega) hsz) (r5 lo hi (by omega) (by omega) (by omega))
theorem jmq {m i:Nat}{d d':Array α}(him:i≤m) (hs:SwapR (m-i) m i d d'):Rot (m-i) m (m+i) d d':=by
 obtain⟨s1,s2,s3,s4⟩:=hs
 refine⟨s1,fun k hk=>s3 k (by omega) (by omega),fun k hk=>(s2 k (by omega)).1,fun k hk => ?_,fun lo hi hlo hhi hsz=>s4 lo hi hlo hhi hsz⟩
 rw[gi (show m-i+(m+i-m)+k=m+k by omega)]
 exact(s2 k (by omega)).2
set_option maxHeartbeats 4000000 in
set_option maxRecDepth 100000 in
theorem jld (L:LaysGt.n30 P ρ) (enc:α→Value) (lf:Fn) (la lb:Array Value) (sf:Nat) (sb:Array Value) (blk off a m b:Nat) (w0 W:World) (d0 d:Array α)
  (hswap:SwapSwaps P sf sb enc blk off d0.size) (hH:Holds enc w0 blk off d0) (hblk:blk<w0.heap.size) (hW:SW enc w0 blk off d W) (hs:d.size=d0.size) (ham:a<m) (hmb:m<b) (hb:b≤d0.size) (hsz:d0.size<4611686018427387904) :
  Calls P (ρ.f 42) #[.agg #[.func lf la lb,.func (.func sf) #[] sb],.int .i64 a,.int .i64 m,.int .i64 b] W fun e w'=>e = .returned (.tuple #[])∧∃d',SW enc w0 blk off d' w'∧Rot a m b d d'∧Fr blk W w':=by
 have mixed:=L.mixed;have t0:=L.t0;have a0:=L.a0;have z0:=L.z0;have v0:=L.v0;have t3:=L.t3;have a3:=L.a3;have z3:=L.z3;have v3:=L.v3;have t4:=L.t4;have a4:=L.a4;have z4:=L.z4;have v4:=L.v4;have t26:=L.t26;have a26:=L.a26;have z26:=L.z26;have v26:=L.v26;have t38:=L.t38;have a38:=L.a38;have z38:=L.z38;have v38:=L.v38;have t42:=L.t42;have a42:=L.a42;have z42:=L.z42;have v42:=L.v42
 have u42:=run_underlying L.t42
 have e49:∀args w,(callFunc (ρ.f 49) args).run P w = .ok (.enter (ρ.f 49) args) w:=enters_of L.f49 (by kernel_rfl) rfl
 have hle:=hW.le
 have hne:W.heap.size≠blk:=by omega
 have hSW:=hW.alloc (.cells #[.func lf la lb,.func (.func sf) #[] sb] (ρ.t 42))
 have hcall:∀(x y n:Nat) (d1:Array α) (w1:World),SW enc w0 blk off d1 w1→d1.size=d0.size→x+n≤y→y+n≤d0.size→Calls P (ρ.f 49) #[.agg #[.func lf la lb,.func (.func sf) #[] sb],.int .i64 x,.int .i64 y,.int .i64 n] w1 fun e w'=>e = .returned (.tuple #[])∧∃d',SW enc w0 blk off d' w'∧SwapR x y n d1 d'∧Fr blk w1 w' :=
  fun x y n d1 w1 h1 h2 h3 h4=>jie L enc lf la lb sf sb blk off x y n w0 w1 d0 d1 hswap hH hblk h1 h2 h3 h4 hsz
 go_enter L.f42,BodyGt.n42_ntmps ρ
 go_wp2
 go_loopw [8,9] (fun vi vj wr=>∃(i j:Nat) (dk:Array α),vi = .int .i64 i∧vj = .int .i64 j∧0<i∧0<j∧i≤m-a∧j≤b-m∧dk.size=d0.size∧SW enc w0 blk off dk wr∧(∀d',Rot (m-i) m (m+j) dk d'→Rot a m b d d')∧Fr blk W wr∧Bx2 W.heap.size (.func lf la lb) (.func (.func sf) #[] sb) wr) (fun vi vj _=>(Go.Proofs.intOf vi).toNat+(Go.Proofs.intOf vj).toNat)
 case atStart=>exact⟨m-a,b-m,d,by go_num,by go_num,by omega,by omega,by omega,by omega,hs,hSW,fun d' h=>by rwa [show m-(m-a)=a by omega,show m+(b-m)=b by omega]at h,(Fr.refl _ _).alloc _,⟨by simp,by simp,by simp⟩⟩
 case round =>
  obtain⟨i,j,dk,rfl,rfl,hi0,hj0,hi,hj,hsk,hsw,hR,hF,hBx⟩:=hrel
  have HF:Hid (Fr blk W wr):=hF
  have HS:Hid (SW enc w0 blk off dk wr):=hsw
  have HR:Hid (∀d',Rot (m-i) m (m+j) dk d'→Rot a m b d d'):=hR
  have HB:Hid (Bx2 W.heap.size (.func lf la lb) (.func (.func sf) #[] sb) wr):=hBx
  obtain⟨x0,x1,_⟩:=hBx
  clear hsw hR hF hH hswap hSW hW
  rcases Nat.lt_trichotomy i j with h|h|h
  ·have hc:=hcall (m-i) (m+j-i) i dk wr HS.out hsk (by omega) (by omega)
   rw[show((m-i:Nat):Int)=(m:Int)-i by omega,show((m+j-i:Nat):Int)=(m:Int)+j-i by omega]at hc
   have h1:¬((i:Int)=j):=by omega
   have h2:¬((j:Int)<i):=by omega
   clear hcall
   go_wp2_with (go_at_fn (ρ.f 49);refine hc.mono ?_;rintro e w1 ⟨rfl,d1,hw1,hr1,hf1⟩;have b1:=HB.out.keep hf1 hne;obtain⟨y0,y1,_⟩:=b1)
   go_roundw
   case rel =>
    have hz1:d1.size=d0.size:=hr1.1.trans hsk
    exact⟨i,j-i,d1,by go_num,by go_num,by omega,by omega,by omega,by omega,hz1,hw1,fun d' h'=>HR.out d' (jms (by omega) h hi0 hr1 h'),HF.out.trans hf1,HB.out.keep hf1 hne⟩
   case measure=>simp[Go.Proofs.intOf];omega
  ·have hc:=hcall (m-i) m i dk wr HS.out hsk (by omega) (by omega)
   rw[show((m-i:Nat):Int)=(m:Int)-i by omega]at hc
   subst h
   clear hcall
   go_wp2_with (go_at_fn (ρ.f 49);refine hc.mono ?_;rintro e w1 ⟨rfl,d1,hw1,hr1,hf1⟩;have b1:=HB.out.keep hf1 hne;obtain⟨y0,y1,_⟩:=b1)
   go_end0
   exact⟨rfl,d1,hw1,HR.out d1 (jmq (by omega) hr1),HF.out.trans hf1⟩
  ·have hc:=hcall (m-i) m j dk wr HS.out hsk (by omega) (by omega)
   rw[show((m-i:Nat):Int)=(m:Int)-i by omega]at hc
   have h1:¬((i:Int)=j):=by omega
   have h2:((j:Int)<i):=by omega
   clear hcall
   go_wp2_with (go_at_fn (ρ.f 49);refine hc.mono ?_;rintro e w1 ⟨rfl,d1,hw1,hr1,hf1⟩;have b1:=HB.out.keep hf1 hne;obtain⟨y0,y1,_⟩:=b1)
   go_roundw
   case rel =>
    have hz1:d1.size=d0.size:=hr1.1.trans hsk
    exact⟨i-j,j,d1,by go_num,by go_num,by omega,by omega,by omega,by omega,hz1,hw1,fun d' h'=>HR.out d' (jmr (by omega) h hj0 hr1 h'),HF.out.trans hf1,HB.out.keep hf1 hne⟩
   case measure=>simp[Go.Proofs.intOf];omega
end Go.Gx
