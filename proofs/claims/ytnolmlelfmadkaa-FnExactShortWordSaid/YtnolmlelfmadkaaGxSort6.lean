import Derived.Test.YtnolmlelfmadkaaGxSort5
import Derived.Deep.Cut
set_option linter.unusedVariables false
set_option linter.unusedSimpArgs false
namespace Go.Gx
open Go Go.Proofs Go.Shelf Go.RowKit Go.Lib Go.Sort
variable {P:Program} {ρ:Ren} {α:Type} [Inhabited α]
set_option maxHeartbeats 16000000 in
set_option maxRecDepth 100000 in
theorem jjw (L:LaysGt.n30 P ρ) (enc:α→Value) (lt:α→α→Bool) (hO:SWO lt) (g:Nat) (lb:Array Value) (sf:Nat) (sb:Array Value) (blk off a m b:Nat) (w0 W:World) (d0 d:Array α)
  (eg:∀args w,(callFunc g args).run P w = .ok (.enter g args) w) (hless:LessReads P g lb enc lt blk off d0.size w0) (hswap:SwapSwaps P sf sb enc blk off d0.size) (hH:Holds enc w0 blk off d0) (hblk:blk<w0.heap.size)
  (hW:SW enc w0 blk off d W) (hs:d.size=d0.size) (ham:a+1<m) (hmb:m+1<b) (hb:b≤d0.size) (hsz:d0.size<2305843009213693952) (hl:SortedIn lt a m d) (hg:SortedIn lt m b d)
  (ih:∀(a' m' b':Nat) (d':Array α) (W':World),b'-a'<b-a→SW enc w0 blk off d' W'→d'.size=d0.size→a'<m'→m'<b'→b'≤d0.size→SortedIn lt a' m' d'→SortedIn lt m' b' d' →
   Calls P (ρ.f 30) #[.agg #[.func (.func g) #[] lb,.func (.func sf) #[] sb],.int .i64 a',.int .i64 m',.int .i64 b'] W' fun e w'=>e = .returned (.tuple #[])∧∃d2,SW enc w0 blk off d2 w'∧PermIn a' b' d' d2∧SortedIn lt a' b' d2∧Fr blk W' w') :
  Calls P (ρ.f 30) #[.agg #[.func (.func g) #[] lb,.func (.func sf) #[] sb],.int .i64 a,.int .i64 m,.int .i64 b] W fun e w'=>e = .returned (.tuple #[])∧∃d',SW enc w0 blk off d' w'∧PermIn a b d d'∧SortedIn lt a b d'∧Fr blk W w':=by
 have mixed:=L.mixed;have t0:=L.t0;have a0:=L.a0;have z0:=L.z0;have v0:=L.v0;have t3:=L.t3;have a3:=L.a3;have z3:=L.z3;have v3:=L.v3;have t4:=L.t4;have a4:=L.a4;have z4:=L.z4;have v4:=L.v4;have t26:=L.t26;have a26:=L.a26;have z26:=L.z26;have v26:=L.v26;have t38:=L.t38;have a38:=L.a38;have z38:=L.z38;have v38:=L.v38;have t42:=L.t42;have a42:=L.a42;have z42:=L.z42;have v42:=L.v42;have t47:=L.t47;have a47:=L.a47;have z47:=L.z47;have v47:=L.v47
 have u42:=run_underlying L.t42
 have e30:∀args w,(callFunc (ρ.f 30) args).run P w = .ok (.enter (ρ.f 30) args) w:=enters_of L.f30 (by kernel_rfl) rfl
 have e42:∀args w,(callFunc (ρ.f 42) args).run P w = .ok (.enter (ρ.f 42) args) w:=enters_of L.f42 (by kernel_rfl) rfl
 have hle:=hW.le
 have hne:W.heap.size≠blk:=by omega
 have hSW:=hW.alloc (.cells #[.func (.func g) #[] lb,.func (.func sf) #[] sb] (ρ.t 42))
 have hm1:¬((m:Int)-(a:Int)=1):=by omega
 have hm3:((m:Int)-(a:Int)==1)=false:=by rw[beq_eq_false_iff_ne];exact hm1
 have hm2:¬((b:Int)-(m:Int)=1):=by omega
 have hm4:((b:Int)-(m:Int)==1)=false:=by rw[beq_eq_false_iff_ne];exact hm2
 have HL:Hid (SortedIn lt a m d):=hl
 have HG:Hid (SortedIn lt m b d):=hg
 have HIH:Hid _:=ih
 have HLESS:Hid (LessReads P g lb enc lt blk off d0.size w0):=hless
 have HROT:Hid _:=fun(x y z:Nat) (d1:Array α) (w1:World) (h1:SW enc w0 blk off d1 w1) (h2:d1.size=d0.size) (h3:x<y) (h4:y<z) (h5:z≤d0.size)=>jld L enc (.func g) #[] lb sf sb blk off x y z w0 w1 d0 d1 hswap hH hblk h1 h2 h3 h4 h5 (by omega)
 clear hl hg ih hless hswap hH
 go_enter L.f30,BodyGt.n30_ntmps ρ
 go_upto_if 106 with fail
 go_cut [18,19] from 23 (fun s18 s19 wc=>∃s0 r0:Nat,s18 = .int .i64 s0∧s19 = .int .i64 r0∧a≤s0∧s0≤r0∧r0≤m∧r0≤(a+b) / 2∧(a+b) / 2+m≤b+s0∧(s0=a∨(a+b) / 2+m=b+s0)∧(r0=m∨r0=(a+b) / 2)∧SW enc w0 blk off d wc∧Fr blk W wc∧Bx2 W.heap.size (.func (.func g) #[] lb) (.func (.func sf) #[] sb) wc)
 case first =>
  by_cases hmm:(a+b) / 2<m
  ·have hz:((a:Int)+b) / 2<m:=by omega
   go_wp2_with fail
   go_meet
   case rel=>exact⟨(a+b) / 2+m-b,(a+b) / 2,by go_num,by go_num,by omega,by omega,by omega,by omega,by omega,by omega,by omega,hSW,(Fr.refl _ _).alloc _,⟨by simp,by simp,by simp⟩⟩
  ·have hz:¬(((a:Int)+b) / 2<m):=by omega
   go_wp2_with fail
   go_meet
   case rel=>exact⟨a,m,by go_num,by go_num,by omega,by omega,by omega,by omega,by omega,by omega,by omega,hSW,(Fr.refl _ _).alloc _,⟨by simp,by simp,by simp⟩⟩
 case rest =>
  obtain⟨s0,r0,rfl,rfl,f1,f2,f3,f4,f5,f6,f7,hS1,hF1,hB1⟩:=hcut
  have HS1:Hid (SW enc w0 blk off d wc):=hS1
  have HF1:Hid (Fr blk W wc):=hF1
  have HB1:Hid (Bx2 W.heap.size (.func (.func g) #[] lb) (.func (.func sf) #[] sb) wc):=hB1
  clear hS1 hF1 hB1 hSW hW
  go_wp2
  go_loopw [18,19] (fun vi vj wr=>∃i j:Nat,vi = .int .i64 i∧vj = .int .i64 j∧s0≤i∧i≤j∧j≤r0∧(s0<i→lt d[(a+b) / 2+m-i]! d[i-1]! = false)∧(j<r0→lt d[(a+b) / 2+m-1-j]! d[j]! = true)∧SW enc w0 blk off d wr∧Fr blk W wr∧Bx2 W.heap.size (.func (.func g) #[] lb) (.func (.func sf) #[] sb) wr) (fun vi vj _=>(Go.Proofs.intOf vj).toNat-(Go.Proofs.intOf vi).toNat)
  case atStart=>exact⟨s0,r0,rfl,rfl,by omega,by omega,by omega,fun h=>absurd h (by omega),fun h=>absurd h (by omega),HS1.out,HF1.out,HB1.out⟩
  case round =>
   obtain⟨i,j,rfl,rfl,hi,hij,hj,hlo,hhi,hsw,hF,hB⟩:=hrel
   obtain⟨x0,x1,_⟩:=id hB
   have HS:Hid (SW enc w0 blk off d wr):=hsw
   have HF:Hid (Fr blk W wr):=hF
   have HB:Hid (Bx2 W.heap.size (.func (.func g) #[] lb) (.func (.func sf) #[] sb) wr):=hB
   have HLO:Hid (s0<i→lt d[(a+b) / 2+m-i]! d[i-1]! = false):=hlo
   have HHI:Hid (j<r0→lt d[(a+b) / 2+m-1-j]! d[j]! = true):=hhi
   clear hsw hF hB hlo hhi HS1 HF1 HB1
   by_cases hlt:i<j
   ·have hc:=HS.out.less HLESS.out hs ((a+b) / 2+m-1-(i+j) / 2) ((i+j) / 2) (by omega) (by omega)
    have hltz:(i:Int)<j:=by omega
    rw[show(((i+j) / 2:Nat):Int)=((i:Int)+j) / 2 by omega,show((((a+b) / 2+m-1-(i+j) / 2:Nat)):Int)=((a:Int)+b) / 2+m-1-((i:Int)+j) / 2 by omega]at hc
    cases hv:lt d[(a+b) / 2+m-1-(i+j) / 2]! d[(i+j) / 2]! with
    | true =>
     rw[hv]at hc
     go_wp2_with (go_at_fn g;refine hc.mono ?_;rintro e w1 ⟨rfl,q,rfl⟩)
     go_roundw
     case rel=>exact⟨i,(i+j) / 2,rfl,by go_num,by omega,by omega,by omega,HLO.out,fun _=>hv,HS.out.drewN q,HF.out.drewN q,HB.out⟩
     case measure=>simp[Go.Proofs.intOf];omega
    | false =>
     rw[hv]at hc
     go_wp2_with (go_at_fn g;refine hc.mono ?_;rintro e w1 ⟨rfl,q,rfl⟩)
     go_roundw
     case rel=>exact⟨(i+j) / 2+1,j,by go_num,rfl,by omega,by omega,by omega,fun _=>by rw[gi (show(a+b) / 2+m-((i+j) / 2+1)=(a+b) / 2+m-1-(i+j) / 2 by omega),gi (show(i+j) / 2+1-1=(i+j) / 2 by omega)];exact hv,HHI.out,HS.out.drewN q,HF.out.drewN q,HB.out⟩
     case measure=>simp[Go.Proofs.intOf];omega
   ·have hlz:¬((i:Int)<j):=by omega
    have e:i=j:=by omega
    subst e
    have hend:∃e:Nat,e+i=(a+b) / 2+m:=⟨(a+b) / 2+m-i,by omega⟩
    obtain⟨en,hen⟩:=hend
    have henz:((a:Int)+b) / 2+m-i=en:=by omega
    go_upto_region 40 with fail
    go_cut [145] from 23 (fun s145 wx=>s145 = .bool (decide (i<m∧m<en))∧wx=wr)
    case first =>
     by_cases c1:i<m
     ·have c1z:(i:Int)<m:=by omega
      by_cases c2:m<en
      ·have c2z:(m:Int)<en:=by omega
       go_wp2_with fail
       go_meet
       case rel=>exact⟨by simp[c1,c2],rfl⟩
      ·have c2z:¬((m:Int)<en):=by omega
       go_wp2_with fail
       go_meet
       case rel=>exact⟨by simp[c1,c2],rfl⟩
     ·have c1z:¬((i:Int)<m):=by omega
      go_wp2_with fail
      go_meet
      case rel=>exact⟨by simp[c1],rfl⟩
    case rest =>
     obtain⟨rfl,rfl⟩:=hcut
     go_upto_if 145 with fail
     go_cut [22] from 23 (fun s22 wc=>s22 = .int .i64 en∧∃d1,SW enc w0 blk off d1 wc∧Rot i m en d d1∧Fr blk W wc∧Bx2 W.heap.size (.func (.func g) #[] lb) (.func (.func sf) #[] sb) wc)
     case first =>
      by_cases cr:i<m∧m<en
      ·have hd:decide (i<m∧m<en)=true:=decide_eq_true cr
       have hc:=HROT.out i m en d _ HS.out hs cr.1 cr.2 (by omega)
       obtain⟨x0,x1,_⟩:=id HB.out
       go_wp2_with (go_at_fn (ρ.f 42);refine hc.mono ?_;rintro e w1 ⟨rfl,d1,hw1,hr1,hf1⟩)
       go_meet
       case rel=>exact⟨rfl,d1,hw1,hr1,HF.out.trans hf1,HB.out.keep hf1 hne⟩
      ·have hd:decide (i<m∧m<en)=false:=decide_eq_false cr
       go_wp2_with fail
       go_meet
       case rel=>exact⟨rfl,d,HS.out,jer (by omega),HF.out,HB.out⟩
     case rest =>
      obtain⟨rfl,d1,hS1,hR1,hF1,hB1⟩:=hcut
      have hz1:d1.size=d0.size:=hR1.1.trans hs
      have F:=hR1.four (a:=a) (b:=b) (by omega) (by omega) (by omega) (by omega) HL.out HG.out
      have X:=hR1.cross (a:=a) (b:=b) hO (by omega) (by omega) (by omega) (by omega) HL.out HG.out
       (fun h1 h2=>by rw[gi (show en-1=(a+b) / 2+m-1-i by omega)];exact HHI.out (by omega))
       (fun h1 h2=>by rw[gi (show en=(a+b) / 2+m-i by omega)];exact HLO.out (by omega))
      have hmid:i+(en-m)=(a+b) / 2:=by omega
      have HX:Hid _:=X
      have HFO:Hid (Four lt a i m en b d1):=F
      have HR1:Hid (Rot i m en d d1):=hR1
      have HS2:Hid (SW enc w0 blk off d1 _):=hS1
      have HF2:Hid (Fr blk W _):=hF1
      have HB2:Hid (Bx2 W.heap.size (.func (.func g) #[] lb) (.func (.func sf) #[] sb) _):=hB1
      clear X F hR1 hS1 hF1 hB1
      go_upto_region 42 with fail
      go_cut [158] from 23 (fun s158 wx=>s158 = .bool (decide (a<i∧i<(a+b) / 2))∧wx=wc)
      case first =>
       by_cases c1:a<i
       ·have c1z:(a:Int)<i:=by omega
        by_cases c2:i<(a+b) / 2
        ·have c2z:(i:Int)<((a:Int)+b) / 2:=by omega
         go_wp2_with fail
         go_meet
         case rel=>exact⟨by simp[c1,c2],rfl⟩
        ·have c2z:¬((i:Int)<((a:Int)+b) / 2):=by omega
         go_wp2_with fail
         go_meet
         case rel=>exact⟨by simp[c1,c2],rfl⟩
       ·have c1z:¬((a:Int)<i):=by omega
        go_wp2_with fail
        go_meet
        case rel=>exact⟨by simp[c1],rfl⟩
      case rest =>
       obtain⟨rfl,rfl⟩:=hcut
       go_upto_if 158 with fail
       go_cut [22] from 23 (fun s22 wc=>s22 = .int .i64 en∧∃d2,SW enc w0 blk off d2 wc∧PermIn a (i+(en-m)) d1 d2∧SortedIn lt a (i+(en-m)) d2∧Fr blk W wc∧Bx2 W.heap.size (.func (.func g) #[] lb) (.func (.func sf) #[] sb) wc)
       case first =>
        by_cases cr:a<i∧i<(a+b) / 2
        ·have hd:decide (a<i∧i<(a+b) / 2)=true:=decide_eq_true cr
         have hc:=HIH.out a i (i+(en-m)) d1 _ (by omega) HS2.out hz1 cr.1 (by omega) (by omega) HFO.out.p1 HFO.out.p2
         rw[show((i+(en-m):Nat):Int)=((a:Int)+b) / 2 by omega]at hc
         obtain⟨x0,x1,_⟩:=id HB2.out
         go_wp2_with (go_at_fn (ρ.f 30);refine hc.mono ?_;rintro e w1 ⟨rfl,d2,hw1,hp1,hs1,hf1⟩)
         go_meet
         case rel=>exact⟨rfl,d2,hw1,hp1,hs1,HF2.out.trans hf1,HB2.out.keep hf1 hne⟩
        ·have hd:decide (a<i∧i<(a+b) / 2)=false:=decide_eq_false cr
         have hsr:SortedIn lt a (i+(en-m)) d1:=by
          rcases (show i=a∨en=m by omega) with h|h
          ·have:=HFO.out.p2;rwa [h]at this ⊢
          ·have:=HFO.out.p1;rwa [show i+(en-m)=i by omega]
         have HSR:Hid _:=hsr
         clear hsr
         go_wp2_with fail
         go_meet
         case rel=>exact⟨rfl,d1,HS2.out,permIn_refl _ _ _,HSR.out,HF2.out,HB2.out⟩
       case rest =>
        obtain⟨rfl,d2,hS3,hP3,hT3,hF3,hB3⟩:=hcut
        have hz2:d2.size=d0.size:=hP3.1.trans hz1
        have hq2:∀k,i+(en-m)≤k→d2[k]! = d1[k]! := fun k hk=>hP3.2.1 k (.inr hk)
        have p3':SortedIn lt (i+(en-m)) en d2:=HFO.out.p3.congr fun k hk _=>hq2 k hk
        have p4':SortedIn lt en b d2:=HFO.out.p4.congr fun k hk _=>hq2 k (by omega)
        have DN:Hid _:=fun(d3:Array α) (p3:PermIn (i+(en-m)) b d2 d3) (s3:SortedIn lt (i+(en-m)) b d3)=>jc7 (a:=a) (b:=b) hO HR1.out (by omega) (by omega) (by omega) (by omega) (by omega) HX.out hP3 hT3 p3 s3
        have P3:Hid (SortedIn lt (i+(en-m)) en d2):=p3'
        have P4:Hid (SortedIn lt en b d2):=p4'
        have HS3:Hid (SW enc w0 blk off d2 _):=hS3
        have HF3:Hid (Fr blk W _):=hF3
        have HB3:Hid (Bx2 W.heap.size (.func (.func g) #[] lb) (.func (.func sf) #[] sb) _):=hB3
        clear hS3 hP3 hT3 hF3 hB3 hq2 p3' p4'
        go_upto_region 44 with fail
        go_cut [171] from 23 (fun s171 wx=>s171 = .bool (decide ((a+b) / 2<en∧en<b))∧wx=wc)
        case first =>
         by_cases c1:(a+b) / 2<en
         ·have c1z:((a:Int)+b) / 2<en:=by omega
          by_cases c2:en<b
          ·have c2z:(en:Int)<b:=by omega
           go_wp2_with fail
           go_meet
           case rel=>exact⟨by simp[c1,c2],rfl⟩
          ·have c2z:¬((en:Int)<b):=by omega
           go_wp2_with fail
           go_meet
           case rel=>exact⟨by simp[c1,c2],rfl⟩
         ·have c1z:¬(((a:Int)+b) / 2<en):=by omega
          go_wp2_with fail
          go_meet
          case rel=>exact⟨by simp[c1],rfl⟩
        case rest =>
         obtain⟨rfl,rfl⟩:=hcut
         by_cases cr:(a+b) / 2<en∧en<b
         ·have hd:decide ((a+b) / 2<en∧en<b)=true:=decide_eq_true cr
          have hc:=HIH.out (i+(en-m)) en b d2 _ (by omega) HS3.out hz2 (by omega) cr.2 hb P3.out P4.out
          rw[show((i+(en-m):Nat):Int)=((a:Int)+b) / 2 by omega]at hc
          obtain⟨x0,x1,_⟩:=id HB3.out
          go_wp2_with (go_at_fn (ρ.f 30);refine hc.mono ?_;rintro e w1 ⟨rfl,d3,hw1,hp1,hs1,hf1⟩)
          go_end0
          have dn:=DN.out d3 hp1 hs1
          exact⟨rfl,d3,hw1,dn.1,dn.2,HF3.out.trans hf1⟩
         ·have hd:decide ((a+b) / 2<en∧en<b)=false:=decide_eq_false cr
          have hsr:SortedIn lt (i+(en-m)) b d2:=by
           rcases (show i+(en-m)=en∨en=b by omega) with h|h
           ·rw[h];exact P4.out
           ·have:=P3.out;rwa [h]at this ⊢
          have HSR:Hid _:=hsr
          clear hsr
          go_wp2_with fail
          go_end0
          have dn:=DN.out d2 (permIn_refl _ _ _) HSR.out
          exact⟨rfl,d2,HS3.out,dn.1,dn.2,HF3.out⟩
end Go.Gx
