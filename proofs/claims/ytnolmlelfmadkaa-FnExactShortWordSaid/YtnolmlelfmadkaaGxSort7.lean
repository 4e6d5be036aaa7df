import Derived.Test.YtnolmlelfmadkaaGxSort6
set_option linter.unusedVariables false
set_option linter.unusedSimpArgs false
namespace Go.Gx
open Go Go.Proofs Go.Shelf Go.RowKit Go.Lib Go.Sort
variable {P:Program} {ρ:Ren} {α:Type} [Inhabited α]
theorem jfb (L:LaysGt.n30 P ρ) (enc:α→Value) (lt:α→α→Bool) (hO:SWO lt) (g:Nat) (lb:Array Value) (sf:Nat) (sb:Array Value) (blk off:Nat) (w0:World) (d0:Array α)
  (eg:∀args w,(callFunc g args).run P w = .ok (.enter g args) w) (hless:LessReads P g lb enc lt blk off d0.size w0) (hswap:SwapSwaps P sf sb enc blk off d0.size) (hH:Holds enc w0 blk off d0) (hblk:blk<w0.heap.size) (hsz:d0.size<2305843009213693952) :
  ∀(N a m b:Nat) (d:Array α) (W:World),b-a<N→SW enc w0 blk off d W→d.size=d0.size→a<m→m<b→b≤d0.size→SortedIn lt a m d→SortedIn lt m b d →
   Calls P (ρ.f 30) #[.agg #[.func (.func g) #[] lb,.func (.func sf) #[] sb],.int .i64 a,.int .i64 m,.int .i64 b] W fun e w'=>e = .returned (.tuple #[])∧∃d2,SW enc w0 blk off d2 w'∧PermIn a b d d2∧SortedIn lt a b d2∧Fr blk W w'
 | 0,a,m,b,d,W,h,_,_,_,_,_,_,_=>absurd h (Nat.not_lt_zero _)
 | N+1,a,m,b,d,W,h,hW,hs,ham,hmb,hb,hl,hg=>by
  by_cases h1:m≤a+1
  ·exact jjx L enc lt hO g lb sf sb blk off a m b w0 W d0 d eg hless hswap hH hblk hW hs ⟨by omega,h1⟩ hmb hb hsz hl hg
  ·by_cases h2:b≤m+1
   ·exact jjy L enc lt hO g lb sf sb blk off a m b w0 W d0 d eg hless hswap hH hblk hW hs ⟨by omega,h2⟩ (by omega) hb hsz hl hg
   ·exact jjw L enc lt hO g lb sf sb blk off a m b w0 W d0 d eg hless hswap hH hblk hW hs (by omega) (by omega) hb hsz hl hg
     fun a' m' b' d' W' hlt h1 h2 h3 h4 h5 h6 h7=>jfb L enc lt hO g lb sf sb blk off w0 d0 eg hless hswap hH hblk hsz N a' m' b' d' W' (by omega) h1 h2 h3 h4 h5 h6 h7
inductive SRuns (lt:α→α→Bool) (k n:Nat) (d:Array α):Nat→Prop
 | last {x:Nat} (h:n≤x+k) (hs:SortedIn lt x n d):SRuns lt k n d x
 | more {x:Nat} (h:x+k≤n) (hs:SortedIn lt x (x+k) d) (hr:SRuns lt k n d (x+k)):SRuns lt k n d x
inductive SPref (lt:α→α→Bool) (k:Nat) (d:Array α):Nat→Prop
 | zero:SPref lt k d 0
 | step {x:Nat} (h:SPref lt k d x) (hs:SortedIn lt x (x+k) d):SPref lt k d (x+k)
theorem SRuns.congr {lt:α→α→Bool}{k n x:Nat}{d d':Array α}(h:SRuns lt k n d x) (he:∀i,x≤i→i<n→d'[i]! = d[i]!):SRuns lt k n d' x:=by
 induction h with
 | last h hs=>exact .last h (hs.congr he)
 | more h hs hr ih=>exact .more h (hs.congr fun i h1 h2=>he i h1 (by omega)) (ih fun i h1 h2=>he i (by omega) h2)
theorem SPref.congr {lt:α→α→Bool}{k x:Nat}{d d':Array α}(h:SPref lt k d x) (he:∀i,i<x→d'[i]! = d[i]!):SPref lt k d' x:=by
 induction h with
 | zero=>exact .zero
 | step h hs ih=>exact .step (ih fun i h1=>he i (by omega)) (hs.congr fun i h1 h2=>he i (by omega))
theorem SPref.runs {lt:α→α→Bool}{k n x:Nat}{d:Array α}(h:SPref lt k d x) (hr:SRuns lt k n d x) (hx:x≤n):SRuns lt k n d 0:=by
 induction h with
 | zero=>exact hr
 | step h hs ih=>exact ih (.more hx hs hr) (by omega)
theorem jid {lt:α→α→Bool}{n:Nat}{d:Array α}:SortedIn lt n n d:=fun i j h1 h2 h3=>absurd h2 (by omega)
theorem SRuns.two {lt:α→α→Bool}{k n x:Nat}{d:Array α}(h:SRuns lt k n d x) (hk:0<k) (hx:x+2*k≤n):SortedIn lt x (x+k) d∧SortedIn lt (x+k) (x+2*k) d∧SRuns lt k n d (x+2*k):=by
 cases h with
 | last h hs=>omega
 | more h hs hr =>
  refine⟨hs, ?_⟩
  rw[show x+2*k=x+k+k by omega]
  cases hr with
  | last h hs2 =>
   have e:n=x+k+k:=by omega
   subst e
   exact⟨hs2,.last (by omega) jid⟩
  | more h hs2 hr2=>exact⟨hs2,hr2⟩
theorem SRuns.tail {lt:α→α→Bool}{k n x:Nat}{d:Array α}(h:SRuns lt k n d x) (hk:0<k) (hx:x+k<n) (hn:n<x+2*k):SortedIn lt x (x+k) d∧SortedIn lt (x+k) n d:=by
 cases h with
 | last h hs=>omega
 | more h hs hr =>
  refine⟨hs, ?_⟩
  cases hr with
  | last h hs2=>exact hs2
  | more h hs2 hr2=>omega
theorem SRuns.only {lt:α→α→Bool}{k n x:Nat}{d:Array α}(h:SRuns lt k n d x) (hx:n≤x+k):SortedIn lt x n d:=by
 cases h with
 | last h hs=>exact hs
 | more h hs hr=>rwa [show n=x+k by omega]
set_option maxHeartbeats 16000000 in
set_option maxRecDepth 100000 in
theorem jlg (L:LaysGt.n15 P ρ) (enc:α→Value) (lt:α→α→Bool) (hO:SWO lt) (g:Nat) (lb:Array Value) (sf:Nat) (sb:Array Value) (blk off:Nat) (w0 W:World) (d:Array α)
  (eg:∀args w,(callFunc g args).run P w = .ok (.enter g args) w) (hless:LessReads P g lb enc lt blk off d.size w0) (hswap:SwapSwaps P sf sb enc blk off d.size) (hH:Holds enc w0 blk off d) (hblk:blk<w0.heap.size)
  (hW:SW enc w0 blk off d W) (hsz:d.size<1152921504606846976) :
  Calls P (ρ.f 15) #[.agg #[.func (.func g) #[] lb,.func (.func sf) #[] sb],.int .i64 d.size] W fun e w'=>e = .returned (.tuple #[])∧∃d',SW enc w0 blk off d' w'∧PermIn 0 d.size d d'∧SortedIn lt 0 d.size d':=by
 have mixed:=L.mixed;have t0:=L.t0;have a0:=L.a0;have z0:=L.z0;have v0:=L.v0;have t3:=L.t3;have a3:=L.a3;have z3:=L.z3;have v3:=L.v3;have t4:=L.t4;have a4:=L.a4;have z4:=L.z4;have v4:=L.v4;have t26:=L.t26;have a26:=L.a26;have z26:=L.z26;have v26:=L.v26;have t38:=L.t38;have a38:=L.a38;have z38:=L.z38;have v38:=L.v38;have t42:=L.t42;have a42:=L.a42;have z42:=L.z42;have v42:=L.v42;have t47:=L.t47;have a47:=L.a47;have z47:=L.z47;have v47:=L.v47
 have u42:=run_underlying L.t42
 have e29:∀args w,(callFunc (ρ.f 29) args).run P w = .ok (.enter (ρ.f 29) args) w:=enters_of L.f29 (by kernel_rfl) rfl
 have e30:∀args w,(callFunc (ρ.f 30) args).run P w = .ok (.enter (ρ.f 30) args) w:=enters_of L.f30 (by kernel_rfl) rfl
 have LI:LaysGg.n26 P ρ.viaGt:=({ L with }:LaysGt.n29 P ρ).elder
 have hle:=hW.le
 have hne:W.heap.size≠blk:=by omega
 have hSW:=hW.alloc (.cells #[.func (.func g) #[] lb,.func (.func sf) #[] sb] (ρ.t 42))
 have HINS:Hid (∀(x y:Nat) (d1:Array α) (w1:World),SW enc w0 blk off d1 w1→d1.size=d.size→x≤y→y≤d.size→Calls P (ρ.f 29) #[.agg #[.func (.func g) #[] lb,.func (.func sf) #[] sb],.int .i64 x,.int .i64 y] w1 fun e w'=>e = .returned (.tuple #[])∧∃d2,SW enc w0 blk off d2 w'∧PermIn x y d1 d2∧SortedIn lt x y d2∧Fr blk w1 w'):=fun x y d1 w1 h1 h2 h3 h4=>by
  have hl2:=h1.lessReads hless hblk h2
  rw[←h2]at hl2
  refine(Any.insertionSort_func_w LI enc lt g lb sf sb blk off x y d1 w1 eg hl2 (by rw[h2];exact hswap) (h1.holds hblk hH h2) (h1.lt hblk) h3 (by omega) (by omega)).mono ?_
  rintro e w' ⟨rfl,n,os,rfl⟩
  have hi:=insertionSort_holds hO d1 x y h3 (by omega)
  refine⟨rfl,_,h1.on hblk n _ os hi.1.1,hi.1,hi.2, ?_,fun b hb hn => ?_⟩
  ·unfold sortWorld;rw[size_grow,Go.Sort.size_putRow];show _≤w1.heap.size+_;omega
  ·unfold sortWorld
   rw[heap_grow_old _ _ (by rw[Go.Sort.size_putRow];exact hb)]
   simp only[putRow,mapBlock,Array.getElem?_modify]
   rw[if_neg (Ne.symm hn)]
   rfl
 have HMRG:Hid (∀(x y z:Nat) (d1:Array α) (w1:World),SW enc w0 blk off d1 w1→d1.size=d.size→x<y→y<z→z≤d.size→SortedIn lt x y d1→SortedIn lt y z d1→Calls P (ρ.f 30) #[.agg #[.func (.func g) #[] lb,.func (.func sf) #[] sb],.int .i64 x,.int .i64 y,.int .i64 z] w1 fun e w'=>e = .returned (.tuple #[])∧∃d2,SW enc w0 blk off d2 w'∧PermIn x z d1 d2∧SortedIn lt x z d2∧Fr blk w1 w'):=fun x y z d1 w1 h1 h2 h3 h4 h5 h6 h7 =>
  jfb { L with } enc lt hO g lb sf sb blk off w0 d eg hless hswap hH hblk (by omega) (z-x+1) x y z d1 w1 (by omega) h1 h2 h3 h4 h5 h6 h7
 clear hless hswap hH
 go_enter L.f15,BodyGt.n15_ntmps ρ
 go_wp2
 go_loopw [5,6] (fun va vb wr=>∃(a:Nat) (dk:Array α),va = .int .i64 a∧vb = .int .i64 (a+20:Nat)∧a≤d.size∧dk.size=d.size∧SW enc w0 blk off dk wr∧PermIn 0 d.size d dk∧SPref lt 20 dk a∧Fr blk W wr∧Bx2 W.heap.size (.func (.func g) #[] lb) (.func (.func sf) #[] sb) wr) (fun va _ _=>d.size-(Go.Proofs.intOf va).toNat)
 case atStart=>exact⟨0,d,rfl,rfl,by omega,rfl,hSW,permIn_refl _ _ _,.zero,(Fr.refl _ _).alloc _,⟨by simp,by simp,by simp⟩⟩
 case round =>
  obtain⟨a,dk,rfl,rfl,ha,hsk,hsw,hP,hQ,hF,hB⟩:=hrel
  obtain⟨x0,x1,_⟩:=id hB
  have HS:Hid (SW enc w0 blk off dk wr):=hsw
  have HF:Hid (Fr blk W wr):=hF
  have HB:Hid (Bx2 W.heap.size (.func (.func g) #[] lb) (.func (.func sf) #[] sb) wr):=hB
  have HP:Hid (PermIn 0 d.size d dk):=hP
  have HQ:Hid (SPref lt 20 dk a):=hQ
  clear hsw hF hB hP hQ hSW
  by_cases hb:a+20≤d.size
  ·have hc:=HINS.out a (a+20) dk wr HS.out hsk (by omega) hb
   rw[show((a+20:Nat):Int)=(a:Int)+20 by omega]at hc
   have hbz:(a:Int)+20≤d.size:=by omega
   go_wp2_with (go_at_fn (ρ.f 29);refine hc.mono ?_;rintro e w1 ⟨rfl,d1,hw1,hp1,hs1,hf1⟩)
   go_roundw
   case rel =>
    refine⟨a+20,d1,by go_num,by go_num,hb,hp1.1.trans hsk,hw1,permIn_trans _ _ _ _ _ HP.out (permIn_mono _ _ _ _ _ _ (Nat.zero_le _) hb (by omega) hp1),.step (HQ.out.congr fun i hi=>hp1.2.1 i (.inl hi)) hs1,HF.out.trans hf1,HB.out.keep hf1 hne⟩
   case measure=>simp[Go.Proofs.intOf];omega
  ·have hbz:¬((a:Int)+20≤d.size):=by omega
   have hc:=HINS.out a d.size dk wr HS.out hsk ha (Nat.le_refl _)
   go_wp2_with (go_at_fn (ρ.f 29);refine hc.mono ?_;rintro e w1 ⟨rfl,d1,hw1,hp1,hs1,hf1⟩)
   have hr1:SRuns lt 20 d.size d1 0:=(HQ.out.congr fun i hi=>hp1.2.1 i (.inl hi)).runs (.last (by omega) hs1) ha
   have hp2:PermIn 0 d.size d d1:=permIn_trans _ _ _ _ _ HP.out (permIn_mono _ _ _ _ _ _ (Nat.zero_le _) (Nat.le_refl _) (by omega) hp1)
   have hz1:d1.size=d.size:=hp1.1.trans hsk
   have hf2:=HF.out.trans hf1
   have hb2:=HB.out.keep hf1 hne
   clear hp1 hs1 hf1 HS HF HB HP HQ
   go_loopw [4] (fun vk wr=>∃(k:Nat) (dk:Array α),vk = .int .i64 k∧20≤k∧k≤2*d.size+20∧dk.size=d.size∧SW enc w0 blk off dk wr∧PermIn 0 d.size d dk∧SRuns lt k d.size dk 0∧Fr blk W wr∧Bx2 W.heap.size (.func (.func g) #[] lb) (.func (.func sf) #[] sb) wr) (fun vk _=>2*d.size+20-(Go.Proofs.intOf vk).toNat)
   case atStart=>exact⟨20,d1,rfl,by omega,by omega,hz1,hw1,hp2,hr1,hf2,hb2⟩
   case round =>
    clear hw1 hr1 hp2 hf2 hb2
    obtain⟨k,dk,rfl,hk1,hk2,hsk,hsw,hP,hQ,hF,hB⟩:=hrel
    have HS:Hid (SW enc w0 blk off dk wr):=hsw
    have HF:Hid (Fr blk W wr):=hF
    have HB:Hid (Bx2 W.heap.size (.func (.func g) #[] lb) (.func (.func sf) #[] sb) wr):=hB
    have HP:Hid (PermIn 0 d.size d dk):=hP
    have HQ:Hid (SRuns lt k d.size dk 0):=hQ
    clear hsw hF hB hP hQ
    by_cases hkn:k<d.size
    ·have hkz:(k:Int)<d.size:=by omega
     go_wp2
     go_loopw [5,6] (fun va vb wr=>∃(a:Nat) (dk:Array α),va = .int .i64 a∧vb = .int .i64 (a+2*k:Nat)∧a≤d.size∧dk.size=d.size∧SW enc w0 blk off dk wr∧PermIn 0 d.size d dk∧SPref lt (2*k) dk a∧SRuns lt k d.size dk a∧Fr blk W wr∧Bx2 W.heap.size (.func (.func g) #[] lb) (.func (.func sf) #[] sb) wr) (fun va _ _=>d.size-(Go.Proofs.intOf va).toNat)
     case atStart=>exact⟨0,dk,rfl,by go_num,by omega,hsk,HS.out,HP.out,.zero,HQ.out,HF.out,HB.out⟩
     case round =>
      clear HS HF HB HP HQ hsk
      obtain⟨a,dk,rfl,rfl,ha,hsk,hsw,hP,hQ,hR,hF,hB⟩:=hrel
      obtain⟨x0,x1,_⟩:=id hB
      have HS:Hid (SW enc w0 blk off dk wr):=hsw
      have HF:Hid (Fr blk W wr):=hF
      have HB:Hid (Bx2 W.heap.size (.func (.func g) #[] lb) (.func (.func sf) #[] sb) wr):=hB
      have HP:Hid (PermIn 0 d.size d dk):=hP
      have HQ:Hid (SPref lt (2*k) dk a):=hQ
      have HR:Hid (SRuns lt k d.size dk a):=hR
      clear hsw hF hB hP hQ hR
      by_cases hb:a+2*k≤d.size
      ·obtain⟨r1,r2,r3⟩:=HR.out.two (by omega) hb
       have hc:=HMRG.out a (a+k) (a+2*k) dk wr HS.out hsk (by omega) (by omega) hb r1 r2
       have R3:Hid (SRuns lt k d.size dk (a+2*k)):=r3
       clear r1 r2 r3
       rw[show((a+k:Nat):Int)=(a:Int)+k by omega]at hc
       have hbz:((a+2*k:Nat):Int)≤d.size:=by omega
       go_wp2_with (go_at_fn (ρ.f 30);refine hc.mono ?_;rintro e w1 ⟨rfl,d1,hw1,hp1,hs1,hf1⟩)
       go_roundw
       case rel=>exact⟨a+2*k,d1,by go_num,by go_num,hb,hp1.1.trans hsk,hw1,permIn_trans _ _ _ _ _ HP.out (permIn_mono _ _ _ _ _ _ (Nat.zero_le _) hb (by omega) hp1),.step (HQ.out.congr fun i hi=>hp1.2.1 i (.inl hi)) hs1,R3.out.congr fun i hi _=>hp1.2.1 i (.inr hi),HF.out.trans hf1,HB.out.keep hf1 hne⟩
       case measure=>simp[Go.Proofs.intOf];omega
      ·have hbz:¬(((a+2*k:Nat):Int)≤d.size):=by omega
       by_cases hm:a+k<d.size
       ·obtain⟨r1,r2⟩:=HR.out.tail (by omega) hm (by omega)
        have hc:=HMRG.out a (a+k) d.size dk wr HS.out hsk (by omega) hm (by omega) r1 r2
        clear r1 r2
        rw[show((a+k:Nat):Int)=(a:Int)+k by omega]at hc
        have hmz:(a:Int)+k<d.size:=by omega
        go_wp2_with (go_at_fn (ρ.f 30);refine hc.mono ?_;rintro e w1 ⟨rfl,d1,hw1,hp1,hs1,hf1⟩)
        go_roundw
        case rel=>exact⟨2*k,d1,by go_num,by omega,by omega,hp1.1.trans hsk,hw1,permIn_trans _ _ _ _ _ HP.out (permIn_mono _ _ _ _ _ _ (Nat.zero_le _) (Nat.le_refl _) (by omega) hp1),(HQ.out.congr fun i hi=>hp1.2.1 i (.inl hi)).runs (.last (by omega) hs1) ha,HF.out.trans hf1,HB.out.keep hf1 hne⟩
        case measure=>simp[Go.Proofs.intOf];omega
       ·have hmz:¬((a:Int)+k<d.size):=by omega
        have hro:SRuns lt (2*k) d.size dk 0:=HQ.out.runs (.last (by omega) (HR.out.only (by omega))) ha
        have HRO:Hid (SRuns lt (2*k) d.size dk 0):=hro
        clear hro
        go_wp2
        go_roundw
        case rel=>exact⟨2*k,dk,by go_num,by omega,by omega,hsk,HS.out,HP.out,HRO.out,HF.out,HB.out⟩
        case measure=>simp[Go.Proofs.intOf];omega
    ·have hkz:¬((k:Int)<d.size):=by omega
     have hro:SortedIn lt 0 d.size dk:=HQ.out.only (by omega)
     have HRO:Hid (SortedIn lt 0 d.size dk):=hro
     clear hro
     go_wp2
     go_end0
     exact⟨rfl,dk,HS.out,HP.out,HRO.out⟩
end Go.Gx
