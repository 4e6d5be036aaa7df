import Derived.Shelf.GgSortMore.Stable
set_option linter.unusedVariables false
set_option linter.unusedSimpArgs false
namespace Go.Gx
open Go Go.Proofs Go.Shelf Go.RowKit Go.Lib Go.Sort
variable {P:Program} {ρ:Ren} {α:Type} [Inhabited α]
def Bx2 (B:Nat) (x y:Value) (W:World):Prop:=W.cell? ⟨B,0,none⟩=some x∧W.cell? ⟨B,1,none⟩=some y∧B<W.heap.size
def Fr (blk:Nat) (W W2:World):Prop:=W.heap.size≤W2.heap.size∧∀b,b<W.heap.size→b≠blk→W2.heap[b]? = W.heap[b]?
theorem Fr.refl (blk:Nat) (W:World):Fr blk W W:=⟨Nat.le_refl _,fun _ _ _=>rfl⟩
theorem Fr.trans {blk:Nat}{W W2 W3:World}(h:Fr blk W W2) (g:Fr blk W2 W3):Fr blk W W3:=⟨Nat.le_trans h.1 g.1,fun b hb hn=>(g.2 b (Nat.lt_of_lt_of_le hb h.1) hn).trans (h.2 b hb hn)⟩
theorem Fr.alloc {blk:Nat}{W W2:World}(h:Fr blk W W2) (o:Obj):Fr blk W (W2.alloc o):=h.trans ⟨by rw[alloc_eq_grow,size_grow];omega,fun b hb _=>by rw[alloc_eq_grow,heap_grow_old _ _ hb]⟩
theorem Fr.drewN {blk:Nat}{W W2:World}(h:Fr blk W W2) (q:Nat):Fr blk W (W2.drewN q):=h
theorem Fr.setCell {blk:Nat}{W W2:World}(h:Fr blk W W2) (o:Nat) (v:Value):Fr blk W (W2.setCell ⟨blk,o,none⟩ v):=h.trans ⟨by rw[setCell_eq];simp[mapBlock],fun b hb hn=>by rw[setCell_eq];simp only[mapBlock,Array.getElem?_modify];rw[if_neg (Ne.symm hn)]⟩
theorem Bx2.keep {blk B:Nat}{x y:Value}{W W2:World}(h:Bx2 B x y W) (hf:Fr blk W W2) (hn:B≠blk):Bx2 B x y W2:=by
 obtain⟨h1,h2,h3⟩:=h
 have hk:=hf.2 B h3 hn
 refine⟨?_, ?_,Nat.lt_of_lt_of_le h3 hf.1⟩
 ·rw[←h1];simp only[World.cell?,hk]
 ·rw[←h2];simp only[World.cell?,hk]
theorem Fr.of {blk:Nat}{W W2:World}{o:Obj}(h:Fr blk (W.alloc o) W2):Fr blk W W2:=((Fr.refl blk W).alloc o).trans h
def SwapR (a b n:Nat) (d d':Array α):Prop :=
 d'.size=d.size∧(∀k,k<n→d'[a+k]! = d[b+k]! ∧ d'[b+k]! = d[a+k]!)∧(∀k,(k<a∨a+n≤k)→(k<b∨b+n≤k)→d'[k]! = d[k]!)∧∀lo hi,lo≤a→b+n≤hi→hi≤d.size→PermIn lo hi d d'
theorem SwapR.zero (a b:Nat) (d:Array α):SwapR a b 0 d d:=⟨rfl,fun k hk=>absurd hk (by omega),fun _ _ _=>rfl,fun _ _ _ _ _=>permIn_refl _ _ _⟩
theorem SwapR.step {a b n:Nat}{d d':Array α}(h:SwapR a b n d d') (hab:a+(n+1)≤b) (hb:b+(n+1)≤d.size):SwapR a b (n+1) d (swp d' (a+n) (b+n)):=by
 obtain⟨h1,h2,h3,h4⟩:=h
 have g1:a+n<d'.size:=by omega
 have g2:b+n<d'.size:=by omega
 refine⟨by rw[size_swp,h1],fun k hk => ?_,fun k hk1 hk2 => ?_,fun lo hi hlo hhi hsz => ?_⟩
 ·by_cases hkn:k=n
  ·subst hkn
   refine⟨?_, ?_⟩
   ·rw[swp_left _ _ _ g1 (by omega),h3 _ (by omega) (by omega)]
   ·rw[swp_right _ _ _ g2,h3 _ (by omega) (by omega)]
  ·refine⟨?_, ?_⟩
   ·rw[swp_other _ _ _ _ (by omega) (by omega)];exact(h2 k (by omega)).1
   ·rw[swp_other _ _ _ _ (by omega) (by omega)];exact(h2 k (by omega)).2
 ·rw[swp_other _ _ _ _ (by omega) (by omega)];exact h3 k (by omega) (by omega)
 ·exact permIn_trans _ _ _ _ _ (h4 lo hi hlo (by omega) hsz) (swp_permIn d' lo hi (a+n) (b+n) (by omega) (by omega) (by omega) (by omega) (by omega))
set_option maxHeartbeats 2000000 in
set_option maxRecDepth 100000 in
theorem jie (L:LaysGt.n30 P ρ) (enc:α→Value) (lf:Fn) (la lb:Array Value) (sf:Nat) (sb:Array Value) (blk off a b n:Nat) (w0 W:World) (d0 d:Array α)
  (hswap:SwapSwaps P sf sb enc blk off d0.size) (hH:Holds enc w0 blk off d0) (hblk:blk<w0.heap.size) (hW:SW enc w0 blk off d W) (hs:d.size=d0.size) (hab:a+n≤b) (hb:b+n≤d0.size) (hsz:d0.size<4611686018427387904) :
  Calls P (ρ.f 49) #[.agg #[.func lf la lb,.func (.func sf) #[] sb],.int .i64 a,.int .i64 b,.int .i64 n] W fun e w'=>e = .returned (.tuple #[])∧∃d',SW enc w0 blk off d' w'∧SwapR a b n d d'∧Fr blk W w':=by
 have mixed:=L.mixed;have t0:=L.t0;have a0:=L.a0;have z0:=L.z0;have v0:=L.v0;have t3:=L.t3;have a3:=L.a3;have z3:=L.z3;have v3:=L.v3;have t4:=L.t4;have a4:=L.a4;have z4:=L.z4;have v4:=L.v4;have t26:=L.t26;have a26:=L.a26;have z26:=L.z26;have v26:=L.v26;have t38:=L.t38;have a38:=L.a38;have z38:=L.z38;have v38:=L.v38;have t42:=L.t42;have a42:=L.a42;have z42:=L.z42;have v42:=L.v42
 have u42:=run_underlying L.t42
 have hle:=hW.le
 have hne:W.heap.size≠blk:=by omega
 have hSW:=hW.alloc (.cells #[.func lf la lb,.func (.func sf) #[] sb] (ρ.t 42))
 go_enter L.f49,BodyGt.n49_ntmps ρ
 go_wp2
 go_loopw [8] (fun vi wr=>∃(i:Nat) (dk:Array α),vi = .int .i64 i∧i≤n∧dk.size=d0.size∧SW enc w0 blk off dk wr∧SwapR a b i d dk∧Fr blk W wr∧Bx2 W.heap.size (.func lf la lb) (.func (.func sf) #[] sb) wr) (fun vi _=>n-(Go.Proofs.intOf vi).toNat)
 case atStart=>exact⟨0,d,by go_num,by omega,hs,hSW,SwapR.zero a b d,(Fr.refl _ _).alloc _,⟨by simp,by simp,by simp⟩⟩
 case round =>
  obtain⟨i,dk,rfl,hi,hsk,hsw,hR,hF,hB⟩:=hrel
  obtain⟨_,x1,_⟩:=id hB
  have HS:Hid (SW enc w0 blk off dk wr):=hsw
  have HR:Hid (SwapR a b i d dk):=hR
  have hHk:=hsw.holds hblk hH hsk
  have HF:Hid (Fr blk W wr):=hF
  have HB:Hid (Bx2 W.heap.size (.func lf la lb) (.func (.func sf) #[] sb) wr):=hB
  clear hsw hR hF hB
  by_cases hin:i<n
  ·have hs2:=hswap wr dk hHk hsk (a+i) (b+i) (by omega) (by omega)
   rw[show(((a+i:Nat):Int))=(a:Int)+i by omega,show(((b+i:Nat):Int))=(b:Int)+i by omega]at hs2
   clear hHk hH hswap hSW hW
   have hinz:(i:Int)<n:=by omega
   go_wp2
   go_roundw
   case rel =>
    exact⟨i+1,swp dk (a+i) (b+i),by go_num,by omega,by rw[size_swp];exact hsk,HS.out.swap hblk _ _ (by omega) (by omega),HR.out.step (by omega) (by omega),
     (HF.out.setCell _ _).setCell _ _,HB.out.keep (((Fr.refl blk wr).setCell _ _).setCell _ _) hne⟩
   case measure=>simp[Go.Proofs.intOf];omega
  ·clear hHk hH hswap hSW hW
   go_wp2
   go_end0
   have e:i=n:=by omega
   subst e
   exact⟨rfl,dk,HS.out,HR.out,HF.out⟩
end Go.Gx
