import Derived.Test.YteanfidobhpchaaGreatQLBa
import Derived.KernelRfl
set_option linter.unusedVariables false
set_option linter.unusedSimpArgs false
namespace Go.Proofs.YteanfidobhpchaaGreat
open Go Go.Gx Go.Proofs
theorem true_FnLatticeBlocks (code:List Int) (hw:Wf (.pair (.sl (.int .u8)) .unit) (code,())):laws_FnLatticeBlocks big code=some (true,()):=by
 unfold laws_FnLatticeBlocks w0d V0 V0_s
 rw[Option.bind_some]
 dsimp only
 by_cases hl:code.length≤65536
 case neg=>rw[cdt (by omega)]
 have hcd:=w9m hw hl
 obtain⟨p,c,e1,hp,hcl⟩:=w9n hcd
 have hx:=hp.rows12
 rw[cdf (by omega),e1,Option.bind_some]
 dsimp only
 have last:=wkc hcd
 unfold wn at last
 have neg:∀r:List P2,V75 big p c=some ((r,false,()),())→V79 big p c=some ((r,false,()),())→((V75 big p c).bind fun rq3 =>
 (V79 big p c).bind fun rq4 =>
 cond (((((),rq3.1.2).2).1) != ((((),rq4.1.2).2).1))
 (some (false,(())))
 (cond (decide ((rq3.1.1.length:Int)≠(rq4.1.1.length:Int)))
 (some (false,(())))
 (cond ((((),rq3.1.2).2).1)
 ((V81 (p.1.length:Int) c).bind fun rq5 =>
 cond (!((((),rq5.1.2).2).1))
 (some (false,(())))
 (cond (decide ((rq5.1.1.length:Int)≠(rq3.1.1.length:Int)))
 (some (false,(())))
 (wjw big code p c rq3.1.1 rq4.1.1 rq5.1.1 (0:Int))))
 (wn (wl big) code))))=some (true,()):=fun r i1 s1=>by
  rw[i1,Option.bind_some,s1,Option.bind_some]
  dsimp only
  rw[bne_self_eq_false,cond_false,cdf (by omega),cond_false]
  exact wkc hcd
 rcases w7 hx with⟨n,le,e,h,h8,h1,h2⟩|⟨h1,l,h2⟩
 ·subst e
  have h10:=h.le10
  by_cases hC:CongL n (latF n le) c
  ·obtain⟨P,hP,rfl,hg⟩:=hC
   have hR:=jh n (rootB P)
   have hcl2:(ptL n P).length≤1048576:=by omega
   have iv:V75 big (pos n le) (ptL n P)=some ((bintL n le P (fl n (rootB P)),true,()),())∧V79 big (pos n le) (ptL n P)=some ((bintL n le P (fl n (rootB P)),true,()),()):=by
    unfold V79 wp6 V75 wjo
    rw[h1,h2]
    simp only[Option.bind_some,Bool.not_true,cond_false,wz h,y7 h,y9 h hcl2,wkg h hcl2]
    simp only[tv_t (show CongL n (latF n le) (ptL n P) from⟨P,hP,rfl,hg⟩),Bool.not_true,cond_false,wbb hP (show n≤1048576 by omega),wfb hP (show n≤1048576 by omega),Option.bind_some]
    exact⟨wo8 h (by omega),wo9 h (by omega)⟩
   have bv:V81 ((pos n le).1.length:Int) (ptL n P)=some ((blksL n P,true,()),()):=by
    unfold V81 xaj V80 xai
    have h0:=h.lat.ne
    rw[wb,cdt (by omega),Option.bind_some,show decide ((n:Int)≤8)=true by rw[decide_eq_true_eq];omega]
    dsimp only
    rw[Bool.not_true,cond_false,wez (by omega) hcl2,Option.bind_some,tv_t (show PartL n (ptL n P) from⟨P,hP,rfl⟩)]
    dsimp only
    rw[Bool.not_true,cond_false,wbb hP (by omega),Option.bind_some]
   rw[iv.1,Option.bind_some,iv.2,Option.bind_some]
   dsimp only
   rw[bne_self_eq_false,cond_false,cdf (by omega),cond_true,bv,Option.bind_some]
   dsimp only
   have l1:(bintL n le P (fl n (rootB P))).length=(fl n (rootB P)).length:=List.length_map _
   have l2:(blksL n P).length=(fl n (rootB P)).length:=List.length_map _
   rw[Bool.not_true,cond_false,cdf (by omega)]
   refine xdw (fl n (rootB P)).length (fun _=>True) (by omega) (fun rc i hi hI hr => ?_) (fun rc hI => ?_) 0 (by omega) trivial
   ·have hr':=fl_mem.1 (List.getElem_mem hi)
    have hrr:P (fl n (rootB P))[i]=(fl n (rootB P))[i]:=by
     have:=hr'.2
     unfold rootB at this
     simpa using this
    obtain⟨t1,t2⟩:=xd1 h hg hr'.1 hrr
    have k1:(bintL n le P (fl n (rootB P)))[i]? = some ((gb n le (blkF P n (fl n (rootB P))[i]):Int),(gb n (du le) (blkF P n (fl n (rootB P))[i]):Int),()):=by
     unfold bintL
     rw[List.getElem?_map,List.getElem?_eq_getElem hi];rfl
    have k2:(blksL n P)[i]? = some (cs (blkF P n (fl n (rootB P))[i])):=by
     unfold blksL
     rw[List.getElem?_map,List.getElem?_eq_getElem hi];rfl
    have g1:=(h.gbs (S:=blkF P n (fl n (rootB P))[i]) w6).lt
    have g2:=(h.du.gbs (S:=blkF P n (fl n (rootB P))[i]) w6).lt
    have hbl:=jh n fun y=>decide (P y=(fl n (rootB P))[i])
    unfold wev
    rw[cdt (by omega)]
    simp only[jx,Int.toNat_natCast,k1,k2,Option.bind_some,y5,decide_true,Bool.not_true,cond_false,wo0 h g1 g2 t1,t2]
    rw[w9u _ _ (by rw[cs_len];unfold blkF;omega),Option.bind_some,decide_eq_true rfl]
    dsimp only
    rw[Bool.not_true,cond_false,wr1 (by omega)]
    exact hr trivial
   ·unfold wev
    rw[cdf (by omega)]
    exact w79 hcd h h8 h1 h2 hP hg
  ·obtain⟨⟨r,b,⟨⟩⟩,s1,i1,_⟩:=wix (pos n le) c hx (by omega)
   have:b=false:=by
    unfold V75 wjo at i1
    rw[h2]at i1
    simp only[Option.bind_some,Bool.not_true,cond_false,y7 h,y9 h (show c.length≤1048576 by omega),tv_f hC,Bool.not_false,cond_true,Option.some.injEq,Prod.mk.injEq,and_true]at i1
    exact i1.2.symm
   subst this
   exact neg r i1 s1
 ·obtain⟨⟨r,b,⟨⟩⟩,s1,i1,_⟩:=wix p c hx (by omega)
  have:b=false:=by
   unfold V75 wjo at i1
   rw[h2]at i1
   simp only[Option.bind_some,Bool.not_false,cond_true,Option.some.injEq,Prod.mk.injEq,and_true]at i1
   exact i1.2.symm
  subst this
  exact neg r i1 s1
structure GLat {α:Type}(le:α→α→Prop) (m j:α→α→α):Prop where
 rf:∀a,le a a
 tr:∀{a b c},le a b→le b c→le a c
 asy:∀{a b},le a b→le b a→a=b
 m1:∀a b,le (m a b) a
 m2:∀a b,le (m a b) b
 mg:∀{a b c},le c a→le c b→le c (m a b)
 j1:∀a b,le a (j a b)
 j2:∀a b,le b (j a b)
 jg:∀{a b c},le a c→le b c→le (j a b) c
def GMod {α:Type}(le:α→α→Prop) (m j:α→α→α):Prop:=∀x y z,le x z→j x (m y z)=m (j x y) z
theorem GLat.op {α:Type}{le:α→α→Prop}{m j:α→α→α}(H:GLat le m j):GLat (fun a b=>le b a) j m:=⟨H.rf,fun a b=>H.tr b a,fun a b=>H.asy b a,H.j1,H.j2,H.jg,H.m1,H.m2,H.mg⟩
theorem GLat.mc {α:Type}{le:α→α→Prop}{m j:α→α→α}(H:GLat le m j) (a b:α):m a b=m b a:=H.asy (H.mg (H.m2 a b) (H.m1 a b)) (H.mg (H.m2 b a) (H.m1 b a))
theorem GLat.jc {α:Type}{le:α→α→Prop}{m j:α→α→α}(H:GLat le m j) (a b:α):j a b=j b a:=H.op.mc a b
theorem GMod.op {α:Type}{le:α→α→Prop}{m j:α→α→α}(H:GLat le m j) (M:GMod le m j):GMod (fun a b=>le b a) j m:=fun x y z h=>by
 have:=M z y x h
 rw[H.mc x (j y z),H.jc y z,←this,H.jc,H.mc y x]
def Bst (Q:List Int→Prop) (b:List Int):Prop:=b=[]∧(∀l,¬Q l)∨Q b∧∀l,Q l→lx l b=false
theorem Bst.congr {Q R:List Int→Prop}{b:List Int}(h:Bst Q b) (e:∀l,Q l↔R l):Bst R b:=by
 have:Q=R:=funext fun l=>propext (e l)
 rw[←this];exact h
def SetL (n:Nat) (l:List Int):Prop:=∃P,l=cs (fl n P)
theorem SetL.len {n:Nat}{l:List Int}(h:SetL n l):l.length≤n:=by obtain⟨P,rfl⟩:=h;rw[cs_len];exact jh n P
end Go.Proofs.YteanfidobhpchaaGreat
