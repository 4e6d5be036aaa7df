import Derived.Test.YtclaienmkbpkaaaGreatQBCa
import Derived.KernelRfl
set_option linter.unusedVariables false
set_option linter.unusedSimpArgs false
namespace Go.Proofs.YtclaienmkbpkaaaGreat
open Go Go.Gx Go.Proofs
theorem wyg {n:Nat}{le:Nat→Nat→Bool}(h:BoolP n le){k:Nat}(hk:k<n):V88 (boolA n le) (cgB n le k)=some ((true,true,()),()):=by
 have e:=wyh h rfl (wxj h hk)
 have e2:=wpz h
 unfold V88 xhe
 rw[e2,Option.bind_some,Bool.not_true,cond_false,e]
 rfl
theorem xni {n:Nat}{le:Nat→Nat→Bool}(h:LatP n le){g:Nat}(hg:g<n):gb n le (fl n fun y=>le g y)=g:=by
 have hS:∀s∈fl n fun y=>le g y,s<n:=fun s hs=>(fl_mem.1 hs).1
 have q:=h.gbs hS
 exact h.as q.lt hg (q.lo g (fl_mem.2 ⟨hg,h.ord.refl g hg⟩)) (q.gr g hg fun s hs=>(fl_mem.1 hs).2)
theorem xkx (p:PT) (l:List Int) (hx:∀r∈p.1,r.length≤4294967296) (hl:l.length≤1048576):∃(v:List Int) (f:Bool),V117 p l=some ((v,f,()),())∧V116 p l=some ((v,f,()),())∧v.length≤10∧(f=true→V112 p v=some ((true,true,()),())):=by
 unfold V117 w51 V101 ws0 V116 w50
 rcases xw hx with⟨n,le,e,h,h1,h2⟩|⟨h1,l,h2⟩
 ·subst e
  have h10:=h.le10
  simp only[h1,h2,Option.bind_some,Bool.not_true,cond_false,cond_true,wb,lat1]
  by_cases h0:l.length=0
  ·simp only[cdt (show(l.length:Int)=0 by omega),cdt (show(l.length:Int)≤20 by omega),zn n l (show n≤1099511627776 by omega) (show l.length≤4294967296 by omega),Option.bind_some]
   have:l=[]:=List.eq_nil_of_length_eq_zero h0
   subst this
   exact⟨_,_,rfl,rfl,by simp,fun e=>by cases e⟩
  ·by_cases h20:l.length≤20
   ·simp only[cdf (show ¬(l.length:Int)=0 by omega),cdt (show(l.length:Int)≤20 by omega),cdf (show ¬(20:Int)<(l.length:Int) by omega),zn n l (show n≤1099511627776 by omega) (show l.length≤4294967296 by omega),wpx l (show l.length≤4294967296 by omega),Option.bind_some]
    cases ha:l.all (inB n) with
    | false=>exact⟨_,_,rfl,rfl,by simp,fun e=>by cases e⟩
    | true =>
     obtain⟨S,hS,hlt⟩:=wb5 ha
     subst hS
     rw[cs_len]at hl
     have hg:=(h.gbs hlt).lt
     simp only[Bool.not_true,cond_false]
     rw[specBoundL h hlt (by omega),wgp h hlt (by omega)]
     simp only[Option.bind_some]
     rw[wb3 (by omega) hg,wgf (by omega) hg]
     have hfl:=jh n fun y=>le (gb n le S) y
     refine⟨_,_,rfl,rfl,by rw[cs_len];omega,fun _ => ?_⟩
     obtain⟨g,hge⟩:∃g,gb n le S=g:=⟨_,rfl⟩
     rw[hge]at hg hfl ⊢
     have hm:g∈fl n fun y=>le g y:=fl_mem.2 ⟨hg,h.ord.refl g hg⟩
     have hpos:=List.length_pos_of_mem hm
     have hlt2:∀s∈fl n fun y=>le g y,s<n:=fun s hs=>(fl_mem.1 hs).1
     have hall:(cs (fl n fun y=>le g y)).all (inB n)=true:=List.all_eq_true.2 fun x hx=>by
      obtain⟨i,hi,rfl⟩:=List.mem_map.1 hx
      have:=hlt2 i hi
      unfold inB
      exact decide_eq_true (by omega)
     unfold V112 wtg
     rw[h2,Option.bind_some]
     dsimp only
     rw[Bool.not_true,cond_false,cdt (by rw[cs_len];omega),Option.bind_some,lat1,wpx _ (by rw[cs_len];omega),Option.bind_some,hall]
     dsimp only
     rw[cond_true,Option.bind_some,wgp h hlt2 (by omega),Option.bind_some,lat1,xni h hg,wgf (by omega) hg,Option.bind_some,wn _ _ (by rw[cs_len];omega),Option.bind_some,decide_eq_true rfl]
   ·simp only[cdf (show ¬(l.length:Int)=0 by omega),cdf (show ¬(l.length:Int)≤20 by omega),cdt (show(20:Int)<(l.length:Int) by omega)]
    exact⟨_,_,rfl,rfl,by simp,fun e=>by cases e⟩
 ·rw[h1,h2]
  exact⟨_,_,rfl,rfl,by simp,fun e=>by cases e⟩
theorem wx9 {n:Nat}{le:Nat→Nat→Bool}(h:LatP n le) (h2:V35 (pos n le)=some ((some (lat n le),true,()),())):V133 (pos n le)=some ((cs (atm n le),true,()),()):=by
 unfold V133 wt1 V132 wt0
 rw[h2,Option.bind_some]
 dsimp only
 rw[Bool.not_true,cond_false,wxh h]
 rfl
theorem xgd (p:PT) (hx:∀r∈p.1,r.length≤4294967296):∃(U:List (List Int)) (f:Bool) (A:List Int),V130 big p=some ((U,f,()),())∧V126 big p=some ((U,f,()),())∧U.length≤10∧(∀x∈U,x.length≤10)∧V133 p=some ((A,f,()),())∧A.length=U.length:=by
 rcases xw hx with⟨n,le,e,h,h1,h2⟩|⟨h1,l,h2⟩
 ·subst e
  have h10:=h.le10
  have hal:(atm n le).length≤n:=jh _ _
  have hull:(ultL n le).length=(atm n le).length:=List.length_map _
  refine⟨_,true,_,(w1l h h1 h2).1,(w1l h h1 h2).2,by rw[zv jx];omega,fun x hx => ?_,wx9 h h2,by rw[cs_len,zv jx,hull]⟩
  obtain⟨a,ha,rfl⟩:=List.mem_map.1 ((w5l jx).1 hx)
  rw[cs_len];have:=jh n fun y=>le a y;omega
 ·unfold V130 wmm V126 wmh V133 wt1 V132 wt0
  rw[h1,h2]
  exact⟨_,false,_,rfl,rfl,by simp,by simp,rfl,rfl⟩
theorem true_FnBooleanCongruences (code:List Int) (hw:Wf (.pair (.sl (.int .u8)) .unit) (code,())):laws_FnBooleanCongruences code=some (true,()):=by
 unfold laws_FnBooleanCongruences xhr V0 V0_s
 rw[Option.bind_some]
 dsimp only
 by_cases hl:code.length≤65536
 case neg=>rw[cdt (by omega)]
 have hc:=xft hw hl
 obtain⟨p,x,e1,hp⟩:=wyd hc
 obtain⟨q,part,e2,hq⟩:=w49 hc
 obtain⟨v2,s2,i2⟩:=xf3 q part hq.rows12
 obtain⟨r,list,e3,hr,hll⟩:=wr5 hc
 obtain⟨v3,s3,i3⟩:=wyi r list hr.rows12 (by omega)
 obtain⟨s,sm,e4,hs,hsl⟩:=wr4 hc
 obtain⟨v4,f4,s4,i4,l4,k4⟩:=xkx s sm hs.rows12 (by omega)
 obtain⟨u,e5,hu⟩:=xfz hc
 obtain⟨U,f5,A,s5,i5,l5,r5,a5,n5⟩:=xgd u hu.rows12
 have t5:=wyp U (by omega) r5
 have t4:=zx v4 (by omega)
 rw[cdf (by omega),e1,Option.bind_some]
 dsimp only
 have fin:decide ((A.length:Int)=(U.length:Int))=true:=decide_eq_true (by omega)
 rcases w44 hp.rows12 x with⟨n,le,k,e,h,rfl,hk,b2,s1,i1⟩|⟨v,s1,i1,l1⟩
 ·subst e
  obtain⟨L,hL,hLn⟩:=xfn h
  have h10:=h.lp.le10
  have t1:=zx (cgB n le k) (by unfold cgB;rw[mkR_len];omega)
  simp only[s1,i1,t1,w5c h b2 hk,wyb h b2,wyg h hk,hL,e2,s2,i2,e3,s3,i3,e4,s4,i4,t4,e5,s5,i5,t5,a5,Option.bind_some,bne_self_eq_false,beq_self_eq_true,cond_false,cond_true,Bool.not_true,Bool.not_false,ne_eq,not_true_eq_false,decide_false,hLn,wb,fin]
  cases f4 with
  | false=>rfl
  | true =>
   simp only[k4 rfl,Option.bind_some,cond_true,Bool.not_true,cond_false]
 ·have t1:=zx v (by omega)
  simp only[s1,i1,t1,e2,s2,i2,e3,s3,i3,e4,s4,i4,t4,e5,s5,i5,t5,a5,Option.bind_some,bne_self_eq_false,beq_self_eq_true,cond_false,cond_true,Bool.not_true,Bool.not_false,ne_eq,not_true_eq_false,decide_false,fin]
  cases f4 with
  | false=>rfl
  | true =>
   simp only[k4 rfl,Option.bind_some,cond_true,Bool.not_true,cond_false]
def Wd.du:Wd→Wd
 | .v n => .v n
 | .op g a b => .op (-3-g) a.du b.du
def jn:List Wd→Wd
 | [] => .v 0
 | [x]=>x
 | x::y::l => .op (-2) x (jn (y::l))
def mb (g:Int):Wd→List Wd
 | .v n=>[.v n]
 | .op h a b=>if h=g then mb g a++mb g b else [.op h a b]
def Anti (m:List Wd):Prop:=m.Pairwise fun x y=>wle x y=false∧wle y x=false
structure JC (m:List Wd):Prop where
 two:2≤m.length
 ok:∀x∈m,x.ok
 nj:∀x∈m,x.hd ≠ -2
 anti:Anti m
 low:∀x∈m,x.hd = -1→∀t∈mb (-1) x,wle t (jn m)=false
 srt:SortedL cmpT (m.map Wd.fl)
theorem JC.ne {m:List Wd}(h:JC m):m≠[]:=fun e=>by have:=h.two;rw[e]at this;simp at this
def rows (m:List Wd):List (List Int):=m.map Wd.fl
end Go.Proofs.YtclaienmkbpkaaaGreat
