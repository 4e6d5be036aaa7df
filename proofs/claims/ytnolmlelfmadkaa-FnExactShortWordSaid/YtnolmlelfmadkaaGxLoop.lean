import Derived.Test.YtnolmlelfmadkaaGxDraw
set_option linter.unusedSimpArgs false
set_option linter.unusedVariables false
namespace Go.Gx
open Go
section
variable {P:Program} {A:Cfg} {c:Ctx} {own:Nat→List Nat} {st:St} {a:Act} {w:World} {ρ:Type}
theorem jgf {s:Ty}{f:Fl}{x y:s.den}(h:coerceTy s f x s f some=some y):y=x:=by
 have base:∀{s:Ty} {f:Fl} {x y:s.den},((if h:s=s then if f.le f then some (cast (congrArg Ty.den h) x) else none else none):Option s.den)=some y→y=x:=by
  intro s f x y h
  simp only[dif_pos,cast_eq]at h
  split at h
  ·simpa using h.symm
  ·cases h
 induction s generalizing f with
 | pair a b iha ihb =>
  simp only[coerceTy]at h
  rw[ul]at h
  cases h1:coerceTy a f.l x.1 a f.l some with
  | none=>rw[h1]at h;cases h
  | some y1 =>
   rw[h1,Option.bind_some,ul]at h
   cases h2:coerceTy b f.r x.2 b f.r some with
   | none=>rw[h2]at h;cases h
   | some y2 =>
    rw[h2,Option.bind_some]at h
    simp only[Option.some.injEq]at h
    rw[←h,iha h1,ihb h2]
 | _ =>
  simp only[coerceTy]at h
  first
   | exact base h
   | (simp at h;exact h.2.symm)
   | rfl
inductive MaskAt:V→V→Bool→Prop
 | drop (v:V):MaskAt v .u v.isOwner
 | keep (v:V):MaskAt v v.unwin false
 | as (s:Ty) (g:Fl) (x:s.den) (t:Ty) (f:Fl) (y:t.den) (ht:∀u,t ≠ .tup u) (h:coerceTy s g x t f some=some y) (b:Bool) (hb:b=false→V.val t f y=V.val s g x):MaskAt (.val s g x) (.val t f y) b
 | nilS (s:Ty) (f:Fl):MaskAt .nilS (.val (.sl s) f []) false
 | nilP (s:Ty):MaskAt .nilP (.val (.opt s) .i none) false
theorem jk4:∀{st:St}{ss:List Sh}{n:Nat}{k:St→List Nat→Option ρ}{r:ρ},maskK ss st n k=some r →
  ∃st' l,k st' l=some r∧st'.length=st.length∧(∀i∈l,n≤i)∧∀i,MaskAt (st.get i) (St.get st' i) (l.contains (n+i)):=by
 intro st
 induction st with
 | nil =>
  intro ss n k r h
  cases ss with
  | nil=>exact⟨[],[],h,rfl,by simp,fun i=>MaskAt.keep _⟩
  | cons sh ss=>cases sh<;>exact⟨[],[],h,rfl,by simp,fun i=>MaskAt.keep _⟩
 | cons v st ih =>
  intro ss n k r h
  have fin:∀{ss':List Sh} {v':V} {b:Bool},MaskAt v v' b→maskK ss' st (n+1) (fun st' l=>k (v'::st') (if b then n::l else l))=some r →
    ∃st' l,k st' l=some r∧st'.length=(v::st).length∧(∀i∈l,n≤i)∧∀i,MaskAt (St.get (v::st) i) (St.get st' i) (l.contains (n+i)):=by
   intro ss' v' b hm h
   obtain⟨st',l,hk,hlen,hl,hmi⟩:=ih h
   refine⟨_,_,hk,by simp[hlen], ?_, ?_⟩
   ·intro i hi
    cases b with
    | true =>
     rcases List.mem_cons.1 hi with rfl|hi
     ·exact Nat.le_refl _
     ·have:=hl i hi;omega
    | false=>have:=hl i hi;omega
   ·intro i
    cases i with
    | zero =>
     have hn:l.contains n=false:=by
      cases hc:l.contains n with
      | false=>rfl
      | true=>have:=hl n (by simpa using hc);omega
     cases b with
     | true=>simpa [St.get] using hm
     | false =>
      simp only[Nat.add_zero,Bool.false_eq_true,if_false,hn]
      exact hm
    | succ i =>
     have:=hmi i
     have e:(if b=true then n::l else l).contains (n+(i+1))=l.contains (n+1+i):=by
      have e1:n+(i+1)=n+1+i:=by omega
      rw[e1]
      cases b with
      | true=>simp only[if_true,List.contains_cons,Bool.or_eq_right_iff_imp,beq_iff_eq];omega
      | false=>rfl
     rw[e]
     exact this
  cases ss with
  | nil=>simp only[maskK]at h;exact fin (MaskAt.drop v) h
  | cons sh ss =>
   cases sh with
   | drop=>simp only[maskK]at h;exact fin (MaskAt.drop v) h
   | keep=>simp only[maskK]at h;exact fin (b:=false) (MaskAt.keep v) (by simpa using h)
   | «as» t f =>
    simp only[maskK]at h
    split at h
    ·cases h
    rename_i htup
    have ht:∀u,t ≠ .tup u:=by intro u hu;subst hu;simp[Ty.isTup]at htup
    split at h
    ·rename_i s g x
     rw[ul]at h
     cases hy:coerceTy s g x t f some with
     | none=>rw[hy]at h;cases h
     | some y =>
      rw[hy,Option.bind_some]at h
      refine fin (b := !decide (s=t∧g=f)) (v' := .val t f y) (MaskAt.as s g x t f y ht hy _ ?_) ?_ (ss':=ss)
      ·intro hb
       simp only[Bool.not_eq_eq_eq_not,Bool.not_false,decide_eq_true_eq]at hb
       obtain⟨rfl,rfl⟩:=hb
       rw[jgf hy]
      ·rw[←h]
       congr 1
       funext st' l
       by_cases hd:s=t∧g=f<;>simp[hd]
    ·split at h
     ·exact fin (b:=false) (MaskAt.nilS _ _) (by simpa using h)
     ·cases h
    ·split at h
     ·exact fin (b:=false) (MaskAt.nilP _) (by simpa using h)
     ·cases h
    ·cases h
theorem jk5 {st':St}{l:List Nat}(h:Inv c own [] st a w) (hlen:st'.length=st.length) (hm:∀i,MaskAt (st.get i) (St.get st' i) (l.contains i)):∃own',Inv c own' [] (st'.map (V.dropL l)) a w:=by
 have hex:∀i,∃F',F'.Sublist (own i)∧∀N2:Nat→Prop,(∀b,NB c own [] w b→N2 b)→(∀b∈own i,b ∉ F'→N2 b)→((∃s p k,St.get st' i = .ref s p k∧st.get i = .ref s p k∧F'=[])∨∀st2:St,SlotOk w N2 st2 a F' (Act.at_ a i) (V.dropL l (St.get st' i))):=by
  intro i
  have hs:=h.slot i
  generalize hv:st.get i=v at hs
  have hmi:=hm i
  rw[hv]at hmi
  generalize hv':St.get st' i=v' at hmi
  generalize l.contains i=b at hmi
  cases hmi with
  | drop=>exact⟨[],List.nil_sublist _,fun N2 _ _ => .inr fun st2=>rfl⟩
  | keep =>
   cases v with
   | val t f x=>exact⟨own i,List.Sublist.refl _,fun N2 h1 _ => .inr fun st2=>RepV.mono (fun b hb=>⟨h1 b hb,rfl⟩) hs fun _ _=>rfl⟩
   | u=>exact⟨own i,List.Sublist.refl _,fun N2 h1 _ => .inr fun st2=>hs⟩
   | nilS=>exact⟨own i,List.Sublist.refl _,fun N2 h1 _ => .inr fun st2=>hs⟩
   | nilP=>exact⟨own i,List.Sublist.refl _,fun N2 h1 _ => .inr fun st2=>hs⟩
   | ref s p k=>exact⟨[],List.nil_sublist _,fun N2 _ _ => .inl ⟨s,p,k,rfl,rfl,rfl⟩⟩
   | win _ _ _ _=>exact⟨[],List.nil_sublist _,fun N2 _ _ => .inr fun st2=>rfl⟩
  | «as» s g x t f y ht hc b hb =>
   rcases hs with⟨cs,hh,hr⟩|⟨u,_,_,rfl,_⟩
   ·obtain⟨y',F',e,hsub,hre⟩:=jao hc hr (h.nd i)
    simp only[Option.some.injEq]at e
    subst e
    exact⟨F',hsub,fun N2 h1 h2 => .inr fun st2 => .inl ⟨cs,coerceTy_holds hc hh,hre N2 h1 h2⟩⟩
   ·exfalso
    cases t<;>simp[coerceTy]at hc
    exact ht _ rfl
  | nilS s f =>
   refine⟨[],List.nil_sublist _,fun N2 _ _ => .inr fun st2 => ?_⟩
   rw[hs.2]
   refine .inl ⟨_,rfl, ?_⟩
   simp only[Rep]
   split
   ·exact .inl ⟨trivial,trivial,trivial⟩
   ·exact⟨trivial,none,0,rfl,Nat.le_refl _,Nat.zero_le _,fun h=>absurd rfl h⟩
  | nilP s =>
   refine⟨[],List.nil_sublist _,fun N2 _ _ => .inr fun st2 => ?_⟩
   rw[hs.2]
   exact .inl ⟨_,rfl,by simp[Rep]⟩
 let own':Nat→List Nat:=fun i=>Classical.choose (hex i)
 have hsub:∀i,(own' i).Sublist (own i):=fun i=>(Classical.choose_spec (hex i)).1
 have hslot:=fun i=>(Classical.choose_spec (hex i)).2
 have hN:∀b,NB c own [] w b→NB c own' [] w b:=fun b hb=>⟨hb.1,fun i hi=>hb.2.1 i ((hsub i).subset hi),hb.2.2.1,hb.2.2.2⟩
 have hlet:∀i,∀b∈own i,b ∉ own' i→NB c own' [] w b:=by
  intro i b hb hb'
  refine⟨h.lt i b hb,fun j hj => ?_,by simp,fun hlt => ?_⟩
  ·have:=h.dj j i b ((hsub j).subset hj) hb
   subst this
   exact hb' hj
  ·rcases h.bnd i b hb with h0|h0
   ·exact c.mn b h0
   ·omega
 have hget:∀i,St.get (st'.map (V.dropL l)) i=V.dropL l (St.get st' i):=fun i=>qy _ _ rfl i
 refine⟨own',by simp[hlen,h.size],h.defers,fun i => ?_,fun i=>(hsub i).nodup (h.nd i),h.ndE,fun i j b hb hb'=>h.dj i j b ((hsub i).subset hb) ((hsub j).subset hb'),by simp,by simp,fun i b hb=>h.bnd i b ((hsub i).subset hb),by simp,h.frame,h.grow,h.os,h.tape,h.output,h.frozen,h.fixed⟩
 rcases hslot i (NB c own' [] w) hN (hlet i) with⟨s,p,k,e1,e2,e3⟩|hsl
 ·rw[hget,e1]
  have hs:=h.slot i
  rw[e2]at hs
  simp only[V.dropL]
  split
  ·exact e3
  ·rename_i hnl
   refine⟨e3,hs.2.congr ?_ rfl⟩
   rw[hget]
   have hms:=hm s
   have hl:l.contains s=false:=by simpa using hnl
   rw[hl]at hms
   have ho:=hs.2.1
   generalize hvs:st.get s=v at hms ho
   generalize hvs':St.get st' s=v' at hms
   generalize hb:false=b at hms
   cases hms with
   | drop=>rw[ho]at hb;cases hb
   | keep=>cases v<;>simp_all [V.isOwner,V.dropL,V.unwin]
   | «as» s g x t f y ht hc b hb'=>rw[hb' hb.symm];rfl
   | nilS=>cases ho
   | nilP=>cases ho
 ·rw[hget]
  exact hsl _
theorem jc6 {S:Option (List Sh)}{k:St→Option ρ}{r:ρ}(h:Inv c own [] st a w) (hk:maskO S st k=some r):∃own' st',k st'=some r∧Inv c own' [] st' a w:=by
 unfold maskO at hk
 split at hk
 ·obtain⟨st',l,hk,hlen,_,hm⟩:=jk4 hk
  simp only[Nat.zero_add]at hm
  obtain⟨own',h'⟩:=jk5 h hlen hm
  cases l with
  | nil =>
   have:st'.map (V.dropL [])=st':=by
    conv=>rhs;rw[←List.map_id st']
    apply List.map_congr_left
    intro v _
    cases v<;>simp[V.dropL]
   rw[this]at h'
   exact⟨own',st',hk,h'⟩
  | cons n l=>exact⟨own',_,hk,h'⟩
 ·exact⟨own,st,hk,h⟩
def Ex.toExit:Ex→Exit
 | .normal => .normal
 | .exit i => .exit i
 | .ret => .ret
def fillsB (n:Nat):Code→Bool
 | .region _ ops _=>ops.toList.any fun o=>o.dst==some n
 | .seq a b=>fillsB n a||fillsB n b
 | _=>false
def HookOk (P:Program) (code:Code) (h:Hook):Prop:=∀{ρ:Type} {c:Ctx} {own:Nat→List Nat} {st:St} {a:Act} {w:World} {k:St→Option ρ} {r:ρ} {Q:Exit→Act→World→Prop},(∀n,fillsB n code=true→c.fix n=none) →
 Inv c own [] st a w→h.run st k=some r→(∀own' st' a' w',k st'=some r→Inv c own' [] st' a' w'→Q .normal a' w')→code.wp P Q a w
def HooksOk (P:Program) (A:Cfg):Code→Prop
 | .region i ops d=>match A.hook i with
  | some h=>HookOk P (.region i ops d) h
  | none=>True
 | .seq a b=>match A.hook (3000000+rid a) with
  | some h=>HookOk P (.seq a b) h
  | none=>HooksOk P A a∧HooksOk P A b
 | .cond _ a b=>HooksOk P A a∧HooksOk P A b
 | .block _ c=>HooksOk P A c
 | .loop c=>HooksOk P A c
 | _=>True
theorem vr (h:∀i,A.hook i=none):∀{code:Code},HooksOk P A code
 | .region i ops d=>by unfold HooksOk;rw[h i];trivial
 | .seq a b=>by unfold HooksOk;rw[h (3000000+rid a)];exact⟨vr h,vr h⟩
 | .cond _ a b=>⟨vr h,vr h⟩
 | .block _ c=>by unfold HooksOk;exact vr h
 | .loop c=>by unfold HooksOk;exact vr h
 | .skip=>trivial
 | .exit _=>trivial
 | .ret=>trivial
 | .rangeFunc _ _ _ _=>trivial
 | .scope _=>trivial
 | .label _=>trivial
 | .goto _=>trivial
 | .refuse _=>trivial
theorem jjp {ρ:Type}{g:Bool}{n:Nat}{x:Option ρ}{r:ρ}(h:gate g n x=some r):x=some r:=by
 cases g with
 | false=>exact h
 | true =>
  cases n with
  | zero=>cases h
  | succ n=>exact h
theorem jcp {fx:List Nat}{n:Nat}:∀{code:Code},keepsB fx code=true→fillsB n code=true→n ∉ fx
 | .region _ ops _,h,hn,hm=>by
  simp only[keepsB,List.all_eq_true]at h
  simp only[fillsB,List.any_eq_true,beq_iff_eq]at hn
  obtain⟨o,ho,hd⟩:=hn
  have:=h o ho
  rw[hd]at this
  simp[hm]at this
 | .seq a b,h,hn,hm=>by
  simp only[keepsB,Bool.and_eq_true]at h
  simp only[fillsB,Bool.or_eq_true]at hn
  rcases hn with hn|hn
  ·exact jcp h.1 hn hm
  ·exact jcp h.2 hn hm
 | .skip,_,hn,_=>by simp[fillsB]at hn
 | .exit _,_,hn,_=>by simp[fillsB]at hn
 | .ret,_,hn,_=>by simp[fillsB]at hn
 | .cond _ _ _,_,hn,_=>by simp[fillsB]at hn
 | .block _ _,_,hn,_=>by simp[fillsB]at hn
 | .loop _,_,hn,_=>by simp[fillsB]at hn
 | .rangeFunc _ _ _ _,_,hn,_=>by simp[fillsB]at hn
 | .scope _,_,hn,_=>by simp[fillsB]at hn
 | .label _,_,hn,_=>by simp[fillsB]at hn
 | .goto _,_,hn,_=>by simp[fillsB]at hn
 | .refuse _,_,hn,_=>by simp[fillsB]at hn
theorem jmt (hA:CfgOk P A) (hS:SigOk P A){n:Nat}{fx:List Nat}(hfx:∀n,n ∉ fx→c.fix n=none):∀{code:Code}{own:Nat→List Nat}{st:St}{a:Act}{w:World}{k:Ex→St→Option ρ}{r:ρ}{Q:Exit→Act→World→Prop},keepsB fx code=true→HooksOk P A code→Inv c own [] st a w→run A n code st k=some r →
  (∀e own' st' a' w',k e st'=some r→Inv c own' [] st' a' w'→Q e.toExit a' w')→code.wp P Q a w:=by
 intro code
 induction code with
 | skip=>intro own st a w k r Q _ _ h hk hQ;exact wp_skip (hQ .normal _ _ _ _ hk h)
 | exit i=>intro own st a w k r Q _ _ h hk hQ;exact wp_exit (hQ (.exit i) _ _ _ _ hk h)
 | ret=>intro own st a w k r Q _ _ h hk hQ;exact wp_ret (hQ .ret _ _ _ _ hk h)
 | region i ops d =>
  intro own st a w k r Q hkp hH h hk hQ
  simp only[run]at hk
  simp only[keepsB,List.all_eq_true]at hkp
  have hfo:∀o∈ops.toList,∀n,o.dst=some n→c.fix n=none:=by
   intro o ho n hn
   have:=hkp o ho
   rw[hn]at this
   exact hfx n (by simpa using this)
  split at hk
  ·rename_i hh hhook
   unfold HooksOk at hH
   rw[hhook]at hH
   refine hH (fun n hn => ?_) h hk fun own' st' a' w' hk h=>hQ .normal _ _ _ _ hk h
   simp only[fillsB,List.any_eq_true,beq_iff_eq]at hn
   obtain⟨o,ho,hn⟩:=hn
   exact hfo o ho n hn
  cases d with
  | true =>
   rw[if_pos rfl]at hk
   split at hk
   ·exact jh9 hA hS (fun own' st' a' w' hk h=>hQ .normal _ _ _ _ hk h) hfo h hk
   ·exact ji7 hA hS (fun own' st' a' w' hk h=>hQ .normal _ _ _ _ hk h) hfo h hk
  | false =>
   rw[if_neg (by simp)]at hk
   refine wp_region ?_
   rw[List.range_eq_range']
   have:=jdx (Q:=Q) hA hS (ops:=ops) (os:=ops.toList) (n:=0) (fun own' st' a' w' hk h=>hQ .normal _ _ _ _ hk h) (fun j o ho=>by simpa using ho) hfo h hk
   simpa using this
 | seq x y ihx ihy =>
  intro own st a w k r Q hkp hH h hk hQ
  have hkp0:=hkp
  simp only[keepsB,Bool.and_eq_true]at hkp
  simp only[run]at hk
  unfold HooksOk at hH
  split at hk
  ·rename_i hh hhook
   rw[hhook]at hH
   exact hH (fun n hn=>hfx n fun hm=>jcp hkp0 hn hm) h hk fun own' st' a' w' hk h=>hQ .normal _ _ _ _ hk h
  rename_i hhook
  rw[hhook]at hH
  refine wp_seq (ihx hkp.1 hH.1 h hk fun e own' st' a' w' hk h' => ?_)
  unfold seqK at hk
  cases e with
  | normal =>
   obtain⟨own2,st2,hk,h2⟩:=jc6 h' hk
   exact ihy hkp.2 hH.2 h2 (jjp hk) hQ
  | exit i=>exact hQ (.exit i) _ _ _ _ hk h'
  | ret=>exact hQ .ret _ _ _ _ hk h'
 | cond x y z ihy ihz =>
  intro own st a w k r Q hkp hH h hk hQ
  simp only[keepsB,Bool.and_eq_true]at hkp
  simp only[run]at hk
  have hv:=jt h x
  split at hk
  ·rename_i f t hx
   rw[hx]at hv
   refine wp_cond hv.bool ?_
   cases t with
   | true =>
    rw[cond_true]at hk
    obtain⟨own2,st2,hk,h2⟩:=jc6 h hk
    exact ihy hkp.1 hH.1 h2 hk hQ
   | false=>exact ihz hkp.2 hH.2 h hk hQ
  ·cases hk
 | block i x ih =>
  intro own st a w k r Q hkp hH h hk hQ
  simp only[keepsB]at hkp
  simp only[run]at hk
  refine wp_block (ih hkp hH h hk fun e own' st' a' w' hk h' => ?_)
  unfold blockK at hk
  cases e with
  | normal=>exact hQ .normal _ _ _ _ hk h'
  | ret=>exact hQ .ret _ _ _ _ hk h'
  | exit j =>
   simp only at hk
   by_cases hj:j=i
   ·simp only[hj,if_true]at hk
    simp only[Ex.toExit,Exit.inBlock,hj,if_true]
    exact hQ .normal _ _ _ _ hk h'
   ·simp only[hj,if_false]at hk
    simp only[Ex.toExit,Exit.inBlock,hj,if_false]
    exact hQ (.exit j) _ _ _ _ hk h'
 | loop x ih =>
  intro own st a w k r Q hkp hH h hk hQ
  simp only[keepsB]at hkp
  simp only[run]at hk
  have key:∀{m:Nat} {own:Nat→List Nat} {st:St} {a:Act} {w:World},Inv c own [] st a w→iter (A.shape (2*rid x)) (run A n x) m st k=some r→Code.rounds P x Q m a w:=by
   intro m
   induction m with
   | zero=>intro own st a w h hk;cases hk
   | succ m ihm =>
    intro own st a w h hk
    simp only[iter]at hk
    rw[rounds_succ]
    refine ih hkp hH h hk fun e own' st' a' w' hk h' => ?_
    cases e with
    | normal =>
     obtain⟨own2,st2,hk,h2⟩:=jc6 h' hk
     exact ihm h2 hk
    | exit i=>exact hQ (.exit i) _ _ _ _ hk h'
    | ret=>exact hQ .ret _ _ _ _ hk h'
  split at hk
  ·exact wp_loop_rounds (n+1) (key h hk)
  ·obtain⟨own1,st1,hk,h1⟩:=jc6 h hk
   exact wp_loop_rounds n (key h1 hk)
 | _=>intro own st a w k r Q _ _ h hk hQ;simp[run]at hk
end
end Go.Gx
