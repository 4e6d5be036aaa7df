import Derived.Test.YtgmapdlhkfajoaaGreatGxWr2
set_option linter.unusedSimpArgs false
set_option linter.unusedVariables false
namespace Go.Gx
open Go
section
variable {A:Cfg} {st:St} {ρ:Type} {all:List Oper}
theorem jch {x y:Oper}(h:dstB x y=true):∀n,x.dst=some n→y.dst≠some n:=by
 intro n hn
 simpa [dstB,hn] using h
theorem jdx {x y:Oper}(h:apartB all x y=true):(∀n,x.dst=some n→n ∉ looks all y)∧(∀n,y.dst=some n→n ∉ looks all x):=by
 simp only[apartB,Bool.and_eq_true]at h
 refine⟨fun n hn => ?_,fun n hn => ?_⟩
 ·have:=h.1;rw[hn]at this;simpa using this
 ·have:=h.2;rw[hn]at this;simpa using this
theorem freeD_spec {fr PV is:List Nat}:freeD all fr PV is st=true↔(∀i∈is,∃o,all[i]? = some o∧(i∈fr→∀n,o.dst=some n→(st.get n).isOwner=false))∧∀q∈PV,∀v∈st,v.namesB q=false:=by
 unfold freeD
 simp only[Bool.and_eq_true,List.all_eq_true,Bool.not_eq_true']
 refine and_congr ⟨fun h i hi => ?_,fun h i hi => ?_⟩ Iff.rfl
 ·have:=h i hi
  cases ho:all[i]? with
  | none=>rw[ho]at this;cases this
  | some o =>
   rw[ho]at this
   refine⟨o,rfl,fun hf n hn => ?_⟩
   simpa [hf,hn] using this
 ·obtain⟨o,ho,h2⟩:=h i hi
  rw[ho]
  by_cases hf:i∈fr
  ·cases hd:o.dst with
   | none=>simp[hd]
   | some n=>simp[hd,h2 hf n hd]
  ·simp[hf]
theorem namesB_names {v:V}{q:Nat}:v.namesB q=false↔¬v.names q:=by cases v<;>simp[V.namesB,V.names]
theorem jiq {fr PV is:List Nat}(h:freeD all fr PV is st=true):NoRef PV st:=by
 intro q hq i
 by_cases hi:i<st.length
 ·refine namesB_names.1 ((freeD_spec.1 h).2 q hq _ ?_)
  unfold St.get
  rw[List.getD_eq_getElem?_getD,List.getElem?_eq_getElem hi]
  exact List.getElem_mem hi
 ·rw[qd st i (by omega)]
  exact fun h=>h
theorem jko {fr PV is:List Nat}(h1:∀i∈is,∃o,all[i]? = some o∧(i∈fr→∀n,o.dst=some n→(st.get n).isOwner=false)) (h2:NoRef PV st):freeD all fr PV is st=true:=by
 refine freeD_spec.2 ⟨h1,fun q hq v hv => ?_⟩
 obtain⟨i,hi,e⟩:=List.getElem_of_mem hv
 have:=h2 q hq i
 unfold St.get at this
 rw[List.getD_eq_getElem?_getD,List.getElem?_eq_getElem hi,Option.getD_some,e]at this
 exact namesB_names.2 this
theorem jdb {fr PV is js:List Nat}(h:freeD all fr PV is st=true) (hs:∀i∈js,i∈is):freeD all fr PV js st=true:=by
 obtain⟨h1,h2⟩:=freeD_spec.1 h
 exact freeD_spec.2 ⟨fun i hi=>h1 i (hs i hi),h2⟩
theorem jda {fr PV is:List Nat}(h:freeD all fr PV is st=true){i:Nat}(hi:i∈is){o:Oper}(ho:all[i]? = some o) (hc:i∈fr):∀n,o.dst=some n→(st.get n).isOwner=false:=by
 obtain⟨o',ho',h2⟩:=(freeD_spec.1 h).1 i hi
 rw[ho]at ho'
 cases ho'
 exact h2 hc
theorem jgs {W:Wr}{fr PV is:List Nat}(h:freeD all fr PV is st=true){e:Ef}{i:Nat}{o:Oper}(he:e.Ok W PV all i o st) (hf:NoRef PV (e.ap o.dst st)) (hd:∀i∈is,∀y,all[i]? = some y→i∈fr→∀n,o.dst=some n→y.dst≠some n):freeD all fr PV is (e.ap o.dst st)=true:=by
 refine jko (fun i' hi => ?_) hf
 obtain⟨y,hy,h2⟩:=(freeD_spec.1 h).1 i' hi
 exact⟨y,hy,fun hfr n hn=>jed he (fun e=>hd i' hi y hy hfr n e hn) (h2 hfr n hn)⟩
theorem jdm {fr PV:List Nat}{W:Wr}{i:Nat}{is:List Nat}{o:Oper}{k:St→Option ρ}(ho:all[i]? = some o) (hc:i∈fr):runD A all fr PV W (i::is) st k=stepU A PV W all i o st fun st'=>runD A all fr PV W is st' k:=by
 simp only[runD,ho,List.contains_eq_mem,hc,decide_true,if_true]
theorem bubble {fr PV:List Nat}{W:Wr}(hk:Keeps (PV:=PV) W all) (hpv:∀o∈all,privB2 A all PV o=true) {j:Nat} {post:List Nat} {oj:Oper} {r:ρ} {k:St→Option ρ} (hj:all[j]? = some oj) (hcj:j∈fr):∀{pre:List Nat} {st:St},(∀i∈pre,∃o,all[i]? = some o∧i∈fr∧ApartU W all PV i j o oj) →
  (pre++[j]).Pairwise (fun a b=>∀x y,all[a]? = some x→all[b]? = some y→a∈fr→b∈fr→dstB x y=true)→FineW W PV st→freeD all fr PV (pre++[j]) st=true→runD A all fr PV W (pre++j::post) st k=some r →
  stepU A PV W all j oj st (fun s=>runD A all fr PV W (pre++post) s k)=some r
 | [],st,_,_,_,_,h=>by
  rw[List.nil_append,jdm hj hcj]at h
  exact h
 | i::pre,st,hpre,hpw,hfine,hfr,h=>by
  obtain⟨oi,hi,hci,hap⟩:=hpre i List.mem_cons_self
  have pi:=hpv oi (List.mem_of_getElem? hi)
  have pj:=hpv oj (List.mem_of_getElem? hj)
  rw[List.cons_append,jdm hi hci]at h
  simp only[List.cons_append,List.pairwise_cons]at hpw
  have di:=jda hfr (i:=i) List.mem_cons_self hi hci
  have dj:=jda hfr (i:=j) (by simp) hj hcj
  obtain⟨e,he,h1,hl⟩:=jgc hk pi hfine di h
  have hfine':=jdt hk hi hfine di he
  have hfr':freeD all fr PV (pre++[j]) (e.ap oi.dst st)=true :=
   jgs (jdb hfr fun i' hi'=>by rw[List.cons_append];exact List.mem_cons_of_mem _ hi') he hfine'.fine.priv fun i' hi' o ho hc n hn=>jch (hpw.1 i' hi' oi o hi ho hci hc) n hn
  have ih:=bubble hk hpv hj hcj (fun i' hi'=>hpre i' (List.mem_cons_of_mem _ hi')) hpw.2 hfine' hfr' h1
  have hsw:stepU A PV W all i oi st (fun s1=>stepU A PV W all j oj s1 fun s=>runD A all fr PV W (pre++post) s k)=some r:=by
   rw[hl _ st (.inl jd1) hfine di]
   exact ih
  have:=jmi hk hi hj pi pj hfine di dj hap hsw
  rw[List.cons_append]
  rw[←this]
  congr 1
  funext s
  rw[jdm hi hci]
theorem jfs {s:Nat}:∀{st:St}{n i:Nat},(∀v,st[i]? = some v→v.namesB s=true→n+i∈namesAt s st n)
 | [],n,i,v,h,_=>by simp at h
 | u'::st,n,i,v,h,hv=>by
  cases i with
  | zero =>
   simp only[List.getElem?_cons_zero,Option.some.injEq]at h
   subst h
   simp[namesAt,hv]
  | succ i =>
   have:=jfs (s:=s) (st:=st) (n:=n+1) (i:=i) v (by simpa using h) hv
   have e:n+(i+1)=n+1+i:=by omega
   rw[e]
   unfold namesAt
   split
   ·exact List.mem_cons_of_mem _ this
   ·exact this
theorem jdp {W:Wr}(h:srOk W st=true):∀i∈W.ws,∀j,(st.get j).names (W.sl i)→j∈W.sr (W.sl i):=by
 intro i0 hi0 i hn
 unfold srOk at h
 simp only[List.all_eq_true]at h
 have h:=h i0 hi0
 have hb:(st.get i).namesB (W.sl i0)=true:=by
  cases hb:(st.get i).namesB (W.sl i0) with
  | true=>rfl
  | false=>exact absurd hn (namesB_names.1 hb)
 have hi:i<st.length:=by
  rcases Nat.lt_or_ge i st.length with h'|h'
  ·exact h'
  ·rw[qd st i h']at hn;exact hn.elim
 have e:st[i]? = some (st.get i):=by
  unfold St.get
  rw[List.getD_eq_getElem?_getD,List.getElem?_eq_getElem hi];rfl
 have:=h (0+i) (jfs _ e hb)
 simpa using this
theorem jde {W:Wr}{s:Nat}:∀{os:List Oper}{n:Nat},wrKeep all W s os n=true→∀i o,os[i]? = some o→n+i ∉ W.ws→(∀q∈looks all o,q ∉ W.sr s)∨∀d,o.dst=some d→d∈W.sr s
 | [],n,_,i,o,ho,_=>by simp at ho
 | x::os,n,h,i,o,ho,hw=>by
  simp only[wrKeep,Bool.and_eq_true]at h
  cases i with
  | zero =>
   simp only[List.getElem?_cons_zero,Option.some.injEq]at ho
   subst ho
   have h1:=h.1
   simp only[Bool.or_eq_true,List.contains_eq_mem,decide_eq_true_eq,List.all_eq_true,Bool.not_eq_true',decide_eq_false_iff_not]at h1
   rcases h1 with(h1|h1)|h1
   ·exact absurd h1 hw
   ·exact .inl h1
   ·right
    intro d hd
    rw[hd]at h1
    simpa using h1
  | succ i=>exact jde h.2 i o (by simpa using ho) (by rw[show n+1+i=n+(i+1) by omega];exact hw)
theorem jf3 {W:Wr}{i:Nat}{y:Oper}(h:wrBy all W i y=true):(isMv (W.sl i) y=true∧i ∉ W.cs)∨∀q∈looks all y,q ∉ W.sr (W.sl i):=by
 unfold wrBy at h
 simp only[Bool.or_eq_true,Bool.and_eq_true,List.all_eq_true,Bool.not_eq_true',List.contains_eq_mem,decide_eq_false_iff_not]at h
 exact h
theorem jen {β:Type}(n:Nat) (k:Nat→β):fzN n k=k n:=by cases n<;>rfl
theorem vw {β:Type}:∀(l:List Nat) (k:List Nat→β),fzL l k=k l
 | [],k=>rfl
 | x::xs,k=>by rw[fzL,jen,vw xs]
theorem jdc {β:Type}:∀(l:List (Nat×List Nat)) (k:List (Nat×List Nat)→β),fzT l k=k l
 | [],k=>rfl
 | p::t,k=>by rw[fzT,jen,vw,jdc t]
theorem jjg {β:Type}:∀(l:List (Nat×Nat)) (k:List (Nat×Nat)→β),fzP l k=k l
 | [],k=>rfl
 | p::t,k=>by rw[fzP,jen,jen,jjg t]
theorem jf4 {β:Type}(A:Cfg) (all:List Oper) (ord fr:List Nat) (st:St):∃W:Wr,∀k:Wr→β,wrInfo A all ord fr st k=k W :=
 ⟨_,fun k=>by unfold wrInfo;rw[jjg,vw,jdc,vw]⟩
theorem jjx {t:List (Nat×List Nat)}{W:Wr}{i j:Nat}(h:wrPair all t W i j=true):i∈tabOf t j∨∃x y,all[i]? = some x∧all[j]? = some y∧(i∈W.ws→(isMv (W.sl i) y=true∧i ∉ W.cs)∨∀q∈looks all y,q ∉ W.sr (W.sl i))∧(j∈W.ws→(isMv (W.sl j) x=true∧j ∉ W.cs)∨∀q∈looks all x,q ∉ W.sr (W.sl j)):=by
 unfold wrPair at h
 split at h
 case h_2=>cases h
 rename_i x y hx hy
 simp only[Bool.or_eq_true,List.contains_eq_mem,decide_eq_true_eq,Bool.and_eq_true,Bool.not_eq_true',decide_eq_false_iff_not]at h
 rcases h with⟨h1,h2⟩|h
 rotate_left
 ·exact .inl h
 ·refine .inr ⟨x,y,hx,hy,fun hi => ?_,fun hj => ?_⟩
  ·rcases h1 with h1|h1
   ·exact absurd hi h1
   ·exact jf3 h1
  ·rcases h2 with h2|h2
   ·exact absurd hj h2
   ·exact jf3 h2
theorem jai {t:List (Nat×List Nat)}{W:Wr}:∀{is:List Nat},wrPairs all t W is=true→is.Pairwise fun i j=>wrPair all t W i j=true
 | [],_=>List.Pairwise.nil
 | i::is,h=>by
  simp only[wrPairs,Bool.and_eq_true,List.all_eq_true]at h
  exact List.Pairwise.cons h.1 (jai h.2)
end
section
variable {P:Program} {A:Cfg} {c:Ctx} {own:Nat→List Nat} {st:St} {a:Act} {w:World} {ρ:Type}
theorem Inv.refsOk {E:List Nat}(h:Inv c own E st a w):RefsOk st:=by
 intro i s hn
 have hs:=h.slot i
 cases hv:st.get i with
 | ref q p k =>
  rw[hv]at hs hn
  simp only[V.names]at hn
  subst hn
  exact hs.2.1
 | win q lo hi tt =>
  rw[hv]at hs hn
  simp only[V.names]at hn
  subst hn
  exact hs.2.owner
 | _=>rw[hv]at hn;exact hn.elim
theorem Inv.drew (h:Inv c own [] st a w) (n:Nat):Inv c own [] st a { w with drawn:=n } :=
 h.grown (E':=[]) (fun _ _ _=>rfl) (Nat.le_refl _) rfl rfl rfl trivial List.nodup_nil (by simp)
theorem ul {all:List Oper}{t:List (Nat×List Nat)}{fr PV:List Nat}{i j:Nat}(h:pairOk all t fr PV i j=true):i≠j∧j ∉ aftL all i∧(∀x y,all[i]? = some x→all[j]? = some y→i∈fr→j∈fr→dstB x y=true) ∧
  (i∈tabOf t j∨∃x y,all[i]? = some x∧all[j]? = some y∧i∈fr∧j∈fr∧Apart all PV x y):=by
 unfold pairOk at h
 split at h
 case h_2=>cases h
 rename_i x y hx hy
 simp only[Bool.and_eq_true,bne_iff_ne,ne_eq,Bool.not_eq_true',List.contains_eq_mem,decide_eq_false_iff_not,Bool.or_eq_true,decide_eq_true_eq,List.all_eq_true,Bool.and_eq_false_iff]at h
 obtain⟨⟨⟨h1,h2⟩,h3⟩,h4⟩:=h
 have hd:i∈fr→j∈fr→dstB x y=true:=by
  intro c1 c2
  rcases h3 with h3|h3|h3
  ·exact h3
  ·exact absurd c1 h3
  ·exact absurd c2 h3
 refine⟨h1,h2,fun x' y' hx' hy' c1 c2 => ?_, ?_⟩
 ·rw[hx]at hx';rw[hy]at hy'
  cases hx';cases hy'
  exact hd c1 c2
 ·rcases h4 with h4|⟨⟨⟨c1,c2⟩,c3⟩,c4⟩
  ·exact .inl h4
  ·refine .inr ⟨x,y,hx,hy,c1,c2, ?_⟩
   obtain⟨ax,ai⟩:=jdx c3
   refine⟨ax,ai,jch (hd c1 c2),fun q hq hl => ?_⟩
   rcases c4 q hq with h|h
   ·exact absurd hl h
   ·exact h
theorem jbv {all:List Oper}{t:List (Nat×List Nat)}{fr PV:List Nat}:∀{is:List Nat},pairsOk all t fr PV is=true→is.Pairwise fun i j=>pairOk all t fr PV i j=true
 | [],_=>List.Pairwise.nil
 | i::is,h=>by
  simp only[pairsOk,Bool.and_eq_true,List.all_eq_true]at h
  exact List.Pairwise.cons h.1 (jbv h.2)
theorem jb7 {ops:Array Oper}{listed:Array Bool}{i:Nat}(h:i∈Region.ready .any ops listed):i<ops.size∧listed.getD i true=false∧∀e∈aftL ops.toList i,listed.getD e false=true:=by
 unfold Region.ready at h
 simp only[List.mem_filter,List.mem_range,Bool.and_eq_true,Bool.not_eq_true']at h
 obtain⟨h1,h2,h3⟩:=h
 refine⟨h1,h2,fun e he => ?_⟩
 unfold aftL at he
 simp only[Array.getElem?_toList]at he
 rw[Array.getElem?_eq_getElem h1]at he h3
 simp only[Option.map_some,Option.getD_some,List.mem_filterMap]at he h3
 obtain⟨ed,hed,he⟩:=he
 have:=(Array.all_eq_true_iff_forall_mem.1 h3) ed (by simpa using hed)
 split at he
 ·rename_i hb
  simp only[Option.some.injEq]at he
  subst he
  simpa [hb] using this
 ·cases he
theorem jfn {ops:Array Oper}{listed:Array Bool}{i:Nat}(h1:i<ops.size) (h2:listed.getD i true=false) (h3:∀e∈aftL ops.toList i,listed.getD e false=true):i∈Region.ready .any ops listed:=by
 unfold Region.ready
 simp only[List.mem_filter,List.mem_range,Bool.and_eq_true,Bool.not_eq_true']
 refine⟨h1,h2, ?_⟩
 rw[Array.getElem?_eq_getElem h1]
 simp only[Option.map_some,Option.getD_some]
 refine Array.all_eq_true_iff_forall_mem.2 fun ed hed => ?_
 cases hb:Region.binds .any ed with
 | false=>simp
 | true =>
  simp only[Bool.not_true,Bool.false_or]
  refine h3 ed.on ?_
  unfold aftL
  simp only[Array.getElem?_toList]
  rw[Array.getElem?_eq_getElem h1]
  exact List.mem_filterMap.2 ⟨ed,by simpa using hed,by simp[hb]⟩
theorem jlm {all:List Oper}{fr:List Nat}{o:Oper}(h:Inv c own [] st a w):∃own',Inv c own' [] (frzD all fr o st) a w:=by
 unfold frzD
 split
 ·split
  ·split
   ·obtain⟨own',h',_⟩:=jbe h _
    exact⟨own',h'⟩
   ·exact⟨_,h⟩
  ·exact⟨_,h⟩
 ·exact⟨_,h⟩
theorem jk8 (hA:CfgOk P A) (hS:SigOk P A){PV:List Nat}{W:Wr}{i:Nat}{ops:Array Oper}{o:Oper}{k:St→Option ρ}{r:ρ}{Q:Exit→Act→World→Prop}{K:Act→World→Prop}{n:Nat}(hn:ops[n]? = some o) (hfx:∀n,o.dst=some n→c.fix n=none)
  (rest:∀own' st' a' w',k st'=some r→Inv c own' [] st' a' w'→K a' w') (h:Inv c own [] st a w) (hk:stepU A PV W ops.toList i o st k=some r):wpOp P ops Q n K a w:=by
 unfold stepU at hk
 split at hk
 ·unfold stepWr at hk
  split at hk
  case isFalse=>cases hk
  rename_i hok
  have hg:o.guard=none:=by
   rcases jg4 hok with⟨T,a,v,p,ho,hg,_⟩|⟨cc,f,S,ho,hc,hS',c1,c2,c4,c5,c6,_⟩
   ·exact hg
   ·exact c5
  refine jcb (F:=step A o) hn (fun hk=>uc hA hS h hk) hfx rest h ?_
  unfold stepGF
  rw[hg]
  exact hk
 ·exact jj5 hA hS hn hfx rest h hk
theorem jh8 (hA:CfgOk P A) (hS:SigOk P A){T:List Nat}{ops:Array Oper}{t:List (Nat×List Nat)}{fr PV:List Nat}{W:Wr}(hkp:Keeps (PV:=PV) W ops.toList) {k:St→Option ρ} {r:ρ} {Q:Exit→Act→World→Prop}
  (hend:∀(fuel:Nat) (listed:Array Bool) own' st' a' w',T.length≤fuel→listed.size=ops.size→(∀i,i<ops.size→(listed.getD i true=true↔i ∉ T))→k st'=some r→Inv c own' [] st' a' w'→wpAny P .any ops Q fuel listed a' w') (hT:∀i∈T,i<ops.size)
  (hfx:∀o∈ops.toList,∀n,o.dst=some n→c.fix n=none) (hpv:∀o∈ops.toList,privB2 A ops.toList PV o=true)
  (haft:∀i,i<ops.size→∀e∈aftL ops.toList i,e<ops.size∧e≠i) (htab:∀i,i<ops.size→∀x∈tabOf t i,x∈aftL ops.toList i∨∃e∈aftL ops.toList i,x∈tabOf t e) :
  ∀{fuel:Nat} {R:List Nat} {listed:Array Bool} {own:Nat→List Nat} {st:St} {a:Act} {w:World},R.length+T.length≤fuel→listed.size=ops.size→(∀i,i<ops.size→(listed.getD i true=true↔i ∉ R++T))→(∀i∈R,i<ops.size)→R.Nodup→(∀i∈R,i ∉ T∧∀j∈T,i∈tabOf t j∧j ∉ aftL ops.toList i) →
  (∀j,j<ops.size→j ∉ R++T→∀x∈tabOf t j,x ∉ R++T)→(R.Pairwise fun i j=>pairOk ops.toList t fr PV i j=true)→(R.Pairwise fun i j=>wrPair ops.toList t W i j=true)→(∀i∈W.ws,∀j,(st.get j).names (W.sl i)→j∈W.sr (W.sl i))→freeD ops.toList fr PV R st=true→Inv c own [] st a w→runD A ops.toList fr PV W R st k=some r →
  wpAny P .any ops Q fuel listed a w:=by
 intro fuel
 induction fuel with
 | zero =>
  intro R listed own st a w hR hsz hl hRn hnd hRT hcl hpw hww hsr hfr h hk
  have:R=[]:=List.eq_nil_of_length_eq_zero (by omega)
  subst this
  simp only[runD]at hk
  exact hend _ _ _ _ _ _ (by simpa using hR) hsz (fun i hi=>by rw[hl i hi,List.nil_append]) hk h
 | succ fuel ih =>
  intro R listed own st a w hR hsz hl hRn hnd hRT hcl hpw hww hsr hfr h hk
  have hgf:∀e,e<ops.size→listed.getD e false=listed.getD e true:=by
   intro e he
   rw[←hsz]at he
   simp[Array.getD_eq_getD_getElem?,he]
  have hge:∀e,listed.getD e false=true→e<ops.size:=by
   intro e he
   rw[←hsz]
   rcases Nat.lt_or_ge e listed.size with h'|h'
   ·exact h'
   ·simp[Array.getD_eq_getD_getElem?,Nat.not_lt.2 h']at he
  by_cases hRe:R=[]
  ·subst hRe
   simp only[runD]at hk
   exact hend _ _ _ _ _ _ (by simpa using hR) hsz (fun i hi=>by rw[hl i hi,List.nil_append]) hk h
  refine⟨fun hready => ?_,fun j hj => ?_⟩
  ·cases R with
   | nil=>exact absurd rfl hRe
   | cons i0 R =>
    exfalso
    have hi0:=hRn i0 List.mem_cons_self
    have:i0∈Region.ready .any ops listed:=by
     refine jfn hi0 ?_ fun e he => ?_
     ·cases hb:listed.getD i0 true with
      | false=>rfl
      | true=>exact absurd (List.mem_append_left _ List.mem_cons_self) ((hl i0 hi0).1 hb)
     ·obtain⟨he1,he2⟩:=haft i0 hi0 e he
      rw[hgf e he1]
      refine(hl e he1).2 ?_
      rw[List.mem_append,List.mem_cons,not_or,not_or]
      refine⟨⟨he2,fun heR => ?_⟩,fun heT=>((hRT i0 List.mem_cons_self).2 e heT).2 he⟩
      have hp:=(List.pairwise_cons.1 hpw).1 e heR
      exact(ul hp).2.1 he
    rw[hready]at this
    cases this
  ·obtain⟨hj1,hj2,hj3⟩:=jb7 hj
   have hjRT:j∈R++T:=by
    refine Classical.byContradiction fun hn => ?_
    have:=(hl j hj1).2 hn
    rw[hj2]at this
    cases this
   have haR:∀e∈aftL ops.toList j,e<ops.size∧e ∉ R++T:=by
    intro e he
    have h1:=hj3 e he
    have h2:=hge e h1
    rw[hgf e h2]at h1
    exact⟨h2,(hl e h2).1 h1⟩
   have htRT:∀x∈tabOf t j,x ∉ R++T:=by
    intro x hx
    rcases htab j hj1 x hx with hx|⟨e,he,hx⟩
    ·exact(haR x hx).2
    ·exact hcl e (haR e he).1 (haR e he).2 x hx
   have hjR:j∈R:=by
    rcases List.mem_append.1 hjRT with q|q
    ·exact q
    ·exfalso
     obtain⟨i0,hi0⟩:=List.exists_mem_of_ne_nil R hRe
     exact htRT i0 ((hRT i0 hi0).2 j q).1 (List.mem_append_left _ hi0)
   have htR:∀x∈tabOf t j,x ∉ R:=fun x hx q=>htRT x hx (List.mem_append_left _ q)
   obtain⟨pre,post,rfl⟩:=List.append_of_mem hjR
   have hoj:ops[j]? = some ops[j]:=Array.getElem?_eq_getElem hj1
   have hoj':ops.toList[j]? = some ops[j]:=by simp[hj1]
   have hfxj:=hfx ops[j] (by simp)
   have hndp:=hnd
   simp only[List.nodup_append,List.nodup_cons,List.mem_cons]at hndp
   have rest:∀own' st' a' w',(∀i∈W.ws,∀j,(st'.get j).names (W.sl i)→j∈W.sr (W.sl i))→freeD ops.toList fr PV (pre++post) st'=true→runD A ops.toList fr PV W (pre++post) st' k=some r→Inv c own' [] st' a' w'→wpAny P .any ops Q fuel (listed.setIfInBounds j true) a' w':=by
    intro own' st' a' w' hs' hf' hk' h'
    refine ih (R:=pre++post) (by simp at hR ⊢;omega) (by simp[hsz]) (fun i hi => ?_) (fun i hi=>hRn i ?_) ?_ (fun i hi=>hRT i ?_) (fun i hi hiR x hx => ?_) ?_ ?_ hs' hf' h' hk'
    ·have e:(listed.setIfInBounds j true).getD i true=if i=j then true else listed.getD i true:=by
      simp only[Array.getD_eq_getD_getElem?,Array.getElem?_setIfInBounds]
      by_cases hij:j=i
      ·subst hij;simp[hsz,hj1]
      ·simp[hij,Ne.symm hij]
     rw[e]
     split
     ·rename_i e';subst e'
      simp only[true_iff,List.mem_append,not_or]
      exact⟨⟨fun h1=>hndp.2.2 i h1 i (.inl rfl) rfl,hndp.2.1.1⟩,(hRT i (by simp)).1⟩
     ·rename_i hne
      rw[hl i hi]
      simp[hne]
    ·simp only[List.mem_append,List.mem_cons]at hi ⊢
     rcases hi with hi|hi
     ·exact .inl hi
     ·exact .inr (.inr hi)
    ·refine List.Sublist.nodup ?_ hnd
     exact List.Sublist.append (List.Sublist.refl _) (List.sublist_cons_self _ _)
    ·simp only[List.mem_append,List.mem_cons]at hi ⊢
     rcases hi with hi|hi
     ·exact .inl hi
     ·exact .inr (.inr hi)
    ·have hsubR:∀y,y∈(pre++post)++T→y∈(pre++j::post)++T:=by
      intro y hy
      simp only[List.mem_append,List.mem_cons]at hy ⊢
      rcases hy with(hy|hy)|hy
      ·exact .inl (.inl hy)
      ·exact .inl (.inr (.inr hy))
      ·exact .inr hy
     intro hxR
     by_cases hij:i=j
     ·subst hij;exact htRT x hx (hsubR x hxR)
     ·refine hcl i hi (fun hm=>hiR ?_) x hx (hsubR x hxR)
      simp only[List.mem_append,List.mem_cons]at hm ⊢
      rcases hm with(hm|hm|hm)|hm
      ·exact .inl (.inl hm)
      ·exact absurd hm hij
      ·exact .inl (.inr hm)
      ·exact .inr hm
    ·exact hpw.sublist (List.Sublist.append (List.Sublist.refl _) (List.sublist_cons_self _ _))
    ·exact hww.sublist (List.Sublist.append (List.Sublist.refl _) (List.sublist_cons_self _ _))
   by_cases hcj:j∈fr
   ·have hpre:∀i∈pre,∃o,ops.toList[i]? = some o∧i∈fr∧ApartU W ops.toList PV i j o ops[j]:=by
     intro i hi
     have hp:=(List.pairwise_append.1 hpw).2.2 i hi j List.mem_cons_self
     obtain⟨_,_,_,hc|⟨x,y,hx,hy,c1,c2,c3⟩⟩:=ul hp
     ·exact absurd (List.mem_append_left _ hi) (htR i hc)
     ·rw[hoj']at hy
      cases hy
      refine⟨x,hx,c1, ?_⟩
      rcases jjx ((List.pairwise_append.1 hww).2.2 i hi j List.mem_cons_self) with hw|⟨x',y',hx',hy',hw1,hw2⟩
      ·exact absurd (List.mem_append_left _ hi) (htR i hw)
      ·rw[hx]at hx';rw[hoj']at hy'
       cases hx';cases hy'
       exact⟨c3,hw1,hw2⟩
    have hpw2:(pre++[j]).Pairwise (fun a b=>∀x y,ops.toList[a]? = some x→ops.toList[b]? = some y→a∈fr→b∈fr→dstB x y=true):=by
     have:(pre++[j]).Sublist (pre++j::post):=List.Sublist.append (List.Sublist.refl _) (by simp)
     exact(hpw.sublist this).imp fun hp=>(ul hp).2.2.1
    have hfr2:freeD ops.toList fr PV (pre++[j]) st=true:=jdb hfr fun i hi=>by
     simp only[List.mem_append,List.mem_cons,List.mem_singleton,List.not_mem_nil,or_false]at hi ⊢
     rcases hi with hi|hi
     ·exact .inl hi
     ·exact .inr (.inl hi)
    have hfine:FineW W PV st:=⟨⟨h.refsOk,jiq hfr⟩,hsr⟩
    have hb:=bubble hkp hpv hoj' hcj hpre hpw2 hfine hfr2 hk
    have pj:=hpv ops[j] (by simp)
    have dj:=jda hfr (i:=j) (by simp) hoj' hcj
    obtain⟨e,he,hv,hloc⟩:=jgc hkp pj hfine dj hb
    have hfine':=jdt hkp hoj' hfine dj he
    have hcheck:∃kk:St→Option ρ,stepU A PV W ops.toList j ops[j] st kk=some r∧∀s,kk s=some r→freeD ops.toList fr PV (pre++post) s=true∧(∀i∈W.ws,∀j,(s.get j).names (W.sl i)→j∈W.sr (W.sl i))∧runD A ops.toList fr PV W (pre++post) s k=some r:=by
     classical
     refine⟨fun s=>if freeD ops.toList fr PV (pre++post) s=true∧(∀i∈W.ws,∀j,(s.get j).names (W.sl i)→j∈W.sr (W.sl i)) then runD A ops.toList fr PV W (pre++post) s k else none, ?_,fun s hs => ?_⟩
     ·rw[hloc _ st (.inl jd1) hfine dj]
      refine(if_pos ⟨?_,hfine'.sr⟩).trans hv
      refine jgs (jdb hfr fun i hi => ?_) he hfine'.fine.priv fun i hi o ho hc n hn => ?_
      ·simp only[List.mem_append,List.mem_cons]at hi ⊢
       rcases hi with hi|hi
       ·exact .inl hi
       ·exact .inr (.inr hi)
      rcases List.mem_append.1 hi with hi|hi
      ·have hp:=(List.pairwise_append.1 hpw).2.2 i hi j List.mem_cons_self
       intro hod
       exact jch ((ul hp).2.2.1 o ops[j] ho hoj' hc hcj) n hod hn
      ·have hp:=(List.pairwise_cons.1 (List.pairwise_append.1 hpw).2.1).1 i hi
       exact jch ((ul hp).2.2.1 ops[j] o hoj' ho hcj hc) n hn
     ·simp only at hs
      split at hs
      ·rename_i hc;exact⟨hc.1,hc.2,hs⟩
      ·cases hs
    obtain⟨kk,hcheck,hkk⟩:=hcheck
    refine jk8 hA hS hoj hfxj (fun own' st' a' w' hk' h' => ?_) h hcheck
    obtain⟨q1,q2,q3⟩:=hkk st' hk'
    exact rest _ _ _ _ q2 q1 q3 h'
   ·cases pre with
    | cons i pre =>
     exfalso
     have hp:=(List.pairwise_append.1 hpw).2.2 i List.mem_cons_self j List.mem_cons_self
     obtain⟨_,_,_,hc|⟨x,y,hx,hy,c1,c2,c3⟩⟩:=ul hp
     ·exact absurd (List.mem_append_left _ List.mem_cons_self) (htR i hc)
     ·exact hcj c2
    | nil =>
     rw[List.nil_append]at hk
     simp only[runD,hoj',List.contains_eq_mem,hcj,decide_false,Bool.false_eq_true,if_false]at hk
     refine jek hA hS hoj hfxj (fun own' st' a' w' hk' h' => ?_) h hk
     split at hk'
     ·rename_i hf
      simp only[Bool.and_eq_true]at hf
      obtain⟨own2,h2⟩:=jlm (all:=ops.toList) (fr:=fr) (o:=ops[j]) h'
      exact rest _ _ _ _ (jdp hf.2) hf.1 hk' h2
     ·cases hk'
theorem jl7 (hA:CfgOk P A) (hS:SigOk P A){ops:Array Oper}{t:List (Nat×List Nat)}{fr PV:List Nat}{W:Wr}(hkp:Keeps (PV:=PV) W ops.toList) {k:St→Option ρ} {r:ρ} {Q:Exit→Act→World→Prop}
  (hQ:∀own' st' a' w',k st'=some r→Inv c own' [] st' a' w'→Q .normal a' w') (hfx:∀o∈ops.toList,∀n,o.dst=some n→c.fix n=none) (hpv:∀o∈ops.toList,privB2 A ops.toList PV o=true)
  (haft:∀i,i<ops.size→∀e∈aftL ops.toList i,e<ops.size∧e≠i) (htab:∀i,i<ops.size→∀x∈tabOf t i,x∈aftL ops.toList i∨∃e∈aftL ops.toList i,x∈tabOf t e)
  {fuel:Nat} {R:List Nat} {listed:Array Bool} {own:Nat→List Nat} {st:St} {a:Act} {w:World} (h1:R.length≤fuel) (h2:listed.size=ops.size) (h3:∀i,i<ops.size→(listed.getD i true=true↔i ∉ R)) (h4:∀i∈R,i<ops.size) (h5:R.Nodup)
  (h6:∀j,j<ops.size→j ∉ R→∀x∈tabOf t j,x ∉ R) (h7:R.Pairwise fun i j=>pairOk ops.toList t fr PV i j=true) (h8:R.Pairwise fun i j=>wrPair ops.toList t W i j=true) (h9:∀i∈W.ws,∀j,(st.get j).names (W.sl i)→j∈W.sr (W.sl i)) (h10:freeD ops.toList fr PV R st=true) (h11:Inv c own [] st a w) (h12:runD A ops.toList fr PV W R st k=some r) :
  wpAny P .any ops Q fuel listed a w:=by
 refine jh8 (T:=[]) hA hS hkp (fun fuel listed own' st' a' w' _ hsz hl hk h => ?_) (by simp) hfx hpv haft htab (by simpa using h1) h2 (fun i hi=>by rw[List.append_nil];exact h3 i hi) h4 h5 (by simp) (fun j hj hjR x hx=>by rw[List.append_nil]at hjR ⊢;exact h6 j hj hjR x hx) h7 h8 h9 h10 h11 h12
 have hr:Region.ready .any ops listed=[]:=List.eq_nil_iff_forall_not_mem.2 fun i hi=>by
  obtain⟨q1,q2,_⟩:=jb7 hi
  have:=(hl i q1).2 (by simp)
  rw[q2]at this
  cases this
 exact wpAny_done hr (hQ _ _ _ _ hk h) fuel
theorem jeq {ops:Array Oper}{o:Oper}:o.looksAt ops=looks ops.toList o:=by
 unfold Oper.looksAt looks dstOf
 cases o.guard with
 | none=>rfl
 | some g=>simp only[Array.getElem?_toList];cases ops[g.1]?<;>rfl
theorem jkc {ops:Array Oper}{x y:Oper}(h1:dstB x y=true) (h2:apartB ops.toList x y=true):x.apart ops y=true:=by
 obtain⟨a1,a2⟩:=jdx h2
 have a3:=jch h1
 unfold Oper.apart
 rw[jeq,jeq]
 cases hx:x.dst with
 | none =>
  cases hy:y.dst with
  | none=>rfl
  | some d=>have:=a2 d hy;simp[this]
 | some d =>
  have q1:=a1 d hx
  have q2:=a3 d hx
  cases hy:y.dst with
  | none=>simp[q1]
  | some e =>
   have q3:=a2 e hy
   rw[hy]at q2
   simp only[Bool.and_eq_true,Bool.not_eq_true',List.contains_eq_mem,decide_eq_false_iff_not,bne_iff_ne,ne_eq]
   exact⟨⟨q1,q2⟩,q3⟩
theorem jin {o:Oper}{x:Operand}{i:Nat}{K:Act→World→Prop}(ho:o.op = .extract x i) (h:o.wp P a w K fun _ _ _=>False):∃v,(∀w',(execOp a.eval o).run P w' = .ok (.value v) w')∧K (a.put o.dst v) w:=by
 unfold Oper.wp execOp at h
 simp only[ho]at h
 unfold Instr.extract at h
 cases hv:a.eval x with
 | tuple vs =>
  rw[hv]at h
  cases h2:vs[i]? with
  | some v =>
   have e:∀w',(execOp a.eval o).run P w' = .ok (.value v) w':=fun w'=>by
    unfold execOp
    simp[ho,hv,Instr.extract,h2]
   refine⟨v,e, ?_⟩
   simp only[h2]at h
   simpa [Oper.upon] using h
  | none =>
   simp only[h2]at h
   simp[Oper.upon]at h
 | _ =>
  rw[hv]at h
  simp[Oper.upon]at h
theorem jl4 (hA:CfgOk P A) (hS:SigOk P A){ops:Array Oper}{t:List (Nat×List Nat)}{k:St→Option ρ}{r:ρ}{Q:Exit→Act→World→Prop}
  (hQ:∀own' st' a' w',k st'=some r→Inv c own' [] st' a' w'→Q .normal a' w') (hQp:∀c a a' w,Q (.panic c) a w→Q (.panic c) a' w) (hfx:∀o∈ops.toList,∀n,o.dst=some n→c.fix n=none) (hns:∀o∈ops.toList,noSel o=true)
  (haft:∀i,i<ops.size→∀e∈aftL ops.toList i,e<ops.size∧e≠i) (htab:∀i,i<ops.size→∀x∈tabOf t i,x∈aftL ops.toList i∨∃e∈aftL ops.toList i,x∈tabOf t e) :
  ∀{T:List Nat} {fuel:Nat} {listed:Array Bool} {own:Nat→List Nat} {st:St} {a:Act} {w:World},T.length≤fuel→listed.size=ops.size→(∀i,i<ops.size→(listed.getD i true=true↔i ∉ T))→(∀i∈T,i<ops.size) →
  (∀j,j<ops.size→j ∉ T→∀x∈tabOf t j,x ∉ T)→tailOk ops.toList t T=true→Inv c own [] st a w→runT A ops.toList T st k=some r→wpAny P .any ops Q fuel listed a w:=by
 intro T
 induction T with
 | nil =>
  intro fuel listed own st a w _ hsz hl _ _ _ h hk
  simp only[runT]at hk
  have hr:Region.ready .any ops listed=[]:=List.eq_nil_iff_forall_not_mem.2 fun i hi=>by
   obtain⟨q1,q2,_⟩:=jb7 hi
   have:=(hl i q1).2 (by simp)
   rw[q2]at this
   cases this
  exact wpAny_done hr (hQ _ _ _ _ hk h) fuel
 | cons i is ih =>
  intro fuel listed own st a w hf hsz hl hT hcl hok h hk
  cases fuel with
  | zero=>simp at hf
  | succ fuel =>
   have hi:=hT i List.mem_cons_self
   have hgf:∀e,e<ops.size→listed.getD e false=listed.getD e true:=by
    intro e he
    rw[←hsz]at he
    simp[Array.getD_eq_getD_getElem?,he]
   have hge:∀e,listed.getD e false=true→e<ops.size:=by
    intro e he
    rw[←hsz]
    rcases Nat.lt_or_ge e listed.size with h'|h'
    ·exact h'
    ·simp[Array.getD_eq_getD_getElem?,Nat.not_lt.2 h']at he
   have hoi:ops[i]? = some ops[i]:=Array.getElem?_eq_getElem hi
   have hoi':ops.toList[i]? = some ops[i]:=by simp[hi]
   simp only[tailOk,hoi',Bool.and_eq_true,Bool.or_eq_true,List.all_eq_true,Bool.not_eq_true',List.contains_eq_mem,decide_eq_false_iff_not,decide_eq_true_eq]at hok
   obtain⟨⟨⟨c1,c2⟩,c3⟩,c4⟩:=hok
   have hfxi:=hfx ops[i] (by simp)
   have hready:i∈Region.ready .any ops listed:=by
    refine jfn hi ?_ fun e he => ?_
    ·cases hb:listed.getD i true with
     | false=>rfl
     | true=>exact absurd List.mem_cons_self ((hl i hi).1 hb)
    ·obtain⟨he1,he2⟩:=haft i hi e he
     rw[hgf e he1]
     refine(hl e he1).2 ?_
     rw[List.mem_cons,not_or]
     exact⟨he2,fun q=>c2 e q he⟩
   have rest:∀own' st' a' w',runT A ops.toList is st' k=some r→Inv c own' [] st' a' w'→wpAny P .any ops Q fuel (listed.setIfInBounds i true) a' w':=by
    intro own' st' a' w' hk' h'
    refine ih (by simpa using hf) (by simp[hsz]) (fun j hj => ?_) (fun j hj=>hT j (List.mem_cons_of_mem _ hj)) (fun j hj hjT x hx hxT => ?_) c4 h' hk'
    ·have e:(listed.setIfInBounds i true).getD j true=if j=i then true else listed.getD j true:=by
      simp only[Array.getD_eq_getD_getElem?,Array.getElem?_setIfInBounds]
      by_cases hij:i=j
      ·subst hij;simp[hsz,hi]
      ·simp[hij,Ne.symm hij]
     rw[e]
     split
     ·rename_i e';subst e';simp[c3]
     ·rename_i hne;rw[hl j hj];simp[hne]
    ·by_cases e:j=i
     ·subst e
      rcases htab j hj x hx with q|⟨e,he,q⟩
      ·exact c2 x hxT q
      ·obtain⟨e1,e2⟩:=haft j hj e he
       have:e ∉ j::is:=by rw[List.mem_cons,not_or];exact⟨e2,fun q=>c2 e q he⟩
       exact hcl e e1 this x q (List.mem_cons_of_mem _ hxT)
     ·exact hcl j hj (by rw[List.mem_cons,not_or];exact⟨e,hjT⟩) x hx (List.mem_cons_of_mem _ hxT)
   rcases c1 with⟨p1,p2⟩|p
   · -- taken out at once
    have hpx:=p1
    unfold pureX at hpx
    split at hpx
    case h_2=>cases hpx
    rename_i x n hop
    simp only[runT,hoi',p1,if_true]at hk
    have hg:=uc hA hS h hk
    obtain⟨v,hv,hK⟩:=jin hop (hg hfxi (fun a' w'=>wpAny P .any ops Q fuel (listed.setIfInBounds i true) a' w') (fun _ _ _=>False) fun own' st' a' w' hk' h'=>rest _ _ _ _ hk' h')
    refine wpAny_first hoi (fun j o cs b hj hsel => ?_) (fun c a w q=>hQp _ _ _ _ q) fuel listed a w (fun j oj hj hne hun hno => ?_) hready (.inl ⟨?_,hv⟩) hK
    ·have:=hns o (by
      have:=List.mem_of_getElem? (l:=ops.toList) (i:=j) (by simpa using hj)
      exact this)
     rw[noSel,hsel]at this
     cases this
    ·have hjl:j<ops.size:=by
      rcases Nat.lt_or_ge j ops.size with q|q
      ·exact q
      ·rw[Array.getElem?_eq_none q]at hj;cases hj
     have hjT:j∈i::is:=by
      refine Classical.byContradiction fun q => ?_
      rw[(hl j hjl).2 q]at hun;cases hun
     rcases List.mem_cons.1 hjT with q|q
     ·exact absurd q hne
     have:=p2 j q
     have hj':ops.toList[j]? = some oj:=by simpa using hj
     rw[hj']at this
     simp only[Bool.or_eq_true,List.contains_eq_mem,decide_eq_true_eq,Bool.and_eq_true]at this
     rcases this with q|⟨q1,q2⟩
     ·exfalso
      unfold aftL at q
      rw[hj']at q
      simp only[List.mem_filterMap]at q
      obtain⟨e,he,q⟩:=q
      split at q
      ·rename_i hb
       exact hno e (by simpa using he) hb (Option.some.inj q)
      ·cases q
     ·exact jkc q1 q2
    ·unfold Region.wanted
     simp only[Option.isNone_iff_eq_none]at hpx
     rw[hpx]
   ·by_cases p1:pureX ops[i]=true
    all_goals
     refine⟨fun hr=>(by rw[hr]at hready;cases hready),fun j hj => ?_⟩
     obtain⟨hj1,hj2,hj3⟩:=jb7 hj
     have hjT:j∈i::is:=by
      refine Classical.byContradiction fun q => ?_
      rw[(hl j hj1).2 q]at hj2;cases hj2
     rcases List.mem_cons.1 hjT with q|q
     rotate_left
     ·exfalso
      have haR:∀e∈aftL ops.toList j,e<ops.size∧e ∉ i::is:=by
       intro e he
       have h1:=hj3 e he
       have h2:=hge e h1
       rw[hgf e h2]at h1
       exact⟨h2,(hl e h2).1 h1⟩
      rcases htab j hj1 i (p j q) with q|⟨e,he,q⟩
      ·exact(haR i q).2 List.mem_cons_self
      ·exact hcl e (haR e he).1 (haR e he).2 i q List.mem_cons_self
     subst q
    ·simp only[runT,hoi',p1,if_true]at hk
     have hg0:ops[j].guard=none:=by
      unfold pureX at p1
      split at p1
      ·exact Option.isNone_iff_eq_none.1 p1
      ·cases p1
     refine jcb (F:=step A ops[j]) hoi (fun hk=>uc hA hS h hk) hfxi rest h ?_
     unfold stepGF
     rw[hg0]
     exact hk
    ·simp only[runT,hoi',p1,if_false]at hk
     exact jek hA hS hoi hfxi rest h hk
theorem jh1 (hA:CfgOk P A) (hS:SigOk P A){id:Nat}{ops:Array Oper}{k:St→Option ρ}{r:ρ}{Q:Exit→Act→World→Prop}
  (hQ:∀own' st' a' w',k st'=some r→Inv c own' [] st' a' w'→Q .normal a' w') (hfx:∀o∈ops.toList,∀n,o.dst=some n→c.fix n=none) (h:Inv c own [] st a w) (hk:runDrawX A ops.toList st k=some r) :
  (Code.region id ops true).wp P Q a w:=by
 unfold runDrawX at hk
 rw[vw,jdc,vw,vw,vw,vw]at hk
 generalize topo ops.toList ops.toList.length (List.range ops.toList.length) []=o0 at *
 generalize ancTab ops.toList o0 []=t at *
 generalize o0.takeWhile (fun i => !isX ops.toList i)=ord at *
 generalize o0.dropWhile (fun i => !isX ops.toList i)=T at *
 generalize freeOf t [] ord=fr at *
 generalize privsOf A ops.toList fr=PV at *
 split at hk
 case isFalse=>cases hk
 rename_i hok
 obtain⟨W,hW⟩:=jf4 (β:=Option ρ) A ops.toList ord fr st
 rw[hW]at hk
 split at hk
 case isFalse=>cases hk
 rename_i hws
 split at hk
 case isFalse=>cases hk
 rename_i hfr
 simp only[Bool.and_eq_true]at hfr
 obtain⟨hfr,hsr⟩:=hfr
 simp only[orderX,Bool.and_eq_true,List.all_eq_true,decide_eq_true_eq,List.mem_range,List.contains_eq_mem,Array.length_toList,bne_iff_ne,ne_eq,Bool.or_eq_true,List.any_eq_true,Bool.not_eq_true',decide_eq_false_iff_not]at hok
 obtain⟨⟨⟨⟨⟨⟨⟨h0,h1⟩,h2⟩,h3⟩,h4⟩,h5⟩,h6⟩,h7⟩:=hok
 have hpw:=jbv h3
 have hkeep:Keeps (PV:=PV) W ops.toList∧ord.Pairwise fun i j=>wrPair ops.toList t W i j=true:=by
  unfold wrStat at hws
  simp only[Bool.and_eq_true,List.all_eq_true,List.contains_eq_mem,decide_eq_true_eq,Bool.not_eq_true',decide_eq_false_iff_not]at hws
  obtain⟨hws,w4⟩:=hws
  refine⟨fun i hi => ?_,jai w4⟩
  obtain⟨⟨w1,w2⟩,w3⟩:=hws i hi
  exact⟨w1,w2,fun j o ho hj=>jde w3 j o ho (by simpa using hj)⟩
 refine Code.wp_mono (Q:=fun e a w=>e = .normal∧Q .normal a w) (fun e a w q=>by rw[q.1];exact q.2) ?_
 have haft:∀i,i<ops.size→∀e∈aftL ops.toList i,e<ops.size∧e≠i:=fun i hi e he=>(h2 i hi).1.2 e he
 have htab:∀i,i<ops.size→∀x∈tabOf t i,x∈aftL ops.toList i∨∃e∈aftL ops.toList i,x∈tabOf t e:=fun i hi x hx=>(h2 i hi).2 x hx
 refine wp_region_any hA.mixed (jh8 hA hS (T:=T) hkeep.1 (fun fuel listed own' st' a' w' hf hsz hl hk' h' => ?_) (fun i hi=>h1 i (List.mem_append_right _ hi)) hfx h4 haft htab (R:=ord) (by simpa using h0) (by simp) (fun i hi => ?_) (fun i hi=>h1 i (List.mem_append_left _ hi)) ?_ (fun i hi=>⟨(h5 i hi).2,fun j hj=>((h5 i hi).1 j hj).1⟩) (fun j hj hjR=>absurd (h2 j hj).1.1 hjR) hpw hkeep.2 (jdp hsr) hfr (h.drew _) hk)
 ·refine jl4 hA hS (Q:=fun e a w=>e = .normal∧Q .normal a w) (fun own' st' a' w' hk h=>⟨rfl,hQ _ _ _ _ hk h⟩) (fun c a a' w q=>by cases q.1) hfx h7 haft htab hf hsz hl (fun i hi=>h1 i (List.mem_append_right _ hi)) (fun j hj hjT x hx hxT => ?_) h6 h' hk'
  have hjo:j∈ord:=(List.mem_append.1 (h2 j hj).1.1).resolve_right hjT
  exact((h5 j hjo).1 x hxT).2 hx
 ·simp only[Array.getD_eq_getD_getElem?,Array.getElem?_replicate,hi,if_true,Option.getD_some,Bool.false_eq_true,false_iff,Classical.not_not]
  exact(h2 i hi).1.1
 ·exact hpw.imp fun hp=>(ul hp).1
theorem jiz (hA:CfgOk P A) (hS:SigOk P A){id:Nat}{ops:Array Oper}{k:St→Option ρ}{r:ρ}{Q:Exit→Act→World→Prop}
  (hQ:∀own' st' a' w',k st'=some r→Inv c own' [] st' a' w'→Q .normal a' w') (hfx:∀o∈ops.toList,∀n,o.dst=some n→c.fix n=none) (h:Inv c own [] st a w) (hk:runDraw A ops.toList st k=some r) :
  (Code.region id ops true).wp P Q a w:=by
 unfold runDraw at hk
 split at hk
 case h_2=>cases hk
 rename_i ord fr PV hord
 rw[jdc]at hk
 obtain⟨W,hW⟩:=jf4 (β:=Option ρ) A ops.toList ord fr st
 rw[hW]at hk
 split at hk
 case isFalse=>cases hk
 rename_i hws
 split at hk
 case isFalse=>cases hk
 rename_i hfr
 simp only[Bool.and_eq_true]at hfr
 obtain⟨hfr,hsr⟩:=hfr
 unfold drawOrder at hord
 rw[vw,jdc,vw,vw]at hord
 split at hord
 case isFalse=>cases hord
 rename_i hok
 simp only[Option.some.injEq,Prod.mk.injEq]at hord
 obtain⟨e1,e2,e3⟩:=hord
 rw[e2]at hok e3
 rw[e3]at hok
 subst e1
 generalize topo ops.toList ops.toList.length (List.range ops.toList.length) []=ord at *
 generalize ancTab ops.toList ord []=t at *
 simp only[orderOk,Bool.and_eq_true,List.all_eq_true,decide_eq_true_eq,List.mem_range,List.contains_eq_mem,Array.length_toList,bne_iff_ne,ne_eq,Bool.or_eq_true,List.any_eq_true]at hok
 obtain⟨⟨⟨⟨h0,h1⟩,h2⟩,h3⟩,h4⟩:=hok
 have hpw:=jbv h3
 have hkeep:Keeps (PV:=PV) W ops.toList∧ord.Pairwise fun i j=>wrPair ops.toList t W i j=true:=by
  unfold wrStat at hws
  simp only[Bool.and_eq_true,List.all_eq_true,List.contains_eq_mem,decide_eq_true_eq,Bool.not_eq_true',decide_eq_false_iff_not]at hws
  obtain⟨hws,w4⟩:=hws
  refine⟨fun i hi => ?_,jai w4⟩
  obtain⟨⟨w1,w2⟩,w3⟩:=hws i hi
  exact⟨w1,w2,fun j o ho hj=>jde w3 j o ho (by simpa using hj)⟩
 refine wp_region_any hA.mixed (jl7 hA hS hkeep.1 hQ hfx h4 (fun i hi e he=>(h2 i hi).1.2 e he) (fun i hi x hx=>(h2 i hi).2 x hx) (R:=ord) ?_ (by simp) (fun i hi => ?_) h1 ?_ (fun j hj hjR=>absurd (h2 j hj).1.1 hjR) hpw hkeep.2 (jdp hsr) hfr (h.drew _) hk)
 ·exact h0
 ·simp only[Array.getD_eq_getD_getElem?,Array.getElem?_replicate,hi,if_true,Option.getD_some,Bool.false_eq_true,false_iff,Classical.not_not]
  exact(h2 i hi).1.1
 ·exact hpw.imp fun hp=>(ul hp).1
end
end Go.Gx
