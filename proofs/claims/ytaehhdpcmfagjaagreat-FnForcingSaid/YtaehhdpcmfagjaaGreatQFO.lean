import Derived.Test.YtaehhdpcmfagjaaGreatQFOa
import Derived.KernelRfl
set_option linter.unusedVariables false
set_option linter.unusedSimpArgs false
namespace Go.Proofs.YtaehhdpcmfagjaaGreat
open Go Go.Gx Go.Proofs
theorem wqi {n:Nat}{le:Nat→Nat→Bool}(h:LatP n le){Q R:Nat→Nat}(hQ:Pt n Q) (hR:Pt n R) (cQ:Cg n (latF n le) Q) (cR:Cg n (latF n le) R){k:Nat}(hk:k<n) (hi:irr n le k=true):joinF n Q R k=joinF n Q R (star n le k)↔Q k=Q (star n le k)∨R k=R (star n le k):=by
 obtain⟨hs,hc⟩:=wg hi
 obtain⟨hne,hle⟩:=wnb hc
 constructor
 ·intro e
  refine Classical.byContradiction fun hno => ?_
  have n1:¬Q k=Q (star n le k):=fun q=>hno (.inl q)
  have n2:¬R k=R (star n le k):=fun q=>hno (.inr q)
  have fm:mt n le∈latF n le:=by simp
  have fj:mt n (du le)∈latF n le:=by simp
  have two:∀x,x<n→mt n (du le) (mt n le x k) (star n le k)=star n le k∨mt n (du le) (mt n le x k) (star n le k)=k:=fun x hx=>by
   have hm:=h.mlt hx hk
   exact xut hc (h.du.mlt hm hs) (h.du.m2 hm hs) (h.du.mg hm hs hk (h.m2 hx hk) hle)
  have low:∀T:Nat→Nat,Pt n T→Cg n (latF n le) T→¬T k=T (star n le k)→Lep n T fun x=>mt n (du le) (mt n le x k) (star n le k):=fun T hT cT hn x hx=>by
   have hTx:=hT.lt hx
   have m1:=h.mlt hTx hk
   have m2:=h.mlt hx hk
   have e1:T (mt n le (T x) k)=T (mt n le x k):=(we cT fm hx hk).2.symm
   have e2:T (mt n (du le) (mt n le (T x) k) (star n le k))=T (mt n (du le) (mt n le x k) (star n le k)):=by
    rw[(we cT fj m1 hs).2,(we cT fj m2 hs).2,e1]
   show mt n (du le) (mt n le (T x) k) (star n le k)=mt n (du le) (mt n le x k) (star n le k)
   rcases two (T x) hTx with a|a<;>rcases two x hx with b|b
   ·rw[a,b]
   ·rw[a,b]at e2;exact absurd e2.symm hn
   ·rw[a,b]at e2;exact absurd e2 hn
   ·rw[a,b]
  have hl:=wan hQ hR (low Q hQ cQ n1) (low R hR cR n2)
  have a1:=hl k hk
  have a2:=hl _ hs
  rw[e]at a1
  have a3:mt n (du le) (mt n le k k) (star n le k)=mt n (du le) (mt n le (star n le k) k) (star n le k):=a1.symm.trans a2
  have b1:mt n (du le) (mt n le k k) (star n le k)=k:=by
   rw[wwt h hk]
   exact h.as (h.du.mlt hk hs) hk (h.du.mg hk hs hk (h.ord.refl k hk) hle) (h.du.m1 hk hs)
  have b2:mt n (du le) (mt n le (star n le k) k) (star n le k)=star n le k:=by
   have hm:=h.mlt hs hk
   exact h.as (h.du.mlt hm hs) hs (h.du.mg hm hs hs (h.m1 hs hk) (h.ord.refl _ hs)) (h.du.m2 hm hs)
  rw[b1,b2]at a3
  exact hne a3.symm
 ·rintro (e|e)
  ·have:=w3n hQ hR
   rw[←this k hk,e,this _ hs]
  ·have:=w3o hQ hR
   rw[←this k hk,e,this _ hs]
theorem w8i {n:Nat}{le:Nat→Nat→Bool}(h:LatP n le){P Q R:Nat→Nat}(hP:Pt n P) (hQ:Pt n Q) (hR:Pt n R) (cP:Cg n (latF n le) P) (cQ:Cg n (latF n le) Q) (cR:Cg n (latF n le) R):ptL n (mtP P (joinF n Q R))=ptL n (joinF n (mtP P Q) (mtP P R)):=by
 have ho:=wk h
 have pJ:=wci hQ hR
 have cJ:=wpt ho hQ hR cQ cR
 have c1:=w3x ho cP cQ
 have c2:=w3x ho cP cR
 refine wy fun x hx=>wqf h (yi n _ _) (wci (yi n _ _) (yi n _ _)) (w3x ho cP cJ) (wpt ho (yi n _ _) (yi n _ _) c1 c2) (fun j hj hi => ?_) hx
 rw[wws,wqi h hQ hR cQ cR hj hi,wqi h (yi n _ _) (yi n _ _) c1 c2 hj hi,wws,wws]
 constructor
 ·rintro⟨a,b|b⟩
  ·exact .inl ⟨a,b⟩
  ·exact .inr ⟨a,b⟩
 ·rintro (⟨a,b⟩|⟨a,b⟩)
  ·exact⟨a,.inl b⟩
  ·exact⟨a,.inr b⟩
noncomputable def cgj (n:Nat) (le:Nat→Nat→Bool) (j:Nat):Nat→Nat:=lcO n (latF n le) (genP n le [j])
theorem wi1 {n:Nat}{le:Nat→Nat→Bool}(h:LatP n le){j:Nat}(hj:j<n) (hi:irr n le j=true):LeastC n (latF n le) (uni (fun z=>z) (star n le j) j) (cgj n le j) :=
 w8s (fs:=latF n le) h.le10 (zl h) (by simp) (wk h) (wg hi).1 hj
noncomputable def JS (n:Nat) (le:Nat→Nat→Bool) (S:List Nat) (P:Nat→Nat):Nat→Nat:=S.foldl (fun P j=>joinF n P (cgj n le j)) P
structure JSok (n:Nat) (le:Nat→Nat→Bool) (P:Nat→Nat):Prop where
 pt:Pt n P
 cg:Cg n (latF n le) P
 rch:Rch n (latF n le) (ptL n P)
theorem wwp {n:Nat}{le:Nat→Nat→Bool}(h:LatP n le){P:Nat→Nat}(hP:JSok n le P){j:Nat}(hj:j<n) (hi:irr n le j=true):JSok n le (joinF n P (cgj n le j)):=by
 have hc:=wi1 h hj hi
 refine⟨wci hP.pt hc.pt,wpt (wk h) hP.pt hc.pt hP.cg hc.cg, ?_⟩
 rw[←wxe hc.pt]
 refine .step hP.rch ?_
 have hne:=(wnb (wg hi).2).1
 rcases Nat.lt_or_gt_of_ne hne with q|q
 ·exact⟨star n le j,j,q,hj,rfl⟩
 ·exact⟨j,star n le j,q,(wg hi).1,by rw[wng];rfl⟩
theorem xds {n:Nat}{le:Nat→Nat→Bool}(h:LatP n le):∀(S:List Nat),(∀j∈S,j<n∧irr n le j=true)→∀P,JSok n le P→JSok n le (JS n le S P)
 | [],_,P,hP=>hP
 | j::S,hS,P,hP=>xds h S (fun i hi=>hS i (List.mem_cons_of_mem _ hi)) _ (wwp h hP (hS j List.mem_cons_self).1 (hS j List.mem_cons_self).2)
theorem w3p {n:Nat}{le:Nat→Nat→Bool}(h:LatP n le){k:Nat}(hk:k<n) (hi:irr n le k=true):∀(S:List Nat),(∀j∈S,j<n∧irr n le j=true)→∀P,JSok n le P→(JS n le S P k=JS n le S P (star n le k)↔P k=P (star n le k)∨∃j∈S,cgj n le j k=cgj n le j (star n le k))
 | [],_,P,hP=>by simp[JS]
 | j::S,hS,P,hP=>by
  have hj:=hS j List.mem_cons_self
  have hc:=wi1 h hj.1 hj.2
  have ih:=w3p h hk hi S (fun i hi=>hS i (List.mem_cons_of_mem _ hi)) _ (wwp h hP hj.1 hj.2)
  show JS n le S (joinF n P (cgj n le j)) k=JS n le S (joinF n P (cgj n le j)) (star n le k)↔_
  rw[ih,wqi h hP.pt hc.pt hP.cg hc.cg hk hi]
  constructor
  ·rintro ((a|a)|⟨i,a,b⟩)
   ·exact .inl a
   ·exact .inr ⟨j,List.mem_cons_self,a⟩
   ·exact .inr ⟨i,List.mem_cons_of_mem _ a,b⟩
  ·rintro (a|⟨i,a,b⟩)
   ·exact .inl (.inl a)
   ·rcases List.mem_cons.1 a with rfl|a
    ·exact .inl (.inr b)
    ·exact .inr ⟨i,a,b⟩
theorem w3q {n:Nat}{le:Nat→Nat→Bool}(h:LatP n le){C:Nat→Nat}(hC:Pt n C) (cC:Cg n (latF n le) C):∀(S:List Nat),(∀j∈S,j<n∧irr n le j=true)→(∀j∈S,C (star n le j)=C j)→∀P,JSok n le P→Lep n P C→Lep n (JS n le S P) C
 | [],_,_,P,hP,hl=>hl
 | j::S,hS,hj2,P,hP,hl=>by
  have hj:=hS j List.mem_cons_self
  have hc:=wi1 h hj.1 hj.2
  refine w3q h hC cC S (fun i hi=>hS i (List.mem_cons_of_mem _ hi)) (fun i hi=>hj2 i (List.mem_cons_of_mem _ hi)) _ (wwp h hP hj.1 hj.2) (wan hP.pt hc.pt hl ?_)
  exact hc.lst C hC (wds (wal n) (fun x _=>rfl) (wg hj.2).1 hj.1 (hj2 j List.mem_cons_self)) cC
theorem w8m {n:Nat}{le:Nat→Nat→Bool}{C:Nat→Nat}:∀(S:List Nat),(∀j∈S,j<n∧irr n le j=true)→(∀j∈S,C (star n le j)=C j)→∀P,Pt n P→Lep n P C→Lep n (S.foldl (fun P j=>uni P (star n le j) j) P) C
 | [],_,_,P,_,hl=>hl
 | j::S,hS,hj2,P,hP,hl=>by
  have hj:=hS j List.mem_cons_self
  exact w8m S (fun i hi=>hS i (List.mem_cons_of_mem _ hi)) (fun i hi=>hj2 i (List.mem_cons_of_mem _ hi)) _ (w7 hP (wg hj.2).1 hj.1) (wds hP hl (wg hj.2).1 hj.1 (hj2 j List.mem_cons_self))
theorem xpm {P:Nat→Nat}{x y a b:Nat}(e:P a=P b):uni P x y a=uni P x y b:=by unfold uni;rw[e]
theorem ww2 {n:Nat}{le:Nat→Nat→Bool}{a b:Nat}:∀(S:List Nat) (P:Nat→Nat),P a=P b→S.foldl (fun P j=>uni P (star n le j) j) P a=S.foldl (fun P j=>uni P (star n le j) j) P b
 | [],_,e=>e
 | j::S,P,e=>ww2 S _ (xpm e)
theorem w8l {n:Nat}{le:Nat→Nat→Bool}{k:Nat}:∀(S:List Nat) (P:Nat→Nat),k∈S→S.foldl (fun P j=>uni P (star n le j) j) P k=S.foldl (fun P j=>uni P (star n le j) j) P (star n le k)
 | j::S,P,hk=>by
  rcases List.mem_cons.1 hk with rfl|hk
  ·exact ww2 S _ (wnj P _ _).symm
  ·exact w8l S _ hk
noncomputable def cgS (n:Nat) (le:Nat→Nat→Bool) (S:List Nat):Nat→Nat:=lcO n (latF n le) (genP n le S)
theorem xml {n:Nat}{le:Nat→Nat→Bool}(h:LatP n le){S:List Nat}(hS:∀j∈S,j<n∧irr n le j=true):LeastC n (latF n le) (genP n le S) (cgS n le S):=by
 obtain⟨O,_,hO⟩:=yk (fs:=latF n le) h.le10 (zl h) (by simp) (wk h) (wwn hS)
 exact wqk hO
theorem wua {n:Nat}{le:Nat→Nat→Bool}:JSok n le fun x=>x:=⟨wal n,xqs,.id⟩
theorem w3a {n:Nat}{le:Nat→Nat→Bool}(h:LatP n le){S:List Nat}(hS:∀j∈S,j<n∧irr n le j=true){x:Nat}(hx:x<n):cgS n le S x=JS n le S (fun x=>x) x:=by
 have lc:=xml h hS
 have ok:=xds h S hS _ wua
 have hc:∀j∈S,cgS n le S (star n le j)=cgS n le S j:=fun j hj=>by
  have e:=w8l (n:=n) (le:=le) S (fun x=>x) hj
  have l:=lc.le
  rw[←l _ (wg (hS j hj).2).1,←l j (hS j hj).1]
  exact congrArg _ e.symm
 have hj:∀j∈S,JS n le S (fun x=>x) (star n le j)=JS n le S (fun x=>x) j:=fun j hj=>by
  have q:=(w3p h (hS j hj).1 (hS j hj).2 S hS _ wua).2 (.inr ⟨j,hj, ?_⟩)
  ·exact q.symm
  ·have lj:=wi1 h (hS j hj).1 (hS j hj).2
   rw[←lj.le j (hS j hj).1,←lj.le _ (wg (hS j hj).2).1,wnj]
 exact Lep.eq lc.pt ok.pt (lc.lst _ ok.pt (w8m S hS hj _ (wal n) fun x _=>rfl) ok.cg) (w3q h lc.pt lc.cg S hS hc _ wua fun x _=>rfl) hx
theorem w8e {n:Nat}{le:Nat→Nat→Bool}(h:LatP n le){S:List Nat}(hS:∀j∈S,j<n∧irr n le j=true){k:Nat}(hk:k<n) (hi:irr n le k=true):cgS n le S k=cgS n le S (star n le k)↔∃j∈S,cgj n le j k=cgj n le j (star n le k):=by
 rw[w3a h hS hk,w3a h hS (wg hi).1,w3p h hk hi S hS _ wua]
 exact⟨fun q=>q.resolve_left (wnb (wg hi).2).1.symm,.inr⟩
theorem w8f {n:Nat}{le:Nat→Nat→Bool}(h:LatP n le){S:List Nat}(hS:∀j∈S,j<n∧irr n le j=true):Rch n (latF n le) (ptL n (cgS n le S)):=by
 rw[wy fun x hx=>w3a h hS hx]
 exact(xds h S hS _ wua).rch
theorem frc_iff {n:Nat}{le:Nat→Nat→Bool}{j k:Nat}:k∈frc n le j↔(k<n∧irr n le k=true)∧cgj n le j k=cgj n le j (star n le k):=by
 unfold frc conL
 rw[List.mem_filter,fl_mem]
 unfold conB cgj
 rw[decide_eq_true_eq]
theorem wpr {n:Nat}{le:Nat→Nat→Bool}{s:List Int}(hF:FSp n le s):∃S:List Nat,s=cs S∧(∀j∈S,j<n∧irr n le j=true)∧(∀j∈S,∀k∈frc n le j,k∈S)∧S=(irs n le).filter fun k=>decide (k∈S):=by
 have e:s=cs (s.map Int.toNat):=jkx fun x hx=>by obtain⟨j,rfl,_⟩:=hF.mem x hx;omega
 generalize s.map Int.toNat=S at e
 subst e
 have hm:∀j∈S,j<n∧irr n le j=true:=fun j hj=>by
  obtain⟨i,e,h1,h2,_⟩:=hF.mem _ (cs_mem.2 hj)
  have:j=i:=by omega
  subst this;exact⟨h1,h2⟩
 refine⟨S,rfl,hm,fun j hj k hk => ?_, ?_⟩
 ·obtain⟨i,e,_,_,h3⟩:=hF.mem _ (cs_mem.2 hj)
  have:j=i:=by omega
  subst this
  exact cs_mem.1 (h3 _ (cs_mem.2 hk))
 ·refine cs_inj.1 (wjh (zo hF.rise) ?_ fun x => ?_)
  ·have:=(List.filter_sublist (p:=fun k=>decide (k∈S)) (l:=irs n le)).map (fun x:Nat=>(x:Int))
   exact(wcg n _).sublist this
  ·constructor
   ·intro hx
    obtain⟨j,hj,rfl⟩:=List.mem_map.1 hx
    exact cs_mem.2 (List.mem_filter.2 ⟨fl_mem.2 (hm j hj),by simpa using hj⟩)
   ·intro hx
    obtain⟨j,hj,rfl⟩:=List.mem_map.1 hx
    exact cs_mem.2 (by simpa using (List.mem_filter.1 hj).2)
theorem w3i {n:Nat}{le:Nat→Nat→Bool}(h:LatP n le){S:List Nat}(hS:∀j∈S,j<n∧irr n le j=true) (hc:∀j∈S,∀k∈frc n le j,k∈S) (hf:S=(irs n le).filter fun k=>decide (k∈S)):conL n le (cgS n le S) (irs n le)=S:=by
 refine Eq.trans ?_ hf.symm
 unfold conL
 refine List.filter_congr fun k hk => ?_
 obtain⟨h1,h2⟩:=fl_mem.1 hk
 unfold conB
 refine decide_eq_decide.2 ⟨fun e => ?_,fun hkS => ?_⟩
 ·obtain⟨j,hj,e2⟩:=(w8e h hS h1 h2).1 e
  exact hc j hj k (frc_iff.2 ⟨⟨h1,h2⟩,e2⟩)
 ·refine(w8e h hS h1 h2).2 ⟨k,hkS, ?_⟩
  have lj:=wi1 h h1 h2
  rw[←lj.le k h1,←lj.le _ (wg h2).1,wnj]
theorem xxm {n:Nat}{le:Nat→Nat→Bool}(h:LatP n le){P:Nat→Nat}(hP:Pt n P) (cP:Cg n (latF n le) P):FSp n le (cs (conL n le P (irs n le))):=by
 refine⟨fun x hx => ?_,xi ((wcg n _).sublist ((List.filter_sublist (l:=irs n le)).map (fun x:Nat=>(x:Int))))⟩
 obtain⟨j,hj,rfl⟩:=List.mem_map.1 hx
 obtain⟨hj1,hj2⟩:=List.mem_filter.1 hj
 obtain⟨h1,h2⟩:=fl_mem.1 hj1
 refine⟨j,rfl,h1,h2,fun y hy => ?_⟩
 obtain⟨k,hk,rfl⟩:=List.mem_map.1 hy
 obtain⟨⟨k1,k2⟩,e⟩:=frc_iff.1 hk
 refine cs_mem.2 (List.mem_filter.2 ⟨fl_mem.2 ⟨k1,k2⟩, ?_⟩)
 have hj2:P j=P (star n le j):=by simpa [conB] using hj2
 have lj:=wi1 h h1 h2
 have l:=lj.lst P hP (wds (wal n) (fun x _=>rfl) (wg h2).1 h1 hj2.symm) cP
 unfold conB
 rw[decide_eq_true_eq,←l k k1,←l _ (wg k2).1,e]
theorem w29:∀(k b c:Nat),b<2 ^ k→c<2 ^ k→(∀i,i<k→(bt1 b i↔bt1 c i))→b=c
 | 0,b,c,hb,hc,_=>by omega
 | k+1,b,c,hb,hc,h=>by
  have hp:2 ^ (k+1)=2*2 ^ k:=by rw[Nat.pow_succ,Nat.mul_comm]
  have h0:=h 0 (by omega)
  have ih:=w29 k (b / 2) (c / 2) (by omega) (by omega) fun i hi=>by
   have:=h (i+1) (by omega)
   unfold bt1 at this ⊢
   rw[Nat.div_div_eq_div_mul,Nat.div_div_eq_div_mul,show 2*2 ^ i=2 ^ (i+1) by rw[Nat.pow_succ,Nat.mul_comm]]
   exact this
  unfold bt1 at h0
  rw[Nat.pow_zero,Nat.div_one,Nat.div_one]at h0
  omega
theorem xmu (n:Nat) (le:Nat→Nat→Bool):(fsL n le (2 ^ (irs n le).length)).Nodup:=by
 unfold fsL
 refine wdx (fun a ha b hb e => ?_) (List.Nodup.sublist List.filter_sublist List.nodup_range)
 have ha:=List.mem_range.1 (List.mem_filter.1 ha).1
 have hb:=List.mem_range.1 (List.mem_filter.1 hb).1
 have e:=cs_inj.1 e
 have nd:(irs n le).Nodup:=List.Nodup.sublist List.filter_sublist List.nodup_range
 have key:∀{a b:Nat},bsel (irs n le) a (irs n le).length=bsel (irs n le) b (irs n le).length→∀i,i<(irs n le).length→bt1 a i→bt1 b i:=fun {a b} e i hi q=>by
  have hm:(irs n le).getD i 0∈bsel (irs n le) a (irs n le).length:=bsel_mem.2 ⟨i,hi,q,rfl⟩
  rw[e]at hm
  obtain⟨j,hj,hb,e2⟩:=bsel_mem.1 hm
  rw[ww hi,ww hj]at e2
  have:i=j:=by
   rcases Nat.lt_trichotomy i j with q|q|q
   ·exact absurd e2 (List.pairwise_iff_getElem.1 nd i j hi hj q)
   ·exact q
   ·exact absurd e2.symm (List.pairwise_iff_getElem.1 nd j i hj hi q)
  subst this;exact hb
 exact w29 _ a b ha hb fun i hi=>⟨key e i hi,key e.symm i hi⟩
theorem fsL_mem {n:Nat}{le:Nat→Nat→Bool}{s:List Int}:s∈fsL n le (2 ^ (irs n le).length)↔FSp n le s:=by
 rw[←xvc]
 unfold fsL
 constructor
 ·intro hs
  obtain⟨b,hb,rfl⟩:=List.mem_map.1 hs
  obtain⟨h1,h2⟩:=List.mem_filter.1 hb
  exact⟨b,List.mem_range.1 h1,tv_iff.1 h2,rfl⟩
 ·rintro⟨b,h1,h2,rfl⟩
  exact List.mem_map.2 ⟨b,List.mem_filter.2 ⟨List.mem_range.2 h1,tv_t h2⟩,rfl⟩
theorem xdk {n:Nat}{le:Nat→Nat→Bool}(h:LatP n le){RL:List (List Int)}(hn:RL.Nodup) (hm:∀a,a∈RL↔Rch n (latF n le) a):RL.length=(fsL n le (2 ^ (irs n le).length)).length:=by
 have hcg:∀{a},a∈RL→CongL n (latF n le) a:=fun r=>((hm _).1 r).cong h.le10 (zl h) (by simp) (wk h)
 have len:∀{A B:List (List Int)} (f:List Int→List Int),A.Nodup→(∀a∈A,f a∈B)→(∀a∈A,∀b∈A,f a=f b→a=b)→A.length≤B.length:=fun {A B} f h1 h2 h3=>by
  have:=(wdx (f:=f) h3 h1).length_le_of_subset (l₂:=B) fun z hz=>by
   obtain⟨a,ha,rfl⟩:=List.mem_map.1 hz
   exact h2 a ha
  rwa [List.length_map]at this
 have fc:∀{P:Nat→Nat},conL n le (fnL (ptL n P)) (irs n le)=conL n le P (irs n le):=fun {P}=>by
  unfold conL
  refine List.filter_congr fun k hk => ?_
  obtain⟨h1,h2⟩:=fl_mem.1 hk
  unfold conB
  rw[wch h1,wch (wg h2).1]
 refine Nat.le_antisymm (len (fun a=>cs (conL n le (fnL a) (irs n le))) hn (fun a ha => ?_) (fun a ha b hb e => ?_)) (len (fun s=>ptL n (cgS n le (s.map Int.toNat))) (xmu n le) (fun s hs => ?_) (fun s hs t ht e => ?_))
 ·obtain⟨P,hP,rfl,cP⟩:=hcg ha
  show cs (conL n le (fnL (ptL n P)) (irs n le))∈_
  rw[fc]
  exact fsL_mem.2 (xxm h hP cP)
 ·obtain⟨P,hP,rfl,cP⟩:=hcg ha
  obtain⟨Q,hQ,rfl,cQ⟩:=hcg hb
  have e:cs (conL n le (fnL (ptL n P)) (irs n le))=cs (conL n le (fnL (ptL n Q)) (irs n le)):=e
  rw[fc,fc]at e
  have e:=cs_inj.1 e
  refine wy fun x hx=>wqf h hP hQ cP cQ (fun j hj hi => ?_) hx
  have q:j∈conL n le P (irs n le)↔j∈conL n le Q (irs n le):=by rw[e]
  unfold conL conB at q
  rw[List.mem_filter,List.mem_filter,decide_eq_true_eq,decide_eq_true_eq]at q
  have hin:j∈irs n le:=fl_mem.2 ⟨hj,hi⟩
  exact⟨fun w=>(q.1 ⟨hin,w⟩).2,fun w=>(q.2 ⟨hin,w⟩).2⟩
 ·obtain⟨S,rfl,hS,_⟩:=wpr (fsL_mem.1 hs)
  have e:(cs S).map Int.toNat=S:=by unfold cs;rw[List.map_map];exact(List.map_congr_left fun x _=>Int.toNat_natCast x).trans (List.map_id S)
  show ptL n (cgS n le ((cs S).map Int.toNat))∈RL
  rw[e]
  exact(hm _).2 (w8f h hS)
 ·obtain⟨S,rfl,hS,s2,s3⟩:=wpr (fsL_mem.1 hs)
  obtain⟨T,rfl,hT,t2,t3⟩:=wpr (fsL_mem.1 ht)
  have ei:∀S:List Nat,(cs S).map Int.toNat=S:=fun S=>by unfold cs;rw[List.map_map];exact(List.map_congr_left fun x _=>Int.toNat_natCast x).trans (List.map_id S)
  have e:ptL n (cgS n le ((cs S).map Int.toNat))=ptL n (cgS n le ((cs T).map Int.toNat)):=e
  rw[ei,ei]at e
  rw[←w3i h hS s2 s3,←w3i h hT t2 t3]
  refine congrArg cs ?_
  unfold conL
  refine List.filter_congr fun k hk => ?_
  obtain⟨h1,h2⟩:=fl_mem.1 hk
  unfold conB
  rw[wwv e h1,wwv e (wg h2).1]
theorem w8g {n:Nat}{le:Nat→Nat→Bool}(h:LatP n le) (h8:n≤8){RL:List (List Int)}(hn:RL.Nodup) (hm:∀a,a∈RL↔Rch n (latF n le) a):V95 (latAlg n le)=some ((sortBy cmpC RL,true,()),()):=by
 unfold V95 xqj
 rw[xmy h h8,obS,Bool.not_true,cond_false,show latAlg n le=algL n (latF n le) from rfl,xdo h h8 hn hm,obS]
theorem xo2 {n:Nat}{le:Nat→Nat→Bool}(h:LatP n le) (h8:n≤8){RL:List (List Int)}(hn:RL.Nodup) (hm:∀a,a∈RL↔Rch n (latF n le) a):V103 (latAlg n le)=some (sortBy cmpC RL,()):=by
 unfold V103 xd4
 rw[show latAlg n le=algL n (latF n le) from rfl,w4k (by omega) h h8 hn hm,obS]
theorem xxr {n:Nat}{le:Nat→Nat→Bool}(h:LatP n le) (h8:n≤8) (h1:V66 (pos n le)=some (true,())) (h2:V33 (pos n le)=some ((some (lat n le),true,()),())){RL:List (List Int)}(hn:RL.Nodup) (hm:∀a,a∈RL↔Rch n (latF n le) a) :
  (V97 (pos n le)=some ((sortBy cmpC RL,true,()),())∧V104 (pos n le)=some ((sortBy cmpC RL,true,()),()))∧V136 (pos n le)=some ((decide (((sortBy cmpC RL).length:Int)=2),true,()),())∧V137 (pos n le)=some ((decide (((sortBy cmpC RL).length:Int)=2),true,()),()):=by
 have l3:=w8g h h8 hn hm
 have l4:=xo2 h h8 hn hm
 unfold V97 xc5 V104 wyb V136 xe8 V137 xe9
 refine⟨⟨?_, ?_⟩, ?_, ?_⟩
 ·rw[h2,obS,Bool.not_true,cond_false,xd h,obS]
  unfold V96 xqk
  rw[l3];rfl
 ·rw[h1,obS,Bool.not_true,cond_false,xg h,obS,l4];rfl
 ·rw[h2,obS,Bool.not_true,cond_false,xd h,obS]
  unfold V135 xe7
  rw[l3];rfl
 ·rw[h1,obS,Bool.not_true,cond_false,xg h,obS,l4];rfl
theorem xpk {n:Nat}{le:Nat→Nat→Bool}(h:LatP n le){a b c:List Int}(ha:CongL n (latF n le) a) (hb:CongL n (latF n le) b) (hc:CongL n (latF n le) c):V124 a b c=some (true,()):=by
 obtain⟨P,hP,rfl,cP⟩:=ha
 obtain⟨Q,hQ,rfl,cQ⟩:=hb
 obtain⟨R,hR,rfl,cR⟩:=hc
 have h10:=h.le10
 unfold V124 xeq
 rw[wdo (by omega) hR,obS]
 dsimp only
 rw[wnd (by omega) hP (wci hQ hR),obS,wnd (by omega) hP hQ,obS,wnd (by omega) hP hR,obS]
 dsimp only
 rw[wdo (by omega) (yi n _ _),obS,w4i _ _ (by rw[wb];omega),obS]
 dsimp only
 rw[decide_eq_true (w8i h hP hQ hR cP cQ cR)]
theorem xo1 {n:Nat}{le:Nat→Nat→Bool}(h:LatP n le){L:List (List Int)}(hL:∀a∈L,CongL n (latF n le) a) (hl:L.length≤1000):V125 big L ()=some (none,()):=by
 unfold V125 wy1
 refine xrq L.length (fun _=>True) (by omega) (fun rc i hi _ hr => ?_) (fun rc _ => ?_) 0 (by omega) trivial
 ·unfold wbb
  rw[cdt (by omega),jf L i hi,obS]
  refine xrr L.length (fun _=>True) (by omega) (fun rc2 j hj _ hr2 => ?_) (fun rc2 _ => ?_) 0 (by omega) trivial
  ·unfold wbc
   rw[cdt (by omega),jf L j hj,obS]
   refine xrs L.length (fun _=>True) (by omega) (fun rc3 k hk _ hr3 => ?_) (fun rc3 _ => ?_) 0 (by omega) trivial
   ·unfold we1
    rw[cdt (by omega),jf L k hk,obS,xpk h (hL _ (List.getElem_mem hi)) (hL _ (List.getElem_mem hj)) (hL _ (List.getElem_mem hk)),obS,Bool.not_true,cond_false,wr1 (by omega)]
    exact hr3 trivial
   ·unfold we1 wba
    rw[cdf (by omega),wr1 (by omega)]
    exact hr2 trivial
  ·unfold wbc xw
   rw[cdf (by omega),wr1 (by omega)]
   exact hr trivial
 ·unfold wbb xu
  rw[cdf (by omega)]
theorem xdl {n:Nat}{le:Nat→Nat→Bool}(h:LatP n le){L:List (List Int)}(hL:∀a∈L,CongL n (latF n le) a) (hl:L.length≤1000):V133 big L false=some (([],false,()),()):=by
 have h10:=h.le10
 unfold V133 wza
 refine xr2 L.length (fun _=>True) (by omega) (fun rc i hi _ hr => ?_) (fun rc _ => ?_) 0 (by omega) trivial
 ·unfold wbm
  rw[cdt (by omega)]
  refine xr3 L.length (fun _=>True) (by omega) (fun rc2 j hj _ hr2 => ?_) (fun rc2 _ => ?_) 0 (by omega) trivial
  ·unfold wbn
   rw[cdt (by omega)]
   refine xr4 L.length (fun _=>True) (by omega) (fun rc3 k hk _ hr3 => ?_) (fun rc3 _ => ?_) 0 (by omega) trivial
   ·obtain⟨P,hP,eP,cP⟩:=hL _ (List.getElem_mem hi)
    obtain⟨Q,hQ,eQ,cQ⟩:=hL _ (List.getElem_mem hj)
    obtain⟨R,hR,eR,cR⟩:=hL _ (List.getElem_mem hk)
    unfold wfj
    rw[cdt (by omega),jf L i hi,obS,jf L j hj,obS,jf L k hk,obS,cond_false,eP,eQ,eR,wdq (by omega) hR,obS]
    dsimp only
    rw[wne (n:=n) (by omega),obS,wne (n:=n) (by omega),obS,wne (n:=n) (by omega),obS]
    dsimp only
    rw[wdq (by omega) (yi n _ _),obS,ww3 _ _ (by rw[wb];omega),obS]
    dsimp only
    rw[decide_eq_true (w8i h hP hQ hR cP cQ cR),Bool.not_true,cond_false,wr1 (by omega)]
    exact hr3 trivial
   ·unfold wfj wbl
    rw[cdf (by omega),wr1 (by omega)]
    exact hr2 trivial
  ·unfold wbn xz
   rw[cdf (by omega),wr1 (by omega)]
   exact hr trivial
 ·unfold wbm xy
  rw[cdf (by omega)]
theorem xo5 {n:Nat}{le:Nat→Nat→Bool}(h:LatP n le) (h8:n≤8){RL:List (List Int)}(hn:RL.Nodup) (hm:∀a,a∈RL↔Rch n (latF n le) a):∃b:Bool,V126 (latAlg n le)=some ((b,b,()),())∧V134 (latAlg n le)=some ((b,b,()),()):=by
 have h0:=h.lat.ne
 have hcg:∀a∈sortBy cmpC RL,CongL n (latF n le) a:=fun a ha=>((hm a).1 ((wap qe).1 ha)).cong h.le10 h0 (by simp) (wk h)
 have hl:(sortBy cmpC RL).length=RL.length:=wao qe RL
 obtain⟨o,eo,o1,o2⟩:=wul (M:=60) h h8 hn hm
 have sp:V130 (latAlg n le)=some ((o,decide ((o.length:Int)≤60),()),()):=by
  unfold V130 xe4
  rw[show latAlg n le=algL n (latF n le) from rfl,xm1 h8 h0 (by simp) (wk h),obS]
  dsimp only
  rw[Bool.not_true,cond_false,eo];rfl
 have im:=w8g h h8 hn hm
 unfold V126 xer V119 xei V134 xe6
 rw[im,sp,obS,obS]
 dsimp only
 by_cases c:RL.length≤60
 ·have eo:o=sortBy cmpC RL:=o2.resolve_right (by omega)
  subst eo
  refine⟨true, ?_, ?_⟩
  ·rw[Bool.not_true,cond_false,cdf (by omega),obS]
   dsimp only
   rw[cond_true,xo1 h hcg (by omega)];rfl
  ·rw[decide_eq_true (by omega),Bool.not_true,cond_false,xdl h hcg (by omega)];rfl
 ·refine⟨false, ?_, ?_⟩
  ·rw[Bool.not_true,cond_false,cdt (by omega)];rfl
  ·have:¬(o.length:Int)≤60:=by
    rcases o2 with rfl|q
    ·omega
    ·omega
   rw[decide_eq_false this];rfl
theorem congSetI {n:Nat}{le:Nat→Nat→Bool}(h:LatP n le) (h2:V33 (pos n le)=some ((some (lat n le),true,()),())){S:List Nat}(hF:FSp n le (cs S)) (hS:∀j∈S,j<n∧irr n le j=true) (hl:S.length≤1048576):V105 (pos n le) (cs S)=some ((ptL n (cgS n le S),true,()),()):=by
 unfold V105 xd5
 rw[h2]
 simp only[obS,Bool.not_true,cond_false,wi4 h (cs S) (by rw[cs_len];exact hl)]
 rw[tv_t hF,Bool.not_true,cond_false,wm8 h hS hl];rfl
theorem contrI {n:Nat}{le:Nat→Nat→Bool}(h:LatP n le) (h2:V33 (pos n le)=some ((some (lat n le),true,()),())){P:Nat→Nat}(hP:Pt n P) (cP:Cg n (latF n le) P):V108 (pos n le) (ptL n P)=some ((cs (conL n le P (irs n le)),true,()),()):=by
 have h10:=h.le10
 unfold V108 xd7
 rw[h2]
 simp only[obS,Bool.not_true,cond_false,xd h,wuc h (l:=ptL n P) (by rw[wb];omega),tv_t (show CongL n (latF n le) (ptL n P) from⟨P,hP,rfl,cP⟩),wjm (le:=le) (P:=P) (show n≤1048576 by omega)]
 rfl
theorem xpg {n:Nat}{le:Nat→Nat→Bool}(h:LatP n le) (h2:V33 (pos n le)=some ((some (lat n le),true,()),())){P:Nat→Nat}(hP:Pt n P) (cP:Cg n (latF n le) P):V112 big (pos n le) (ptL n P)=some ((pos (ncl n P) (qle n le P),true,()),())∧V113 (pos (ncl n P) (qle n le P))=some (true,()):=by
 have h10:=h.le10
 have e3:=xdp h hP (([]:List (List Int)),())
 have hl:ncl n P≤n:=jh _ _
 refine⟨?_, ?_⟩
 ·unfold V112 wyo
  rw[h2]
  simp only[obS,Bool.not_true,cond_false,xd h,wuc h (l:=ptL n P) (by rw[wb];omega),tv_t (show CongL n (latF n le) (ptL n P) from⟨P,hP,rfl,cP⟩),xdt (P:=P) (show n≤1048576 by omega),cs_len,wdy (show ncl n P≤4294967296 by omega),e3]
 ·unfold V113 xed
  rw[xj (xx4 h hP cP).1];rfl
theorem xpc {n:Nat}{le:Nat→Nat→Bool}(h:LatP n le) (h8:n≤8) (h1:V65 big (pos n le)=some (true,())):V114 (pos n le)=some ((latAlg n le,true,()),())∧V115 (pos n le)=some ((latAlg n le,true,()),()):=by
 refine⟨?_, ?_⟩
 ·unfold V114 xee
  rw[xj h,obS]
  dsimp only
  rw[Bool.not_true,cond_false,obS,lat1,mkR_len,cdf (by omega),xd h];rfl
 ·unfold V115 xef
  rw[h1,obS]
  dsimp only
  rw[Bool.not_true,cond_false,wd,cdf (by omega),xg h];rfl
theorem xm4 {n:Nat}{le:Nat→Nat→Bool}(h:LatP n le) (h1:V66 (pos n le)=some (true,())) (h2:V33 (pos n le)=some ((some (lat n le),true,()),())):V138 big (pos n le)=some ((fpL n le (irs n le),true,()),())∧V139 big (pos n le)=some ((fpL n le (irs n le),true,()),())∧(fpL n le (irs n le)).length≤100:=by
 have h10:=h.le10
 have hl:=jh n fun j=>irr n le j
 have hb:=wwk (n:=n) le (fl n fun j=>irr n le j)
 have hb2:(fl n fun j=>irr n le j).length*n≤10*10:=Nat.mul_le_mul (by omega) h.le10
 have e1:=xdv h (S:=fl n fun j=>irr n le j) (fun j hj=>fl_mem.1 hj) (by omega)
 have e2:=jas h (S:=fl n fun j=>irr n le j) (fun j hj=>fl_mem.1 hj) (by omega)
 unfold V139 wzf V138 wzb
 rw[h1,h2]
 simp only[obS,Bool.not_true,cond_false,yg (le:=le) (show n≤1048576 by omega),wjj (le:=le) (show n≤1048576 by omega),cs_len,e1,e2]
 exact⟨rfl,rfl,by unfold irs;omega⟩
theorem wdz (R:List (List Int)) (hl:R.length≤1000000000) (hr:∀x∈R,x.length≤10):V87 big R R=some (true,()):=by
 unfold V87 xcp
 rw[cdf (by omega)]
 refine xw4 R.length (fun i=>True) (by omega) (fun rc i hi hI hr2 => ?_) (fun rc hI => ?_) 0 (by omega) trivial
 ·have:=hr _ (List.getElem_mem hi)
  unfold wml
  rw[cdt (by omega),jf R i hi,obS,obS,wji _ _ (by omega),obS,decide_eq_true rfl,wr1 (by omega)]
  exact hr2 trivial
 ·unfold wml wia
  rw[cdf (by omega)]
theorem xm9 (R:List (List Int)) (t:List Int) (hl:R.length≤1000000000) (hr:∀x∈R,x.length≤10) (ht:t∈R):∃v:Int,V109 big R t=some (v,())∧0≤v:=by
 unfold V109 wye
 refine xra (Q:=fun r=>∃v:Int,r=some (v,())∧0≤v) R.length (fun i=>t ∉ R.take i) (by omega) (fun rc i hi hI hr2 => ?_) (fun rc hI => ?_) 0 (by omega) (by simp)
 ·have:=hr _ (List.getElem_mem hi)
  unfold wnr
  rw[cdt (by omega),jf R i hi,obS,wji _ _ (by omega),obS,wr1 (by omega)]
  dsimp only
  by_cases c:R[i]=t
  ·rw[decide_eq_true c,cond_true]
   exact⟨_,rfl,by omega⟩
  ·rw[decide_eq_false c,cond_false]
   refine hr2 fun q => ?_
   rw[List.take_succ_eq_append_getElem hi]at q
   rcases List.mem_append.1 q with q|q
   ·exact hI q
   ·exact c (List.mem_singleton.1 q).symm
 ·rw[List.take_length]at hI
  exact absurd ht hI
theorem w8w (l:List Int) (x:Int) (hl:l.length≤1000000):V140 big l x=some (decide (x∈l),()):=by
 unfold V140 wzg
 refine xr8 l.length (fun i=>x ∉ l.take i) (by omega) (fun rc i hi hI hr => ?_) (fun rc hI => ?_) 0 (by omega) (by simp)
 ·unfold wfo
  rw[cdt (by omega),jf l i hi,obS,wr1 (by omega)]
  by_cases c:l[i]=x
  ·rw[cdt c,decide_eq_true (by rw[←c];exact List.getElem_mem hi)]
  ·rw[cdf c]
   refine hr fun q => ?_
   rw[List.take_succ_eq_append_getElem hi]at q
   rcases List.mem_append.1 q with q|q
   ·exact hI q
   ·exact c (List.mem_singleton.1 q).symm
 ·rw[List.take_length]at hI
  unfold wfo wbt
  rw[cdf (by omega),decide_eq_false hI]
theorem xm7 {n:Nat}{le:Nat→Nat→Bool}(h:LatP n le):V118 (latAlg n le) (latAlg n le)=some (true,()):=by
 have h10:=h.le10
 have hf:∀f,(flt n f n).length≤100:=fun f=>by rw[wi];exact xk h10 h10
 have op:∀f,V116 ((2:Int),flt n f n,()) ((2:Int),flt n f n,())=some (true,()):=fun f=>by
  unfold V116 xeg
  rw[cdt rfl,wji _ _ (by have:=hf f;show(flt n f n).length≤_;omega),obS,decide_eq_true rfl]
 unfold V118 xeh
 rw[cdt rfl]
 have go:V117 big (latAlg n le).2.1 (latAlg n le).2.1=some (true,()):=by
  unfold V117 wyp
  rw[cdf (by simp)]
  refine xrg 2 (fun i=>True) (by omega) (fun rc i hi hI hr => ?_) (fun rc hI => ?_) 0 (by omega) trivial
  ·unfold wei
   rw[show(latAlg n le).2.1.length=2 from rfl,cdt (by omega)]
   have ho:∃f,atI (latAlg n le).2.1 (i:Int)=some ((2:Int),flt n f n,()):=by
    match i,hi with
    | 0,_=>exact⟨_,rfl⟩
    | 1,_=>exact⟨_,rfl⟩
   obtain⟨f,ef⟩:=ho
   rw[ef,obS,obS,op f,obS,Bool.not_true,cond_false,wr1 (by omega)]
   exact hr trivial
  ·unfold wei wa2
   rw[show(latAlg n le).2.1.length=2 from rfl,cdf (by omega)]
 rw[go,obS]
theorem xuu {code:List Int}(hc:Codes code):∃p,V21 code=some (p,())∧DrP 12 p:=by
 obtain⟨p,c,e,hp,_⟩:=xo6 hc
 unfold V21 xps V20 xpr
 rw[e]
 exact⟨p,rfl,hp⟩
theorem xms {n:Nat}{le:Nat→Nat→Bool}(h8:n≤8){Ss:List (List Int)}(hs:∀s∈Ss,FSp n le s) (hr:∀x∈Ss,x.length≤10) (hl:Ss.length≤1000) (hF:(fpL n le (irs n le)).length≤100):zh big Ss (fpL n le (irs n le)) (fpL n le (irs n le)) 0=some (true,()):=by
 refine xur (fpL n le (irs n le)).length (fun _=>True) (by omega) (fun rc i hi _ ih => ?_) (fun rc _ => ?_) 0 (by omega) trivial
 ·obtain⟨j,hj,q⟩:=List.mem_flatMap.1 (List.getElem_mem hi)
  obtain⟨k,hk,q⟩:=List.mem_map.1 q
  have hk:=(List.mem_filter.1 hk).1
  have ge:(fpL n le (irs n le))[i]? = some ((j:Int),(k:Int),()):=by rw[List.getElem?_eq_getElem hi,q]
  unfold wcf
  rw[cdt (by omega),jy,ge,obS,Int.toNat_natCast,ge,obS,obS,obS]
  rw[show(eqD (Ty.pair I (Ty.pair I Ty.unit)) ((j:Int),(k:Int),()) ((j:Int),(k:Int),()))=true from by simp[eqD]]
  rw[Bool.not_true,cond_false]
  refine xus Ss.length (fun _=>True) (by omega) (fun rc2 m hm _ ih2 => ?_) (fun rc2 _ => ?_) 0 (by omega) trivial
  ·have hm1:=hs _ (List.getElem_mem hm)
   have hm2:=hr _ (List.getElem_mem hm)
   have gm:Ss[m]? = some Ss[m]:=List.getElem?_eq_getElem hm
   unfold wiz
   rw[cdt (by omega),jy,gm,obS,Int.toNat_natCast,gm,obS,jy,ge,obS,Int.toNat_natCast,ge,obS,obS,obS]
   dsimp only
   rw[w8w _ _ (by omega),obS,wr1 (by omega)]
   dsimp only
   by_cases c:(j:Int)∈Ss[m]
   ·have c2:(k:Int)∈Ss[m]:=by
     obtain⟨i2,e,_,_,w⟩:=hm1.mem _ c
     have:j=i2:=by omega
     subst this
     exact w _ (cs_mem.2 hk)
    rw[decide_eq_true c,cond_true,obS,obS,obS,obS,obS,obS,w8w _ _ (by omega),obS,decide_eq_true c2,Bool.not_true,cond_false]
    exact ih2 trivial
   ·rw[decide_eq_false c,cond_false]
    exact ih2 trivial
  ·unfold wiz wce
   rw[cdf (by omega),wr1 (by omega)]
   exact ih trivial
 ·unfold wcf ya
  rw[cdf (by omega)]
theorem true_FnForcing (code:List Int) (hw:Wf (.pair (.sl (.int .u8)) .unit) (code,())):laws_FnForcing big code=some (true,()):=by
 unfold laws_FnForcing xdg V0 V0_s
 rw[obS]
 dsimp only
 by_cases hl:code.length≤65536
 case neg=>rw[cdt (by omega)]
 have hc:=xo4 hw hl
 obtain⟨p,e1,hp⟩:=xuu hc
 rw[cdf (by omega),e1,obS]
 dsimp only
 rcases w4m hp.rows12 with⟨n,le,rfl,h,h8,h1,h2⟩|⟨h1,l,h2⟩
 ·have h10:=h.le10
  have h0:=h.lat.ne
  have hcg:∀{a},Rch n (latF n le) a→CongL n (latF n le) a:=fun r=>r.cong h10 h0 (by simp) (wk h)
  obtain⟨RL,hn,hm⟩:=xu3 (Rch n (latF n le)) 128 fun L h1 h2=>zk h h8 L h1 fun a ha=>hcg (h2 a ha)
  have hR:=zk h h8 RL hn fun a ha=>hcg ((hm a).1 ha)
  have hcnt:=xdk h hn hm
  obtain⟨s2,s1⟩:=xxo h h8 h1 h2
  obtain⟨⟨c1,c2⟩,m1,m2⟩:=xxr h h8 h1 h2 hn hm
  obtain⟨a1,a2⟩:=xpc h h8 (xdz h)
  obtain⟨b,d1,d2⟩:=xo5 h h8 hn hm
  obtain⟨f1,f2,f3⟩:=xm4 h h1 h2
  have hset:∀s∈sortBy cmpT (fsL n le (2 ^ (irs n le).length)),FSp n le s:=fun s hs=>fsL_mem.1 ((wap qc).1 hs)
  have hrow:∀s∈sortBy cmpT (fsL n le (2 ^ (irs n le).length)),s.length≤10:=fun s hs=>by
   have:=xux ((wap qc).1 hs);omega
  have hlen1:(sortBy cmpT (fsL n le (2 ^ (irs n le).length))).length=RL.length:=by rw[wao qc,hcnt]
  have hlen2:(sortBy cmpC RL).length=RL.length:=wao qe RL
  have hall:∀a,a∈sortBy cmpC RL↔Rch n (latF n le) a:=fun a=>(wap qe).trans (hm a)
  have hrow2:∀a∈sortBy cmpC RL,a.length≤10:=fun a ha=>by
   rw[(wu h8 (hcg ((hall a).1 ha))).1];exact h10
  have lp:=xms (n:=n) (le:=le) h8 hset hrow (by omega) f3
  generalize sortBy cmpT (fsL n le (2 ^ (irs n le).length))=Ss at *
  generalize sortBy cmpC RL=As at *
  have t1:=wdz Ss (by omega) hrow
  have t2:=wdz As (by omega) hrow2
  rw[s1,obS,s2,obS]
  dsimp only
  rw[bne_self_eq_false,cond_false,t1,obS]
  dsimp only
  rw[Bool.not_true,cond_false,c1,obS,c2,obS]
  dsimp only
  rw[bne_self_eq_false,cond_false,cond_false,t2,obS]
  dsimp only
  rw[Bool.not_true,cond_false,cdf (by omega),cond_false]
  refine xuq Ss.length (fun _=>True) (by omega) (fun rc i hi _ ih => ?_) (fun rc _ => ?_) 0 (by omega) trivial
  ·have hF:=hset _ (List.getElem_mem hi)
   have hr10:=hrow _ (List.getElem_mem hi)
   have gi:Ss[i]? = some Ss[i]:=List.getElem?_eq_getElem hi
   generalize Ss[i]=s at hF hr10 gi
   obtain⟨S,rfl,hS,z2,z3⟩:=wpr hF
   rw[cs_len]at hr10
   have lc:=xml h hS
   have q1:=congSetI h h2 hF hS (by omega)
   have q2:=contrI h h2 lc.pt lc.cg
   rw[w3i h hS z2 z3]at q2
   obtain⟨q3,q4⟩:=xpg h h2 lc.pt lc.cg
   obtain⟨v,q5,q6⟩:=xm9 As (ptL n (cgS n le S)) (by omega) hrow2 ((hall _).2 (w8f h hS))
   unfold wiy
   rw[cdt (by omega),jy,gi,obS,Int.toNat_natCast,gi,obS,obS,q1,obS]
   dsimp only
   rw[q2,obS]
   dsimp only
   rw[Bool.not_true,cond_false,cond_false,q5,obS]
   dsimp only
   rw[cdf (by omega),obS,obS,obS,wji _ _ (by rw[cs_len];omega),obS,decide_eq_true rfl]
   dsimp only
   rw[Bool.not_true,cond_false,q3,obS]
   dsimp only
   rw[Bool.not_true,cond_false,q4,obS,wr1 (by omega)]
   dsimp only
   rw[Bool.not_true,cond_false]
   exact ih trivial
  ·unfold wiy wcd
   rw[cdf (by omega),a1,obS,a2,obS]
   dsimp only
   rw[bne_self_eq_false,cond_false,Bool.not_true,cond_false,xm7 h,obS]
   dsimp only
   rw[Bool.not_true,cond_false,d1,obS,d2,obS]
   dsimp only
   rw[bne_self_eq_false,cond_false,cond_false,m1,m2,f1,f2]
   simp only[obS]
   have e2:decide ((Ss.length:Int)=2)=decide ((As.length:Int)=2):=by rw[hlen1,hlen2]
   rw[e2]
   simp only[bne_self_eq_false,cond_false,Bool.not_true]
   rw[cdf (by omega),lp]
   cases b<;>rfl
 ·have s1:V59 big p=some (([],false,()),()):=by unfold V59 wxn;rw[h2];rfl
  have s2:V85 p=some (([],false,()),()):=by unfold V85 xcm;rw[h1];rfl
  have c1:V97 p=some (([],false,()),()):=by unfold V97 xc5;rw[h2];rfl
  have c2:V104 p=some (([],false,()),()):=by unfold V104 wyb;rw[h1];rfl
  have t:=wdz [] (by simp) (by simp)
  rw[s1,obS,s2,obS]
  dsimp only
  rw[bne_self_eq_false,cond_false,t,obS]
  dsimp only
  rw[Bool.not_true,cond_false,c1,obS,c2,obS]
  dsimp only
  rw[bne_self_eq_false,cond_false,cond_false,t,obS]
  dsimp only
  rw[Bool.not_true,cond_false,cdf (by simp),Bool.not_false,cond_true]
end Go.Proofs.YtaehhdpcmfagjaaGreat
