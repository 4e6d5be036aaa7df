import Derived.Test.YtnolmlelfmadkaaGxClo
import Derived.Test.YtnolmlelfmadkaaGxMap
set_option linter.unusedSimpArgs false
set_option linter.unusedVariables false
namespace Go.Gx
open Go
section
variable {P:Program} {A:Cfg} {c:Ctx} {own:Nat→List Nat} {st:St} {a:Act} {w:World} {ρ:Type}
theorem jev {ρ:Type}:∀{n m:Nat}{j:Int}{b:Nat→Option ρ}{r:ρ},arrBr n m j b=some r→∃i,i<m+n∧j=((i:Nat):Int)∧b i=some r
 | 0,_,_,_,_,h=>by cases h
 | n+1,m,j,b,r,h=>by
  unfold arrBr at h
  by_cases hj:j=(m:Int)
  ·rw[decide_eq_true hj,cond_true]at h
   exact⟨m,by omega,hj,h⟩
  ·rw[decide_eq_false hj,cond_false]at h
   obtain⟨i,h1,h2,h3⟩:=jev h
   exact⟨i,by omega,h2,h3⟩
theorem ug (hA:CfgOk P A) (hS:SigOk P A){o:Oper}{k:St→Option ρ}{r:ρ}(h:Inv c own [] st a w) (hk:step A o st k=some r):OpGoal P c o k r a w:=by
 unfold step at hk
 split at hk
 ·rename_i x ho;exact jl5 ho h hk
 ·rename_i x ho
  split at hk
  ·rename_i d hd;exact jjf ho hd h hk
  ·cases hk
 ·rename_i x y z ho;exact jl7 ho h hk
 ·rename_i e ho
  split at hk
  ·rename_i t f hT
   split at hk
   ·rename_i hz;exact jkk hA ho hT hz h hk
   ·cases hk
  ·cases hk
 ·rename_i e v ho
  split at hk
  ·rename_i t f hT;exact jmk hA ho hT h hk
  ·cases hk
 ·rename_i T n ps ho
  split at hk
  ·rename_i t f hT
   split at hk
   ·rename_i hn;exact jgd hA ho hT hn.1 hn.2 h hk
   ·cases hk
  ·cases hk
 ·rename_i T ps ho
  split at hk
  ·rename_i fts hT;exact jkr hA ho hT h hk
  ·split at hk
   ·rename_i t f n hT;exact jhz hA ho hT h hk
   ·cases hk
 ·rename_i T x v ho;exact jlk hA ho h hk
 ·rename_i S x f ho
  split at hk
  ·rename_i fts hS;exact jgx hA ho hS h hk
  ·cases hk
 ·rename_i s d x ho
  split at hk
  ·rename_i hs;exact jlv hA ho hs h hk
  ·cases hk
 ·rename_i T x ho
  split at hk
  ·rename_i t f hT;exact jl2 hA ho hT h hk
  ·cases hk
 ·rename_i x ho;exact jh5 ho h hk
 ·rename_i op T x y T' ho;exact jkp hA ho h hk
 ·rename_i op T x ho;exact jme ho h hk
 ·rename_i T l cc ho
  split at hk
  ·rename_i t f hT
   split at hk
   ·rename_i hz
    split at hk
    ·rename_i hl hc;exact jha hA ho hT hz h hl hc hk
    ·cases hk
   ·cases hk
  ·cases hk
 ·rename_i T x lo hi mx ho
  split at hk
  ·rename_i t f hT;exact jhr hA ho h (some t) ⟨f,hT⟩ hk
  ·rename_i f hT1 hT;exact jhr hA ho h none ⟨f,hT⟩ hk
  ·cases hk
 ·rename_i T x i ho
  split at hk
  ·rename_i t f hT;exact jg7 hA ho hT h hk
  ·split at hk
   ·rename_i t f n hT
    split at hk
    ·rename_i hi
     obtain⟨m,hm1,hm2,hk⟩:=jev hk
     refine jhy hA ho hT h hi (by omega) ?_
     rw[show Int.toNat _=m from by rw[hm2];simp]
     exact hk
    ·cases hk
   ·cases hk
 ·rename_i T x i ho
  split at hk
  ·rename_i f hT
   split at hk
   ·rename_i hx hi;exact jk0 hA ho h hT hx hi hk
   ·cases hk
  ·cases hk
 ·rename_i T ho
  split at hk
  ·rename_i kt vt hT;exact ji4 hA ho hT h hk
  ·cases hk
 ·rename_i T m x y ho;exact jfu hA (.inl ho) h hk
 ·rename_i T m x y ho;exact jfu hA (.inr ho) h hk
 ·rename_i T x i ok ho;exact jju hA ho h hk
 ·rename_i f first captured ho;exact jh4 ho h hk
 ·rename_i x i ho;exact jiw ho h hk
 ·rename_i cc ho
  split at hk
  ·rename_i f hc
   obtain⟨own',h'⟩:=jmn (A:=A) (f:=f) (vs:=cc.args.toList.map (opd st)) h
   exact jls hS ho hc h' hk
  ·rename_i t hc
   split at hk
   ·rename_i f nf u y hs
    cases hl:capsV u y with
    | none=>rw[hl]at hk;cases hk
    | some l=>rw[hl]at hk;exact jlu hS ho hc h (jj2 hs) hl hk
   ·cases hk
  ·rename_i hc
   split at hk
   ·rename_i x T hx hT;exact jmm hA ho hc hx hT h hk
   ·cases hk
  ·rename_i hc
   split at hk
   ·rename_i s x T T2 hx hTs
    split at hk
    ·rename_i t f q hT hT2;exact jje hA ho hc hx hTs hT (by rw[hT2];rfl) h hk
    ·cases hk
   ·cases hk
  ·cases hk
 ·cases hk
theorem St.set_same {st:St}{d:Nat}{v:V}(h:st.get d=v):st.set d v=st:=by
 apply List.ext_getElem?
 intro i
 rw[List.getElem?_set]
 split
 ·rename_i e
  subst e
  split
  ·rename_i hlt
   unfold St.get at h
   rw[List.getD_eq_getElem?_getD,List.getElem?_eq_getElem hlt]at h
   rw[List.getElem?_eq_getElem hlt,←h]
   rfl
  ·rename_i hge
   rw[List.getElem?_eq_none (by omega)]
 ·rfl
theorem jlq (h:Inv c own [] st a w) (d:Option Nat) (hfx:∀n,d=some n→c.fix n=none):∃own',Inv c own' [] (st.putO d uV) (a.put d undef) w:=h.putO (F:=[]) d (by exact .inr ⟨.unit,(), #[],rfl,HEq.rfl,rfl,rfl,rfl⟩) (vp hfx)
theorem jck {F:St→(St→Option ρ)→Option ρ}{ops:Array Oper}{o:Oper}{k:St→Option ρ}{r:ρ}{Q:Exit→Act→World→Prop}{K:Act→World→Prop}{n:Nat}(hn:ops[n]? = some o) (hF:F st k=some r→OpGoal P c o k r a w) (hfx:∀n,o.dst=some n→c.fix n=none)
  (rest:∀own' st' a' w',k st'=some r→Inv c own' [] st' a' w'→K a' w') (h:Inv c own [] st a w) (hk:stepGF F ops.toList o st k=some r):wpOp P ops Q n K a w:=by
 unfold wpOp
 simp only[hn]
 unfold stepGF at hk
 split at hk
 ·rename_i hg
  have hw:Region.wanted o (yielded ops a.tmps)=true:=by simp[Region.wanted,hg]
  rw[if_pos hw]
  exact .inl (hF hk hfx _ _ rest)
 ·rename_i j want hg
  split at hk
  ·cases hk
  rename_i d hd
  split at hk
  ·rename_i f b hb
   have hy:yielded ops a.tmps j=some b:=by
    have hsl:=h.slot d
    rw[hb]at hsl
    have hv:Act.at_ a d = .bool b:=by
     rcases hsl with⟨cs,h1,h2⟩|⟨u,_,_,h1,_⟩
     ·simp only[Holds]at h1
      simp only[Rep]at h2
      rw[h1]at h2
      simpa using h2.1
     ·cases h1
    have hdl:d<a.tmps.size:=by
     rw[h.size]
     rcases Nat.lt_or_ge d st.length with hlt|hge
     ·exact hlt
     ·rw[qe st d hge]at hb;cases hb
    have hd':(ops[j]?).bind (·.dst)=some d:=by
     simpa [dstOf] using hd
    simp only[Act.at_,Array.getD_eq_getD_getElem?,Array.getElem?_eq_getElem hdl,Option.getD_some]at hv
    simp[yielded,hd',hdl,hv]
   have hw:Region.wanted o (yielded ops a.tmps)=(b==want):=by simp[Region.wanted,hg,hy]
   have skip:k (St.putO st o.dst uV)=some r→K (a.put o.dst undef) w:=by
    intro hk
    obtain⟨own',h'⟩:=jlq h o.dst hfx
    exact rest _ _ _ _ hk h'
   cases b with
   | true =>
    rw[St.set_same hb]at hk
    simp only[cond_true]at hk
    cases want with
    | true=>rw[if_pos rfl]at hk;rw[hw];exact .inl (hF hk hfx _ _ rest)
    | false=>rw[hw];exact skip (by simpa using hk)
   | false =>
    rw[St.set_same hb]at hk
    simp only[cond_false]at hk
    cases want with
    | true=>rw[hw];exact skip (by simpa using hk)
    | false=>rw[if_neg (by simp)]at hk;rw[hw];exact .inl (hF hk hfx _ _ rest)
  ·rename_i u f b hb
   have hy:yielded ops a.tmps j=none:=by
    have hsl:=h.slot d
    rw[hb]at hsl
    have hv:∃vs,Act.at_ a d = .tuple vs:=by
     rcases hsl with⟨cs,h1,h2⟩|⟨u,_,vs,_,_,h3,_⟩
     ·exact h1.elim
     ·exact⟨vs,h3⟩
    obtain⟨vs,hv⟩:=hv
    have hdl:d<a.tmps.size:=by
     rw[h.size]
     rcases Nat.lt_or_ge d st.length with hlt|hge
     ·exact hlt
     ·rw[qe st d hge]at hb;cases hb
    have hd':(ops[j]?).bind (·.dst)=some d:=by
     simpa [dstOf] using hd
    simp only[Act.at_,Array.getD_eq_getD_getElem?,Array.getElem?_eq_getElem hdl,Option.getD_some]at hv
    simp[yielded,hd',hdl,hv]
   have hw:Region.wanted o (yielded ops a.tmps)=false:=by simp[Region.wanted,hg,hy]
   rw[hw]
   obtain⟨own',h'⟩:=jlq h o.dst hfx
   exact rest _ _ _ _ hk h'
  ·cases hk
theorem jf3 {N:Nat→Prop}{t:Ty}{g:Fl}{xs:List t.den}{v:Value}{F:List Nat}(h:Rep w N (.sl t) (.o g) xs [v] F):∃ad cap,v = .slice ad xs.length cap∧xs.length≤cap:=by
 simp only[Rep]at h
 rcases h with⟨rfl,h1,_⟩|⟨b,cap,arr,e,G,h1,_,_,h4,_⟩
 ·simp only[List.cons.injEq,and_true]at h1;exact⟨none,0,h1,Nat.le_refl _⟩
 ·simp only[List.cons.injEq,and_true]at h1;exact⟨_,cap,h1,h4⟩
theorem jcj {k k2:IntKind}{n cap:Nat}{b:Int}(h0:0≤b) (h1:b≤(n:Nat)) (h2:n≤cap) :
  (Instr.sliceBounds true n cap none (some (.int k b)) (some (.int k2 b))).run P w = .ok (0,b.toNat,b.toNat) w:=by
 simp[Instr.sliceBounds,qt k2 b cap _ h0 (by omega),qt k b b.toNat _ h0 (by omega),Sem.run_pure]
theorem jci {k:IntKind}{n cap:Nat}{l:Int}(h0:0≤l) (h1:l≤(n:Nat)) :
  (Instr.sliceBounds true n cap (some (.int k l)) none none).run P w = .ok (l.toNat,n,cap) w:=by
 simp[Instr.sliceBounds,qt k l n _ h0 (by omega),Sem.run_pure]
theorem je8 {k:IntKind}{n cap:Nat}{b:Int}(h0:0≤b) (h1:b≤(n:Nat)) (h2:n≤cap) :
  (Instr.sliceBounds true n cap none (some (.int k b)) none).run P w = .ok (0,b.toNat,cap) w:=by
 simp[Instr.sliceBounds,qt k b cap _ h0 (by omega),Sem.run_pure]
theorem jhs (hA:CfgOk P A){o:Oper}{k:St→Option ρ}{r:ρ}{s n:Nat}(h:Inv c own [] st a w) (hw:isWin A o st=some (s,n)) (hk:stepW o st s n k=some r):OpGoal P c o k r a w:=by
 unfold isWin at hw
 split at hw
 case isFalse=>cases hw
 split at hw
 case h_2=>cases hw
 rename_i T x lo hi mx ho
 split at hw
 case h_2=>cases hw
 rename_i s' hx
 split at hw
 case h_2=>cases hw
 rename_i t g xs hs
 split at hw
 case h_2=>cases hw
 rename_i t' ft hT
 split at hw
 case isFalse=>cases hw
 rename_i e
 subst e
 simp only[Option.some.injEq,Prod.mk.injEq]at hw
 obtain⟨rfl,rfl⟩:=hw
 obtain⟨e,i,hu,hty,_⟩:=hA.elem T t ft hT
 have hxv:=jt h x
 rw[hx]at hxv
 have hev:a.eval x=Act.at_ a s':=hxv.ref.whole
 have hsl:=h.slot s'
 rw[hs]at hsl
 rcases hsl with⟨cs,hh,hrep⟩|⟨u,_,_,e,_⟩
 case inr=>cases e
 simp only[Holds]at hh
 subst hh
 obtain⟨ad,cap,g1,g2⟩:=jf3 hrep
 unfold stepW at hk
 rw[ho]at hk
 simp only at hk
 unfold winK at hk
 split at hk
 ·rename_i kb fb b km fm m hlo hhi hmx
  obtain rfl:lo=none:=by cases lo<;>simp_all
  cases hi with
  | none=>cases hhi
  | some y =>
   cases mx with
   | none=>cases hmx
   | some z =>
    simp only[Option.map_some,Option.some.injEq]at hhi hmx
    have hy:=jt h y
    have hz:=jt h z
    rw[hhi]at hy
    rw[hmx]at hz
    by_cases hc:0≤b∧b≤(xs.length:Int)∧m=b
    ·rw[decide_eq_true hc]at hk
     obtain⟨c1,c2,rfl⟩:=hc
     refine ji h (v := .win s' 0 m.toNat true) ?_ ⟨rfl,t,g,xs,ad,cap,hs,g1,Nat.zero_le _,Int.toNat_le.2 c2,g2,rfl⟩ hk
     unfold execOp
     simp only[ho,Instr.sliceAt,Instr.slice,Option.map_none,Option.map_some,Sem.run_bind,run_underlying hu,Result.andThen_ok,hev,g1,hy.int,hz.int,jcj c1 c2 g2,jai hty,Sem.run_pure,if_true]
    ·rw[decide_eq_false hc]at hk;cases hk
 ·rename_i ka fa l hlo hhi hmx
  obtain rfl:hi=none:=by cases hi<;>simp_all
  obtain rfl:mx=none:=by cases mx<;>simp_all
  cases lo with
  | none=>cases hlo
  | some y =>
   simp only[Option.map_some,Option.some.injEq]at hlo
   have hy:=jt h y
   rw[hlo]at hy
   by_cases hc:0≤l∧l≤(xs.length:Int)
   ·rw[decide_eq_true hc]at hk
    obtain⟨c1,c2⟩:=hc
    refine ji h (v := .win s' l.toNat xs.length false) ?_ ⟨rfl,t,g,xs,ad,cap,hs,g1,Int.toNat_le.2 c2,Nat.le_refl _,g2,rfl⟩ hk
    unfold execOp
    simp only[ho,Instr.sliceAt,Instr.slice,Option.map_none,Option.map_some,Sem.run_bind,run_underlying hu,Result.andThen_ok,hev,g1,hy.int,jci c1 c2,jai hty,Sem.run_pure,Bool.false_eq_true,if_false]
   ·rw[decide_eq_false hc]at hk;cases hk
 ·rename_i ka fa l hlo hhi hmx
  obtain rfl:lo=none:=by cases lo<;>simp_all
  obtain rfl:mx=none:=by cases mx<;>simp_all
  cases hi with
  | none=>cases hhi
  | some y =>
   simp only[Option.map_some,Option.some.injEq]at hhi
   have hy:=jt h y
   rw[hhi]at hy
   by_cases hc:0≤l∧l≤(xs.length:Int)
   ·rw[decide_eq_true hc]at hk
    obtain⟨c1,c2⟩:=hc
    refine ji h (v := .win s' 0 l.toNat false) ?_ ⟨rfl,t,g,xs,ad,cap,hs,g1,Nat.zero_le _,Int.toNat_le.2 c2,g2,rfl⟩ hk
    unfold execOp
    simp only[ho,Instr.sliceAt,Instr.slice,Option.map_none,Option.map_some,Sem.run_bind,run_underlying hu,Result.andThen_ok,hev,g1,hy.int,je8 c1 c2 g2,jai hty,Sem.run_pure,Bool.false_eq_true,if_false]
   ·rw[decide_eq_false hc]at hk;cases hk
 ·cases hk
theorem jlj (hA:CfgOk P A) (hS:SigOk P A){o:Oper}{k:St→Option ρ}{r:ρ}(h:Inv c own [] st a w) (hk:stepX A o st k=some r):OpGoal P c o k r a w:=by
 unfold stepX at hk
 split at hk
 ·rename_i hc
  exact jk6 hA hc h hk
 split at hk
 ·rename_i s n hw
  exact jhs hA h hw hk
 unfold prepK at hk
 split at hk
 ·split at hk
  ·rename_i s _
   obtain⟨own',h',_⟩:=jbk h s
   exact ug hA hS h' hk
  ·exact ug hA hS h hk
 ·split at hk
  ·rename_i s _
   split at hk
   ·rename_i t g y hs
    cases y with
    | none=>cases hk
    | some e =>
     rw[Option.bind_some]at hk
     have hsl:=h.slot s
     rw[hs]at hsl
     have h':=Inv.rewrite (E:=[]) (F:=[]) (G:=own s) (n:=⟨.ptr t,.o g,e⟩) (w':=w) (by simpa using h) (by rw[hs];rfl) rfl (fun _ _=>rfl) rfl rfl rfl rfl (fun _=>rfl) (fun b hb => .inl hb) (h.nd s) (fun N' hN'=>by
      rcases hsl with⟨cs,hh,hr⟩|⟨u,_,_,e,_⟩
      ·have hr:=hr.mono (N':=N') (fun b hb=>⟨hN' b (by simpa using hb),rfl⟩) fun _ _=>rfl
       exact .inl ⟨cs,hh,by simpa only [Rep] using hr⟩
      ·cases e)
     exact ug hA hS h' hk
   ·exact ug hA hS h hk
  ·exact ug hA hS h hk
 ·split at hk
  ·rename_i s _
   split at hk
   ·obtain⟨own',h',_⟩:=jbk h s
    exact ug hA hS h' hk
   ·exact ug hA hS h hk
  ·exact ug hA hS h hk
 ·exact ug hA hS h hk
theorem jeu (hA:CfgOk P A) (hS:SigOk P A){ops:Array Oper}{o:Oper}{k:St→Option ρ}{r:ρ}{Q:Exit→Act→World→Prop}{K:Act→World→Prop}{n:Nat}(hn:ops[n]? = some o) (hfx:∀n,o.dst=some n→c.fix n=none)
  (rest:∀own' st' a' w',k st'=some r→Inv c own' [] st' a' w'→K a' w') (h:Inv c own [] st a w) (hk:stepG A ops.toList o st k=some r):wpOp P ops Q n K a w :=
 jck (F:=stepX A o) hn (fun hk=>jlj hA hS h hk) hfx rest h hk
theorem jlh (hA:CfgOk P A) (hS:SigOk P A){PV:List Nat}{o:Oper}{k:St→Option ρ}{r:ρ}(h:Inv c own [] st a w) (hk:stepS A PV o st k=some r):OpGoal P c o k r a w:=by
 unfold stepS at hk
 split at hk
 case isFalse=>cases hk
 unfold stepF at hk
 split at hk
 ·rename_i x hx
  split at hk
  ·have ho:o.op = .assign x:=by
    unfold isAsg at hx
    split at hx
    ·rename_i y hy;cases hx;exact hy
    ·cases hx
   have hex:(execOp a.eval o).run P w = .ok (.value (a.eval x)) w:=by unfold execOp;simp[ho,Sem.run,pure]
   unfold moveS at hk
   obtain⟨own',F,st',t,f,y,hk,hinv,hrep,_⟩:=jbr h (jt h x) hk
   rw[List.append_nil]at hinv hrep
   exact qq hinv hex (v := .val t f y) hrep hk
  ·exact ug hA hS h hk
 ·split at hk
  ·rename_i s n hw
   exact jhs hA h hw hk
  ·exact ug hA hS h hk
theorem jkd (hA:CfgOk P A) (hS:SigOk P A){PV:List Nat}{ops:Array Oper}{o:Oper}{k:St→Option ρ}{r:ρ}{Q:Exit→Act→World→Prop}{K:Act→World→Prop}{n:Nat}(hn:ops[n]? = some o) (hfx:∀n,o.dst=some n→c.fix n=none)
  (rest:∀own' st' a' w',k st'=some r→Inv c own' [] st' a' w'→K a' w') (h:Inv c own [] st a w) (hk:stepGS A PV ops.toList o st k=some r):wpOp P ops Q n K a w :=
 jck (F:=stepS A PV o) hn (fun hk=>jlh hA hS h hk) hfx rest h hk
theorem jia {all:List Oper}{o:Oper}{os:List Oper}{k:St→Option ρ}:runOps A all (o::os) st k=stepG A all o st fun st'=>runOps A all os st' k:=rfl
theorem jdx (hA:CfgOk P A) (hS:SigOk P A){ops:Array Oper}{k:St→Option ρ}{r:ρ}{Q:Exit→Act→World→Prop}
  (hQ:∀own' st' a' w',k st'=some r→Inv c own' [] st' a' w'→Q .normal a' w'):∀{os:List Oper} {n:Nat} {own:Nat→List Nat} {st:St} {a:Act} {w:World},(∀j o,os[j]? = some o→ops[n+j]? = some o)→(∀o∈os,∀n,o.dst=some n→c.fix n=none) →
  Inv c own [] st a w→runOps A ops.toList os st k=some r→wpOps P ops Q (List.range' n os.length) a w
 | [],n,own,st,a,w,_,_,h,hk=>hQ own st a w hk h
 | o::os,n,own,st,a,w,hos,hfx,h,hk=>by
  have h0:ops[n]? = some o:=by simpa using hos 0 o rfl
  have hos':∀j o',os[j]? = some o'→ops[n+1+j]? = some o':=by
   intro j o' ho'
   have:=hos (j+1) o' (by simpa using ho')
   rw[Nat.add_assoc,Nat.add_comm 1];exact this
  simp only[List.length_cons,List.range'_succ]
  rw[wpOps_cons]
  rw[jia]at hk
  exact jeu hA hS h0 (hfx o List.mem_cons_self) (fun own' st' a' w' hk h=>jdx hA hS hQ hos' (fun o' ho'=>hfx o' (List.mem_cons_of_mem _ ho')) h hk) h hk
end
end Go.Gx
