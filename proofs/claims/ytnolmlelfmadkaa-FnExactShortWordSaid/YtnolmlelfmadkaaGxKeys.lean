import Derived.Test.YtnolmlelfmadkaaGxMap
import Derived.ChangeKeysEq
set_option linter.unusedSimpArgs false
set_option linter.unusedVariables false
namespace Go.Gx
open Go
section
variable {P:Program} {w:World}
def rowL (q:IntKind):(n:Nat)→(rowTy (.int q) n).den→List Int
 | 0,_=>[]
 | n+1,x=>(show Int from x.1)::rowL q n x.2
theorem jdb (q:IntKind):∀(n:Nat) (x:(rowTy (.int q) n).den),(rowL q n x).length=n
 | 0,_=>rfl
 | n+1,x=>by simp[rowL,jdb q n]
theorem jf6 (q:IntKind):∀(n:Nat) (x:(rowTy (.int q) n).den),flatV (rowTy (.int q) n) x=(rowL q n x).map (.int q)
 | 0,_=>rfl
 | n+1,x=>by
  show flatV (.int q) x.1++flatV (rowTy (.int q) n) x.2=_
  rw[jf6 q n]
  rfl
theorem jhm (q:IntKind):∀n:Nat,(rowTy (.int q) n).flat=true
 | 0=>rfl
 | n+1=>by
  show(true&&(rowTy (.int q) n).flat)=true
  rw[jhm q n];rfl
theorem jbz (q:IntKind):∀(n:Nat) (x:(rowTy (.int q) n).den),one (rowTy (.int q) n) x = .agg ((rowL q n x).map (.int q)).toArray
 | 0,_=>rfl
 | n+1,x=>by rw[←jf6];rfl
theorem jhl (q:IntKind):∀(n:Nat) (x y:(rowTy (.int q) n).den),eqD (rowTy (.int q) n) x y=decide (rowL q n x=rowL q n y)
 | 0,_,_=>rfl
 | n+1,x,y=>by
  show(eqD (.int q) x.1 y.1&&eqD (rowTy (.int q) n) x.2 y.2)=_
  rw[jhl q n]
  simp only[eqD,rowL,List.cons.injEq,Bool.decide_and]
theorem jhk (q:IntKind):∀(n:Nat) (x y:(rowTy (.int q) n).den),rowL q n x=rowL q n y→x=y
 | 0,_,_,_=>rfl
 | n+1,(a,x),(b,y),h=>by
  simp only[rowL,List.cons.injEq]at h
  have h2:=jhk q n x y h.2
  have h1:a=b:=h.1
  rw[h1,h2]
theorem jf9 {e:TypeId}{q:IntKind}(he:P.underlying e=some (.int q)) (d:Nat){l l':List Int}{n:Nat}(hl:l.length=n) (hl':l'.length=n):∀(m s:Nat),s+m=n →
  (Op.eqItems (d+1) e 1 (l.map (Value.int q)).toArray (l'.map (Value.int q)).toArray (List.range' s m)).run P w = .ok (decide (l.drop s=l'.drop s)) w
 | 0,s,h=>by
  rw[List.drop_eq_nil_of_le (by omega),List.drop_eq_nil_of_le (by omega)]
  simp[Op.eqItems]
 | m+1,s,h=>by
  have hp:P.plainKey e=true:=by simp[Program.plainKey,he]
  have hs:s<l.length:=by omega
  have hs':s<l'.length:=by omega
  have p1:=run_part_plain w hp (xs:=(l.map (Value.int q)).toArray) (off:=s*1) (v := .int q l[s]) (by simp[hs])
  have p2:=run_part_plain w hp (xs:=(l'.map (Value.int q)).toArray) (off:=s*1) (v := .int q l'[s]) (by simp[hs'])
  have p3:(Op.equalIn (d+1) e (.int q l[s]) (.int q l'[s])).run P w = .ok (l[s]==l'[s]) w:=run_equalIn_int w d e q q _ _ he
  rw[List.range'_succ]
  simp only[Op.eqItems,Sem.run_bind,p1,p2,p3,Result.andThen_ok]
  rw[List.drop_eq_getElem_cons hs,List.drop_eq_getElem_cons hs']
  by_cases hx:l[s]=l'[s]
  ·rw[if_neg (by simp[hx]),jf9 he d hl hl' m (s+1) (by omega)]
   simp only[hx,List.cons.injEq,true_and]
  ·rw[if_pos (by simp[hx])]
   simp only[List.cons.injEq,hx,false_and,decide_false,Sem.run_pure]
theorem jcg {T e:TypeId}{q:IntKind}{n:Nat}{i:TypeInfo}(hu:P.underlying T=some (.array n e)) (he:P.underlying e=some (.int q)) (hi:P.info? e=some i) (hs:i.size=1) (d:Nat) (x y:(rowTy (.int q) n).den) :
  (Op.equalIn (d+2) T (one _ x) (one _ y)).run P w = .ok (eqD _ x y) w:=by
 have hc:P.cellsOf e=1:=by simp[Program.cellsOf,hi,hs]
 rw[jbz,jbz,run_equalIn_array w (d+1) _ _ hu hi,hc,List.range_eq_range',jf9 he d (jdb q n x) (jdb q n y) n 0 (by omega),jhl]
 simp
theorem jgi {T e:TypeId}{q:IntKind}{n:Nat}{i:TypeInfo}(hu:P.underlying T=some (.array n e)) (he:P.underlying e=some (.int q)) (hi:P.info? e=some i) (hs:i.size=1) (em:Bool) (d:Nat) (x:(rowTy (.int q) n).den) :
  (Instr.checkKey em (d+2) T (one _ x)).run P w = .ok () w:=by
 have hc:P.cellsOf e=1:=by simp[Program.cellsOf,hi,hs]
 have hp:P.plainKey e=true:=by simp[Program.plainKey,he]
 rw[jbz]
 generalize hl:rowL q n x=l
 have hlen:l.length=n:=by rw[←hl];exact jdb q n x
 unfold Instr.checkKey
 simp only[Sem.run_bind,run_underlying hu,Result.andThen_ok]
 simp only[Std.Legacy.Range.forIn_eq_forIn_range',Std.Legacy.Range.size,Nat.sub_zero,Nat.add_one_sub_one,Nat.div_one]
 have key:∀(m s:Nat),s+m=n→(forIn (List.range' s m) PUnit.unit fun i (r:PUnit)=>do
   let __do_lift ←sizeOf e
   let __do_lift ←part e (l.map (Value.int q)).toArray (i*__do_lift)
   Instr.checkKey em (d+1) e __do_lift
   pure (ForInStep.yield PUnit.unit):Sem PUnit).run P w = .ok PUnit.unit w:=by
  intro m
  induction m with
  | zero=>intro s _;simp[Sem.run_pure]
  | succ m ih =>
   intro s h
   have hsl:s<l.length:=by omega
   have p0:(sizeOf e).run P w = .ok 1 w:=by rw[run_sizeOf w hi,hc]
   have p1:=run_part_plain w hp (xs:=(l.map (Value.int q)).toArray) (off:=s*1) (v := .int q l[s]) (by simp[hsl])
   have p2:(Instr.checkKey em (d+1) e (.int q l[s])).run P w = .ok () w:=by
    unfold Instr.checkKey
    simp only[Sem.run_bind,run_underlying he,Result.andThen_ok,Sem.run_pure]
   rw[List.range'_succ]
   simp only[List.forIn_cons,Sem.run_bind,p0,p1,p2,Result.andThen_ok,Sem.run_pure]
   exact ih (s+1) (by omega)
 have hk:=key n 0 (by omega)
 simp at hk
 simp[hk]
theorem jl0 {T e:TypeId}{q:IntKind}{n:Nat}{i:TypeInfo}(hu:P.underlying T=some (.array n e)) (he:P.underlying e=some (.int q)) (hi:P.info? e=some i) (hs:i.size=1):KeyOk P T (rowTy (.int q) n):=by
 refine⟨fun em a w=>jgi hu he hi hs em 9998 a,fun a m es w h => ?_,fun a b h => ?_,fun a w => ?_⟩
 ·have ask:∀(m:List ((rowTy (.int q) n).den×Value)) (es:List MapEntry) (j:Nat),es.map (fun e=>(e.key,e.val))=m.map (fun p=>(one _ p.1,p.2))→(Instr.findAsking T (one _ a) es j).run P w = .ok (mfind _ a m j) w:=by
   intro m
   induction m with
   | nil =>
    intro es j h
    cases es with
    | nil=>simp[Instr.findAsking,mfind]
    | cons _ _=>simp at h
   | cons p m ih =>
    intro es j h
    cases es with
    | nil=>simp at h
    | cons e0 es =>
     simp only[List.map_cons,List.cons.injEq,Prod.mk.injEq]at h
     have hq:(Op.equal T (one _ a) e0.key).run P w = .ok (eqD _ a p.1) w:=by
      rw[h.1.1];exact jcg hu he hi hs 9998 a p.1
     simp only[Instr.findAsking,Sem.run_bind,hq,Result.andThen_ok,mfind]
     cases eqD (rowTy (.int q) n) a p.1 with
     | true=>simp[h.1.2]
     | false=>simpa using ih es (j+1) h.2
  have e1:(Instr.findKey T (one _ a) es).run P w=(Instr.findAsking T (one _ a) es).run P w:=by
   cases es with
   | nil=>simp[Instr.findKey,run_underlying hu,Instr.findNow,Instr.findAsking]
   | cons e es=>simp[Instr.findKey,run_underlying hu,Instr.findNow,Instr.sameNow]
  rw[e1]
  exact ask m es 0 h
 ·rw[jhl,decide_eq_true_eq]at h
  rw[jhk q n a b h]
 ·unfold Instr.keyThatStays
  rw[if_pos,Sem.run_pure]
  rw[jbz]
  have key:∀(k:Nat) (l:List Int),Instr.sameBits (k+2) (.agg (l.map (Value.int q)).toArray) (.agg (l.map (Value.int q)).toArray)=true:=by
   intro k l
   simp only[Instr.sameBits,Bool.and_eq_true,beq_self_eq_true,true_and,List.all_eq_true,List.toList_toArray]
   intro p hp
   have:∀l:List Int,∀p∈(l.map (Value.int q)).zip (l.map (Value.int q)),∃z,p=(.int q z,.int q z):=by
    intro l
    induction l with
    | nil=>simp
    | cons z l ih =>
     intro p hp
     simp only[List.map_cons,List.zip_cons_cons,List.mem_cons]at hp
     rcases hp with rfl|hp
     ·exact⟨z,rfl⟩
     ·exact ih p hp
   obtain⟨z,rfl⟩:=this l p hp
   simp[Instr.sameBits]
  exact key 9998 _
theorem bytesEq (x y:List UInt8):((⟨x.toArray⟩:ByteArray)==⟨y.toArray⟩)=decide (x=y):=by
 rw[Bool.eq_iff_iff,decide_eq_true_eq]
 show(x.toArray==y.toArray)=true↔x=y
 simp
theorem jil {T:TypeId}{k:Ty}{d:TypeDesc}(hu:P.underlying T=some d) (hk:∀a em n w,(Instr.checkKey em (n+1) T (one k a)).run P w = .ok () w) (hs:∀a b,Instr.sameNow d (one k a) (one k b)=some (eqD k a b)) (hi:∀a b,eqD k a b=true→one k b=one k a) (hb:∀a,Instr.sameBits 10000 (one k a) (one k a)=true):KeyOk P T k:=by
 refine⟨fun em a w=>hk a em 9999 w,fun a m es w h => ?_,hi,fun a w => ?_⟩
 ·have now:∀(m:List (k.den×Value)) (es:List MapEntry) (j:Nat),es.map (fun e=>(e.key,e.val))=m.map (fun p=>(one k p.1,p.2))→Instr.findNow d (one k a) es j=some (mfind k a m j):=by
   intro m
   induction m with
   | nil =>
    intro es j h
    cases es with
    | nil=>rfl
    | cons _ _=>simp at h
   | cons p m ih =>
    intro es j h
    cases es with
    | nil=>simp at h
    | cons e0 es =>
     simp only[List.map_cons,List.cons.injEq,Prod.mk.injEq]at h
     simp only[Instr.findNow,h.1.1,hs,mfind]
     cases eqD k a p.1 with
     | true=>simp[h.1.2]
     | false=>simpa using ih es (j+1) h.2
  simp[Instr.findKey,run_underlying hu,now m es 0 h]
 ·unfold Instr.keyThatStays
  rw[if_pos (hb a),Sem.run_pure]
theorem jlz {T:TypeId}{q:IntKind}(hu:P.underlying T=some (.int q)):KeyOk P T (.int q):=by
 refine jil hu (fun a em n w => ?_) (fun a b => ?_) (fun a b h => ?_) (fun a => ?_)
 ·unfold Instr.checkKey
  simp only[one,Sem.run_bind,run_underlying hu,Result.andThen_ok,Sem.run_pure]
 ·simp only[one,Instr.sameNow,if_true,eqD]
  congr 1
 ·simp only[eqD,decide_eq_true_eq]at h
  have h:a=b:=h
  rw[h]
 ·simp[one,Instr.sameBits]
theorem jl1 {T:TypeId}(hu:P.underlying T=some .string):KeyOk P T .str:=by
 refine jil hu (fun a em n w => ?_) (fun a b => ?_) (fun a b h => ?_) (fun a => ?_)
 ·unfold Instr.checkKey
  simp only[one,Sem.run_bind,run_underlying hu,Result.andThen_ok,Sem.run_pure]
 ·simp only[one,Instr.sameNow,eqD]
  rw[bytesEq]
 ·simp only[eqD,decide_eq_true_eq]at h
  have h:a=b:=h
  rw[h]
 ·simp only[one,Instr.sameBits]
  rw[bytesEq]
  simp
theorem jml {T e:TypeId}{q:IntKind}{n:Nat}{i:TypeInfo}(hu:P.underlying T=some (.array n e)) (he:P.underlying e=some (.int q)) (hi:P.info? e=some i) (hs:i.size=1) (hg:P.eqGuardType P.depth T=false):EqOk P T (rowTy (.int q) n):=by
 refine⟨jhm q n,fun a b w=>⟨jcg hu he hi hs 9998 a b,fun op x y => ?_⟩⟩
 rw[jbz,jbz]
 unfold eqGuard
 cases op<;>simp[Sem.run_bind,run_program,hg,Result.andThen_ok,Sem.run_pure]
def isIntT (P:Program) (e:TypeId) (q:IntKind):Bool:=(match P.underlying e with|some (.int k)=>decide (k=q)|_=>false)&&match P.info? e with|some i=>decide (i.size=1)|none=>false
theorem jfp {e:TypeId}{q:IntKind}(h:isIntT P e q=true):P.underlying e=some (.int q)∧∃i,P.info? e=some i∧i.size=1:=by
 unfold isIntT at h
 simp only[Bool.and_eq_true]at h
 obtain⟨h1,h2⟩:=h
 refine⟨?_, ?_⟩
 ·split at h1
  ·rename_i k hk;simp only[decide_eq_true_eq]at h1;rw[hk,h1]
  ·cases h1
 ·split at h2
  ·rename_i i hi;exact⟨i,hi,by simpa using h2⟩
  ·cases h2
def rowN:Ty→Nat
 | .pair _ b=>rowN b+1
 | _=>0
def rowK:Ty→IntKind
 | .pair (.int q) _=>q
 | _ => .i64
def keyChk (P:Program) (K:TypeId) (k:Ty):Bool:=match P.underlying K with
 | some (.int q)=>decide (k = .int q)
 | some .string=>decide (k = .str)
 | some (.array n e)=>decide (k=rowTy (.int (rowK k)) n)&&isIntT P e (rowK k)
 | _=>false
theorem jjs {K:TypeId}{k:Ty}(h:keyChk P K k=true):KeyOk P K k:=by
 unfold keyChk at h
 split at h
 ·rename_i q hu;simp only[decide_eq_true_eq]at h;rw[h];exact jlz hu
 ·rename_i hu;simp only[decide_eq_true_eq]at h;rw[h];exact jl1 hu
 ·rename_i n e hu
  simp only[Bool.and_eq_true,decide_eq_true_eq]at h
  obtain⟨h1,h2⟩:=h
  obtain⟨he,i,hi,hs⟩:=jfp h2
  rw[h1]
  exact jl0 hu he hi hs
 ·cases h
def eqChk (P:Program) (T:TypeId) (q:IntKind) (n:Nat):Bool:=match P.underlying T with
 | some (.array m e)=>decide (m=n)&&isIntT P e q && !P.eqGuardType P.depth T
 | _=>false
theorem jku {T:TypeId}{q:IntKind}{n:Nat}(h:eqChk P T q n=true):EqOk P T (rowTy (.int q) n):=by
 unfold eqChk at h
 split at h
 case h_2=>cases h
 rename_i m e hu
 simp only[Bool.and_eq_true,decide_eq_true_eq,Bool.not_eq_true']at h
 obtain⟨⟨rfl,h2⟩,h3⟩:=h
 obtain⟨he,i,hi,hs⟩:=jfp h2
 exact jml hu he hi hs h3
end
end Go.Gx
