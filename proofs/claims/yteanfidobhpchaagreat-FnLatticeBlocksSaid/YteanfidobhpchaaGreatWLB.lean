import Derived.Test.YteanfidobhpchaaGreatGLBp3
import Derived.Test.YteanfidobhpchaaGreatPBlk
import Derived.KernelRfl
import Derived.WalkKit
import Derived.WalkSpells
import Derived.BigCall
import Derived.Deep.QuietTactic
import Derived.Deep.RegionHeld3
import Derived.Deep.RegionLaw
import Derived.BigRegion
import Derived.RegionTactic
import Derived.Below
import Derived.LoopTactic
import Derived.Deep.DeepCutAuto
set_option linter.unusedVariables false
set_option linter.unusedSimpArgs false
set_option maxRecDepth 100000
namespace Go.Proofs.YteanfidobhpchaaGreat
open Go Go.Gx Go.Proofs Go.RowKit
def RdB (W:World) (a:Option Addr) (xs:List Int):Prop:=∀(j:Nat) (y:Int),xs[j]? = some y→∃b o,a=some ⟨b,o,none⟩∧b<W.heap.size∧W.cell? ⟨b,o+j,none⟩=some (.int .i64 y)
theorem BO.i3:(Tryz.prog.info? 3).map (fun i=>(i.zero,i.size,i.bytes))=some (some (.int .i64 0),1,8):=by kernel_rfl
theorem BO.i25:(Tryz.prog.info? 27).map (fun i=>(i.zero,i.size,i.bytes))=some (some (.slice none 0 0),1,24):=by kernel_rfl
theorem wkj {P:Program}{w:World}{ops:Array Oper}{o:Oper}{a:Act}{K:Act→World→Prop}{Q:Exit→Act→World→Prop}{E:Prop}(hgd:o.guard=none) (s x:Operand) (t:TypeId)
  (ho:o.op = .call { callee := .builtin .append,args := #[s,x],argTypes := #[t,t] }) (e:TypeId) (i:TypeInfo) (z:Value) (ht:P.underlying t=some (.slice e)) (hi:P.info? e=some i) (hz:i.zero=some z) (hzs:z.cells.size=i.size)
  (v xv:Value) (hs:a.eval s=v) (hx:a.eval x=xv) {n m:Nat} {olds news:List Value} {ob:Option Nat} (hv:BaseOk w i.size n v olds ob) (hsrc:SrcOk w i.size m xv news) (h63:n+m≤maxLen) (hby:(n+m)*i.bytes≤140737488355328)
  (hm:0<n+m) (h:∀g cp w',BaseOk w' i.size (n+m) (.slice (some ⟨g,0,none⟩) (n+m) cp) (olds++news) (some g)→((some g=ob∧w'.heap.size=w.heap.size)∨(g=w.heap.size∧w'.heap.size=w.heap.size+1))→(∀b,b<w.heap.size→some b≠ob→w'.heap[b]? = w.heap[b]?) →
   w'.os=w.os→w'.tape=w.tape→w'.output=w.output→(∀a,w'.frozen? a=w.frozen? a)→K (a.put o.dst (.slice (some ⟨g,0,none⟩) (n+m) cp)) w') :
  if Region.wanted o (yielded ops a.tmps)=true then Oper.wp P o a w K Q else E:=by
 have hw:Region.wanted o (yielded ops a.tmps)=true:=by simp[Region.wanted,hgd]
 rw[if_pos hw]
 obtain⟨v',w',ob',hrun,h1,h2,h3,h4,h5,h6,h7⟩:=jba (ty:=o.type) ht ht hi hz hzs hv hsrc h63 hby
 cases ob' with
 | none=>exact absurd h1.2.1 (by omega)
 | some g =>
 have h1':=h1
 obtain⟨cp,arr,e',rfl,_⟩:=h1
 refine qy (v := .slice (some ⟨g,0,none⟩) (n+m) cp) (w':=w') ?_ (h g cp w' h1' (h2.imp id fun q=>⟨Option.some.inj q.1,q.2⟩) h3 h4 h5 h6 h7)
 unfold execOp
 have e1 : #[s,x].map a.eval = #[v,xv]:=by simp[hs,hx]
 simp only[ho,resolve,invoke,builtin,Sem.run_bind,Sem.run_pure,Result.andThen_ok,e1,hrun]
structure BI (W w':World) (pl:List Int) (hv:Value) (bl:List Y4):Prop where
 place:w'.heap[W.heap.size]? = some (.cells (pl.map (Value.int .i64)).toArray 3 (0,0))
 rows:∃F,Rep w' (fun _=>False) (.sl Q23) O16 bl [hv] F∧F.Nodup∧W.heap.size ∉ F∧∀b∈F,W.heap.size≤b
 old:∀b,b<W.heap.size→w'.heap[b]? = W.heap[b]?
 grow:W.heap.size<w'.heap.size
 os:w'.os=W.os
 tape:w'.tape=W.tape
 output:w'.output=W.output
theorem wkb {p:List Int}:∀{i:Nat}{s:List Int×List Y4},blkL p i=some s→s.1.length=p.length
 | 0,s,h=>by simp only[blkL,Option.some.injEq]at h;subst h;simp
 | i+1,s,h=>by
  rw[blkL]at h
  obtain⟨s0,h0,h⟩:=Option.bind_eq_some_iff.1 h
  obtain⟨x,_,h⟩:=Option.bind_eq_some_iff.1 h
  have l0:=wkb h0
  unfold blkStep at h
  obtain⟨j,_,h⟩:=Option.bind_eq_some_iff.1 h
  obtain⟨row,_,h⟩:=Option.bind_eq_some_iff.1 h
  simp only[Option.some.injEq]at h
  subst h
  show(if x=(i:Int) then(s0.1.set i (s0.2.length:Int),s0.2++[[]]) else s0).1.length=_
  split
  ·simp[l0]
  ·exact l0
theorem wa5 {p:List Int}:∀{i:Nat}{s:List Int×List Y4},blkL p i=some s→s.2.length≤i∧∀r∈s.2,r.length≤i
 | 0,s,h=>by simp only[blkL,Option.some.injEq]at h;subst h;simp
 | i+1,s,h=>by
  rw[blkL]at h
  obtain⟨s0,h0,h⟩:=Option.bind_eq_some_iff.1 h
  obtain⟨x,_,h⟩:=Option.bind_eq_some_iff.1 h
  obtain⟨l0,r0⟩:=wa5 h0
  unfold blkStep at h
  obtain⟨j,_,h⟩:=Option.bind_eq_some_iff.1 h
  obtain⟨row,hr,h⟩:=Option.bind_eq_some_iff.1 h
  simp only[Option.some.injEq]at h
  subst h
  have key:∀b2:List Y4,b2=(if x=(i:Int) then(s0.1.set i (s0.2.length:Int),s0.2++[[]]) else s0).2→b2.length≤i+1∧∀r∈b2,r.length≤i:=by
   intro b2 e
   subst e
   split
   ·refine⟨by simp;omega,fun r hr => ?_⟩
    rcases List.mem_append.1 hr with q|q
    ·exact r0 r q
    ·rw[List.mem_singleton]at q;rw[q];simp
   ·exact⟨by omega,r0⟩
  obtain⟨k1,k2⟩:=key _ rfl
  refine⟨by rw[List.length_set];exact k1,fun r hr' => ?_⟩
  have hrow:row.length≤i:=by
   unfold atI at hr
   split at hr
   ·exact k2 row (List.mem_of_getElem? hr)
   ·cases hr
  rcases List.mem_or_eq_of_mem_set hr' with q|q
  ·have:=k2 r q;omega
  ·rw[q,List.length_append,List.length_singleton];omega
theorem BI.init (W:World) (n:Nat):BI W ((W.alloc (.cells (madeCells #[Value.int .i64 0] n) 3)).alloc (.cells #[] 27)) (List.replicate n 0) (.slice (some ⟨W.heap.size+1,0,none⟩) 0 0) []:=by
 have h1:((W.alloc (.cells (madeCells #[Value.int .i64 0] n) 3)).alloc (.cells #[] 27)).heap[W.heap.size]? = some (.cells (madeCells #[Value.int .i64 0] n) 3 (0,0)):=by
  rw[jw _ _ _ (by simp)];exact heap_alloc_new W _
 have hsz:(W.alloc (.cells (madeCells #[Value.int .i64 0] n) 3)).heap.size=W.heap.size+1:=by simp
 have h2:((W.alloc (.cells (madeCells #[Value.int .i64 0] n) 3)).alloc (.cells #[] 27)).heap[W.heap.size+1]? = some (.cells #[] 27 (0,0)):=by
  rw[←hsz];exact heap_alloc_new _ _
 refine⟨?_,⟨[W.heap.size+1], ?_,by simp,by simp,by simp⟩,fun b hb => ?_,by simp;omega,rfl,rfl,rfl⟩
 ·rw[h1]
  have e:madeCells #[Value.int .i64 0] n=((List.replicate n 0).map (Value.int .i64)).toArray:=by
   apply Array.ext'
   simp[madeCells,Nat.mod_one,List.map_const',List.map_replicate]
  rw[e]
 ·exact .inr ⟨W.heap.size+1,0, #[],27,[],rfl,h2,by simp,by simp,by simp[maxLen],rfl,rfl⟩
 ·rw[jw _ _ _ (by simp;omega),jw _ _ _ hb]
theorem vu {w:World}{b o:Nat}{v:Value}{arr:Array Value}{e:TypeId}{fr:Nat×Nat}(h:w.heap[b]? = some (.cells arr e fr)) (k:Nat) :
  (w.setCell ⟨b,o,none⟩ v).heap[k]? = if k=b then some (.cells (arr.setIfInBounds o v) e fr) else w.heap[k]? := by
 unfold World.setCell
 simp only[Array.getElem?_modify]
 by_cases c:b=k
 ·subst c
  rw[if_pos rfl,if_pos rfl,h];rfl
 ·rw[if_neg c,if_neg (Ne.symm c)]
theorem jb8 {w:World}{N:T12}:∀{row:List Int}{cs:List Value}{F:List Nat},RepL (Rep w N (.int .i64) .i) 1 row cs F→cs.length=row.length→cs=row.map (Value.int .i64)
 | [],cs,F,_,h=>List.eq_nil_of_length_eq_zero h
 | x::row,cs,F,⟨F1,F2,_,hl,hx,hr⟩,h=>by
  cases cs with
  | nil=>simp at hl
  | cons c cs =>
   have hx:[c]=[Value.int .i64 x]∧F1=[]:=hx
   have e1:=jb8 (w:=w) (N:=N) hr (by simpa using h)
   rw[List.map_cons,←e1]
   simp at hx
   rw[hx.1];rfl
theorem jbj {w:World}{N:T12}:∀(row:List Int),RepL (Rep w N (.int .i64) .i) 1 row (row.map (Value.int .i64)) []
 | []=>rfl
 | x::row=>⟨[],[],rfl,by simp,⟨rfl,rfl⟩,jbj row⟩
theorem BI.row {W w:World}{pl:List Int}{hv:Value}{bl:List Y4}(h:BI W w pl hv bl){j:Nat}{row:List Int}(hj:bl[j]? = some row) :
  ∃(bb cap:Nat) (hdr:Value) (ob:Option Nat) (olds:List Value),hv = .slice (some ⟨bb,0,none⟩) bl.length cap∧w.cell? ⟨bb,j,none⟩=some hdr∧bb<w.heap.size∧w.frozen? ⟨bb,j,none⟩=false∧BaseOk w 1 row.length hdr olds ob∧ob≠some bb∧ob≠some W.heap.size ∧
   (∀b,ob=some b→b<w.heap.size) ∧
   ∀(gg cp:Nat) (y:Int) (w1:World),BaseOk w1 1 (row.length+1) (.slice (some ⟨gg,0,none⟩) (row.length+1) cp) (olds++[.int .i64 y]) (some gg)→(some gg=ob∨w.heap.size≤gg) →
    (∀b,b<w.heap.size→some b≠ob→w1.heap[b]? = w.heap[b]?)→w.heap.size≤w1.heap.size→w1.os=w.os→w1.tape=w.tape→w1.output=w.output →
    BI W (w1.setCell ⟨bb,j,none⟩ (.slice (some ⟨gg,0,none⟩) (row.length+1) cp)) pl hv (bl.set j (row++[y])):=by
 obtain⟨h1,⟨F,hrep,hnd,hWF,hFW⟩,h3,h4,h5,h6,h7⟩:=h
 have hlt:∀b∈F,b<w.heap.size:=fun b hb=>Rep.lt hrep b hb
 simp only[Rep]at hrep
 rcases hrep with⟨rfl,_⟩|⟨bb,cap,arr,e,G,q1,q2,q3,q4,q5,rfl,q7⟩
 ·simp at hj
 simp only[List.cons.injEq,and_true]at q1
 subst q1
 obtain⟨F1,F0,F2,eG,hb1,hrow,hset⟩:=q7.focus hj
 subst eG
 have hjl:j+1≤arr.toList.length:=by simpa [Ty.cells] using hb1
 simp only[Ty.cells,Nat.mul_one]at hrow hset hb1
 obtain⟨hdr,hhdr⟩:∃hdr,arr.toList[j]? = some hdr:=⟨_,List.getElem?_eq_getElem (by omega)⟩
 have hseg:(arr.toList.drop j).take 1=[hdr]:=by
  rw[List.drop_eq_getElem_cons (by omega)]
  rw[List.getElem?_eq_getElem (by omega)]at hhdr
  simp[Option.some.inj hhdr]
 rw[hseg]at hrow
 have hrow':Rep w (fun _=>False) Q23 O4 row [hdr] F0:=by
  simpa only [Rep,Ty.cells,Nat.mul_one] using hrow
 obtain⟨ob,olds,G0,hbase,hbl,e0⟩:=jbm hrow'
 have hbb:bb<w.heap.size:=hlt bb (by simp)
 have hnd':=List.nodup_cons.1 hnd
 have hobm:∀b,ob=some b→b∈F1++F0++F2:=fun b hb=>by rw[e0,hb];simp
 have ne1:ob≠some bb:=fun q=>hnd'.1 (hobm bb q)
 have ne2:ob≠some W.heap.size:=fun q=>hWF (List.mem_cons_of_mem _ (hobm _ q))
 have hG0:G0=[]:=RepL.plainNil hbl
 have hcell:w.cell? ⟨bb,j,none⟩=some hdr:=by
  simp only[World.cell?,q2]
  simpa using hhdr
 have hfr:w.frozen? ⟨bb,j,none⟩=false:=by simp[World.frozen?,q2]
 refine⟨bb,cap,hdr,ob,olds,rfl,hcell,hbb,hfr,hbase,ne1,ne2,fun b hb=>hlt b (List.mem_cons_of_mem _ (hobm b hb)),fun gg cp y w1 k1 k2 k3 k4 k5 k6 k7 => ?_⟩
 have hF0:F0=ob.toList:=by rw[e0,hG0,List.append_nil]
 have hint:olds=row.map (Value.int .i64):=by
  have hl:=hbase.len
  simp only[Ty.cells,Nat.mul_one]at hl
  exact jb8 (w:=w) (N:=fun _=>False) (F:=G0) (by simpa only [Ty.cells] using hbl) hl
 have hw1bb:=(k3 bb hbb (Ne.symm ne1)).trans q2
 have hs:=vu (o:=j) (v:=Value.slice (some ⟨gg,0,none⟩) (row.length+1) cp) hw1bb
 have ggbb:gg≠bb:=by
  rcases k2 with q|q
  ·intro c;exact ne1 (by rw[←q,c])
  ·omega
 have ggge:W.heap.size≤gg∧gg≠W.heap.size:=by
  rcases k2 with q|q
  ·exact⟨hFW gg (List.mem_cons_of_mem _ (hobm gg q.symm)),fun c=>ne2 (by rw[←q,c])⟩
  ·omega
 have hWbb:W.heap.size≠bb:=fun c=>hWF (by rw[c];simp)
 have hnd3:=hnd'.2
 have far:∀b∈F1++F2,b<w.heap.size∧b≠bb∧some b≠ob:=fun b hb=>by
  have hm:b∈F1++F0++F2:=by
   rcases List.mem_append.1 hb with q|q<;>simp[q]
  refine⟨hlt b (List.mem_cons_of_mem _ hm),fun c=>hnd'.1 (by rw[←c];exact hm),fun c => ?_⟩
  have h0:b∈F0:=by rw[hF0,←c];simp
  rw[List.nodup_append,List.nodup_append]at hnd3
  rcases List.mem_append.1 hb with q|q
  ·exact hnd3.1.2.2 b q b h0 rfl
  ·exact hnd3.2.2 b (List.mem_append_right _ h0) b q rfl
 have ggF:gg ∉ F1++F2:=fun hm=>by
  obtain⟨a1,a2,a3⟩:=far gg hm
  rcases k2 with q|q
  ·exact a3 q
  ·omega
 generalize hw2:w1.setCell ⟨bb,j,none⟩ (Value.slice (some ⟨gg,0,none⟩) (row.length+1) cp)=w2 at hs ⊢
 have hsz:w2.heap.size=w1.heap.size:=by rw[←hw2];simp[World.setCell]
 have hkeep:∀b,b<w.heap.size→b≠bb→some b≠ob→w2.heap[b]? = w.heap[b]? := fun b a1 a2 a3=>by
  rw[hs b,if_neg a2,k3 b a1 a3]
 have hnew:Rep w2 (fun _=>False) Q23 O4 (row++[y]) [Value.slice (some ⟨gg,0,none⟩) (row.length+1) cp] [gg]:=by
  obtain⟨cap',arr',e',a1,a2,a3,a4,a5,a6⟩:=k1
  have hb2:BaseOk w2 (Ty.int .i64).cells (row++[y]).length (Value.slice (some ⟨gg,0,none⟩) (row.length+1) cp) ((row++[y]).map (Value.int .i64)) (some gg):=by
   refine⟨cap',arr',e',by rw[List.length_append];exact a1,by rw[hs gg,if_neg ggbb];exact a2,a3,by rw[List.length_append];exact a4,a5, ?_⟩
   rw[List.length_append,List.map_append,←hint];exact a6
  exact jbe hb2 (jbj (row++[y]))
 have hF2:∀b∈bb::(F1++[gg]++F2),W.heap.size≤b∧b≠W.heap.size:=fun b hb=>by
  rcases List.mem_cons.1 hb with c|c
  ·rw[c];exact⟨hFW bb (by simp),Ne.symm hWbb⟩
  ·by_cases q:b=gg
   ·rw[q];exact ggge
   ·have hm:b∈F1++F0++F2:=by
     simp only[List.mem_append,List.mem_singleton]at c ⊢
     rcases c with(c|c)|c
     ·exact .inl (.inl c)
     ·exact absurd c q
     ·exact .inr c
    exact⟨hFW b (List.mem_cons_of_mem _ hm),fun z=>hWF (by rw[←z];exact List.mem_cons_of_mem _ hm)⟩
 refine⟨?_,⟨bb::(F1++[gg]++F2), ?_, ?_,fun q=>(hF2 _ q).2 rfl,fun b hb=>(hF2 b hb).1⟩,fun b hb => ?_,by omega, ?_, ?_, ?_⟩
 ·rw[hkeep _ h4 hWbb (Ne.symm ne2)];exact h1
 ·have hr:=hset (Rep w2 (fun _=>False) Q23 O4) (row++[y]) [gg] [Value.slice (some ⟨gg,0,none⟩) (row.length+1) cp] rfl hnew (fun z ds G' hG hz=>by
   have hz':Rep w (fun _=>False) Q23 O4 z ds G':=by simpa only [Rep,Ty.cells,Nat.mul_one] using hz
   exact hz'.mono (fun b hb=>hb.elim) fun b hb=>by
    obtain⟨a1,a2,a3⟩:=far b (hG b hb)
    exact hkeep b a1 a2 a3)
  refine .inr ⟨bb,cap,arr.setIfInBounds j (Value.slice (some ⟨gg,0,none⟩) (row.length+1) cp),e,F1++[gg]++F2,by rw[List.length_set],by rw[hs bb,if_pos rfl],by simpa using q3,by rw[List.length_set];exact q4,q5,rfl, ?_⟩
  have he:(arr.setIfInBounds j (Value.slice (some ⟨gg,0,none⟩) (row.length+1) cp)).toList=arr.toList.take j++[Value.slice (some ⟨gg,0,none⟩) (row.length+1) cp]++arr.toList.drop (j+1):=by
   rw[Array.toList_setIfInBounds,List.set_eq_take_append_cons_drop,if_pos (by omega)];simp
  rw[he]
  exact hr
 ·refine List.nodup_cons.2 ⟨fun q => ?_, ?_⟩
  ·simp only[List.mem_append,List.mem_singleton]at q
   rcases q with(q|q)|q
   ·exact hnd'.1 (by simp[q])
   ·exact ggbb q.symm
   ·exact hnd'.1 (by simp[q])
  ·simp only[List.mem_append,not_or]at ggF
   rw[List.nodup_append,List.nodup_append]at hnd3
   rw[List.nodup_append,List.nodup_append]
   refine⟨⟨hnd3.1.1,by simp,fun a ha b hb => ?_⟩,hnd3.2.1,fun a ha b hb => ?_⟩
   ·rw[List.mem_singleton]at hb;rw[hb];exact fun c=>ggF.1 (c▸ha)
   ·rcases List.mem_append.1 ha with q|q
    ·exact hnd3.2.2 a (List.mem_append_left _ q) b hb
    ·rw[List.mem_singleton]at q;rw[q];exact fun c=>ggF.2 (c▸hb)
 ·rw[hkeep b (by omega) (fun c=>by have:=hFW bb (by simp);omega) (fun c=>by have:=hFW b (List.mem_cons_of_mem _ (hobm b c.symm));omega)];exact h3 b hb
 ·rw[←hw2];exact k5.trans h5
 ·rw[←hw2];exact k6.trans h6
 ·rw[←hw2];exact k7.trans h7
theorem BI.alloc {W w:World}{pl:List Int}{hv:Value}{bl:List Y4}(h:BI W w pl hv bl) (cs:Array Value) (t:TypeId):BI W (w.alloc (.cells cs t)).drew pl hv bl:=by
 obtain⟨h1,⟨F,hrep,hnd,hWF,hFW⟩,h3,h4,h5,h6,h7⟩:=h
 have hal:∀b,b<w.heap.size→(w.alloc (.cells cs t)).drew.heap[b]? = w.heap[b]? := fun b hb=>jw w _ b hb
 have hsz:(w.alloc (.cells cs t)).drew.heap.size=w.heap.size+1:=by
  show(w.alloc (.cells cs t)).heap.size=_
  simp
 exact⟨by rw[hal _ h4];exact h1,⟨F,hrep.mono (fun b hb=>hb.elim) fun b hb=>hal b (Rep.lt hrep b hb),hnd,hWF,hFW⟩,fun b hb=>by rw[hal b (by omega)];exact h3 b hb,by omega,h5,h6,h7⟩
theorem wi3 {P:Program}{w:World}{ops:Array Oper}{rest:List Oper}{o:Oper}{a:Act}{Q:Exit→Act→World→Prop}(hgd:o.guard=none) (s x:Operand) (t:TypeId)
  (ho:o.op = .call { callee := .builtin .append,args := #[s,x],argTypes := #[t,t] }) (e:TypeId) (i:TypeInfo) (z:Value) (ht:P.underlying t=some (.slice e)) (hi:P.info? e=some i) (hz:i.zero=some z) (hzs:z.cells.size=i.size)
  (v xv:Value) (hs:a.eval s=v) (hx:a.eval x=xv) {n m:Nat} {olds news:List Value} {ob:Option Nat} (hv:BaseOk w i.size n v olds ob) (hsrc:SrcOk w i.size m xv news) (h63:n+m≤maxLen) (hby:(n+m)*i.bytes≤140737488355328)
  (hm:0<n+m) (h:∀g cp w',BaseOk w' i.size (n+m) (.slice (some ⟨g,0,none⟩) (n+m) cp) (olds++news) (some g)→((some g=ob∧w'.heap.size=w.heap.size)∨(g=w.heap.size∧w'.heap.size=w.heap.size+1))→(∀b,b<w.heap.size→some b≠ob→w'.heap[b]? = w.heap[b]?) →
   w'.os=w.os→w'.tape=w.tape→w'.output=w.output→wpList P ops Q rest (a.put o.dst (.slice (some ⟨g,0,none⟩) (n+m) cp)) w') :
  wpList P ops Q (o::rest) a w:=by
 refine wpList_plain hgd fun K hK => ?_
 obtain⟨v',w',ob',hrun,h1,h2,h3,h4,h5,h6,h7⟩:=jba (ty:=o.type) ht ht hi hz hzs hv hsrc h63 hby
 cases ob' with
 | none=>exact absurd h1.2.1 (by omega)
 | some g =>
 have h1':=h1
 obtain⟨cp,arr,e',rfl,_⟩:=h1
 refine qy (v := .slice (some ⟨g,0,none⟩) (n+m) cp) (w':=w') ?_ (hK _ _ (h g cp w' h1' (h2.imp id fun q=>⟨Option.some.inj q.1,q.2⟩) h3 h4 h5 h6))
 unfold execOp
 have e1 : #[s,x].map a.eval = #[v,xv]:=by simp[hs,hx]
 simp only[ho,resolve,invoke,builtin,Sem.run_bind,Sem.run_pure,Result.andThen_ok,e1,hrun]
theorem jdk (w:World) (u:Value) (t:TypeId) (h1:u.oneCell'=true):SrcOk (w.alloc (.cells #[u] t)) 1 1 (.slice (some ⟨w.heap.size,0,none⟩) 1 1) [u]:=by
 refine⟨_,1,rfl,rfl,fun _=>⟨_,rfl,fun j v hv => ?_⟩,by simpa using h1⟩
 have hn:=heap_alloc_new w (.cells #[u] t)
 cases j with
 | zero =>
  simp only[List.getElem?_cons_zero,Option.some.injEq]at hv
  subst hv
  show(w.alloc (.cells #[u] t)).cell? ⟨w.heap.size,0+0,none⟩=_
  simp only[World.cell?,hn]
  rfl
 | succ j=>simp at hv
theorem jbn (w:World) (u:Value) (t:TypeId) (h1:u.oneCell'=true):SrcOk (w.alloc (.cells #[u] t)).drew 1 1 (.slice (some ⟨w.heap.size,0,none⟩) 1 1) [u]:=jdk w u t h1
theorem BI.hdr {W w:World}{pl:List Int}{hv:Value}{bl:List Y4}(h:BI W w pl hv bl):∃ad cap,hv = .slice ad bl.length cap:=by
 obtain⟨_,⟨F,hrep,_⟩,_⟩:=h
 simp only[Rep]at hrep
 rcases hrep with⟨rfl,e,_⟩|⟨bb,cap,arr,e,G,q1,_⟩
 ·exact⟨none,0,by simpa using e⟩
 ·exact⟨_,cap,by simpa using q1⟩
theorem BI.setPlace {W w:World}{pl:List Int}{hv:Value}{bl:List Y4}(h:BI W w pl hv bl) (i:Nat) (y:Int):BI W (w.setCell ⟨W.heap.size,i,none⟩ (.int .i64 y)) (pl.set i y) hv bl:=by
 obtain⟨h1,⟨F,hrep,hnd,hWF,hFW⟩,h3,h4,h5,h6,h7⟩:=h
 have hs:=vu (o:=i) (v:=Value.int .i64 y) h1
 have hsz:(w.setCell ⟨W.heap.size,i,none⟩ (.int .i64 y)).heap.size=w.heap.size:=by simp[World.setCell]
 refine⟨?_,⟨F,hrep.mono (fun b hb=>hb.elim) fun b hb => ?_,hnd,hWF,hFW⟩,fun b hb => ?_,by omega,h5,h6,h7⟩
 ·rw[hs,if_pos rfl]
  simp[List.map_set]
 ·rw[hs b,if_neg]
  rintro rfl;exact hWF hb
 ·rw[hs b,if_neg (by omega)];exact h3 b hb
theorem BI.push {W w:World}{pl:List Int}{hv:Value}{bl:List Y4}(h:BI W w pl hv bl){w2:World}(k2:∀b,b<w.heap.size→w2.heap[b]? = w.heap[b]?) (kn:w2.heap[w.heap.size]? = some (.cells #[] 3 (0,0))) (ks:w.heap.size<w2.heap.size)
  (ko:w2.os=w.os) (kt:w2.tape=w.tape) (ku:w2.output=w.output) :
  ∃(olds:List Value) (ob:Option Nat),BaseOk w2 1 bl.length hv olds ob ∧
   ∀(gg cp:Nat) (w1:World),BaseOk w1 1 (bl.length+1) (.slice (some ⟨gg,0,none⟩) (bl.length+1) cp) (olds++[.slice (some ⟨w.heap.size,0,none⟩) 0 0]) (some gg)→((some gg=ob∧w1.heap.size=w2.heap.size)∨(gg=w2.heap.size∧w1.heap.size=w2.heap.size+1)) →
    (∀b,b<w2.heap.size→some b≠ob→w1.heap[b]? = w2.heap[b]?)→w1.os=w2.os→w1.tape=w2.tape→w1.output=w2.output →
    BI W w1 pl (.slice (some ⟨gg,0,none⟩) (bl.length+1) cp) (bl++[[]]):=by
 obtain⟨h1,⟨F,hrep,hnd,hWF,hFW⟩,h3,h4,h5,h6,h7⟩:=h
 have hlt:∀b∈F,b<w.heap.size:=fun b hb=>Rep.lt hrep b hb
 have hrep2:Rep w2 (fun _=>False) (.sl Q23) O16 bl [hv] F:=hrep.mono (fun b hb=>hb.elim) fun b hb=>k2 b (hlt b hb)
 obtain⟨ob,olds,G,hbase,hbl,e0⟩:=jbm hrep2
 refine⟨olds,ob,hbase,fun gg cp w1 q1 q2 q3 q4 q5 q6 => ?_⟩
 subst e0
 have hoblt:∀b,ob=some b→b<w.heap.size:=fun b hb=>hlt b (by simp[hb])
 have hnd':=List.nodup_append.1 hnd
 have hob_ne:∀b∈G,some b≠ob:=fun b hb e=>hnd'.2.2 b (by simp[←e]) b hb rfl
 have keepG:∀b∈G,w1.heap[b]? = w2.heap[b]? := fun b hb=>q3 b (by have:=hlt b (by simp[hb]);omega) (hob_ne b hb)
 have kW:some w.heap.size≠ob:=fun e=>by have:=hoblt _ e.symm;omega
 have newk:w1.heap[w.heap.size]? = some (.cells #[] 3 (0,0)):=(q3 _ ks kW).trans kn
 have hGn:w.heap.size ∉ G:=fun hb=>by have:=hlt w.heap.size (by simp[hb]);omega
 have ggG:gg ∉ G∧gg≠w.heap.size:=by
  rcases q2 with⟨q,_⟩|⟨q,_⟩
  ·exact⟨fun hb=>hob_ne gg hb q,fun e=>by have:=hoblt gg q.symm;omega⟩
  ·exact⟨fun hb=>by have:=hlt gg (by simp[hb]);omega,by omega⟩
 have ggW:W.heap.size≤gg∧gg≠W.heap.size:=by
  rcases q2 with⟨q,_⟩|⟨q,_⟩
  ·have hm:gg∈ob.toList++G:=by simp[←q]
   exact⟨hFW gg hm,fun e=>hWF (e▸hm)⟩
  ·omega
 have hlen:(bl++[([]:List Int)]).length=bl.length+1:=by simp
 have hnewrow:Rep w1 (fun _=>False) Q23 O4 ([]:List Int) [.slice (some ⟨w.heap.size,0,none⟩) 0 0] [w.heap.size]:=by
  simp only[Rep]
  exact .inr ⟨_,0, #[],3,[],rfl,newk,by simp,by simp,by simp[maxLen],rfl,rfl⟩
 have hrl:RepL (Rep w1 (fun _=>False) Q23 O4) 1 (bl++[([]:List Int)]) (olds++[.slice (some ⟨w.heap.size,0,none⟩) 0 0]) (G++[w.heap.size]):=by
  have hl:=hbase.len
  simp only[Ty.cells,Nat.mul_one]at hl
  have hbl':RepL (Rep w1 (fun _=>False) Q23 O4) 1 bl olds G:=by
   refine RepL.mono (by simpa only [Ty.cells] using hbl) fun x ds G' hG hz => ?_
   have hz':Rep w2 (fun _=>False) Q23 O4 x ds G':=hz
   exact hz'.mono (fun b hb=>hb.elim) fun b hb=>keepG b (hG b hb)
  exact hbl'.app (by rw[hl,Nat.mul_one]) ⟨[w.heap.size],[],by simp,by simp,by simpa using hnewrow,rfl⟩
 have hbase1:BaseOk w1 (Ty.sl (.int .i64)).cells (bl++[([]:List Int)]).length (.slice (some ⟨gg,0,none⟩) (bl.length+1) cp) (olds++[.slice (some ⟨w.heap.size,0,none⟩) 0 0]) (some gg):=by
  rw[hlen];exact q1
 have hfin:=jbe hbase1 (N:=fun _=>False) (g := .o .i) (G:=G++[w.heap.size]) (by simpa only [Ty.cells] using hrl)
 refine⟨?_,⟨_,hfin, ?_, ?_, ?_⟩,fun b hb => ?_, ?_,q4.trans (ko.trans h5),q5.trans (kt.trans h6),q6.trans (ku.trans h7)⟩
 ·rw[q3 _ (by omega) (fun e=>hWF (by simp[←e])),k2 _ h4];exact h1
 ·simp only[Option.toList_some,List.cons_append,List.nil_append,List.nodup_cons,List.mem_append,List.mem_singleton,not_or,List.nodup_append]
  exact⟨ggG,hnd'.2.1,by simp,fun a ha b hb=>by rintro rfl;exact hGn (hb▸ha)⟩
 ·simp only[Option.toList_some,List.cons_append,List.nil_append,List.mem_cons,List.mem_append,List.not_mem_nil,or_false,not_or]
  exact⟨fun e=>ggW.2 e.symm,fun e=>hWF (by simp[e]),by omega⟩
 ·intro b hb
  simp only[Option.toList_some,List.cons_append,List.nil_append,List.mem_cons,List.mem_append,List.not_mem_nil,or_false]at hb
  rcases hb with rfl|hb|rfl
  ·exact ggW.1
  ·exact hFW b (by simp[hb])
  ·omega
 ·rw[q3 b (by omega) (fun e=>by have:=hFW b (by simp[←e]);omega),k2 b (by omega)];exact h3 b hb
 ·rcases q2 with⟨_,q⟩|⟨_,q⟩<;>omega
theorem wt6 {p:List Int}:∀{n i:Nat}{s:List Int×List Y4},blkL p n=some s→i≤n→∃s',blkL p i=some s'
 | 0,i,s,h,hi=>⟨s,by rw[show i=0 by omega];exact h⟩
 | n+1,i,s,h,hi=>by
  by_cases e:i=n+1
  ·exact⟨s,by rw[e];exact h⟩
  ·rw[blkL]at h
   cases hs:blkL p n with
   | none=>rw[hs]at h;cases h
   | some s0=>exact wt6 hs (by omega)
set_option maxHeartbeats 0 in
theorem w9k (a:Option Addr) (ca:Nat) (xs:List Int) (W:World) (hx:RdB W a xs) (hn:xs.length≤4294967296) (pl:List Int) (bl:List Y4) (hB:blkL xs xs.length=some (pl,bl)) :
  Calls Tryz.prog 21 #[.slice a xs.length ca] W fun e w'=>∃hv,e = .returned hv∧BI W w' pl hv bl:=by
 obtain⟨i3,hi3,hz3,hs3,hb3⟩:=info_parts BO.i3
 obtain⟨i25,hi25,hz25,hs25,hb25⟩:=info_parts BO.i25
 have hmk:=run_make (P:=Tryz.prog) W 27 3 i3 _ Tryz.underlying27 hi3 hz3 .i64 .i64 (xs.length:Int) (xs.length:Int) (by omega) (by omega) (by rw[hb3];omega) (by omega)
 simp only[Int.toNat_natCast]at hmk
 go_enter Tryz.func21,Tryz.ntmps21
 go_wp2_with fail
 go_loopw [4,13] (fun v4 v13 wr=>∃(i:Nat) (pl:List Int) (bl:List Y4),v13 = .int .i64 i∧i≤xs.length∧blkL xs i=some (pl,bl)∧BI W wr pl v4 bl) (fun _ v13 _=>xs.length-(intOf v13).toNat)
 case atStart=>exact⟨0,_,_,by go_num,by omega,rfl,BI.init W xs.length⟩
 case round =>
  obtain⟨i,pl1,bl1,rfl,hi,hb,hBI⟩:=hrel
  by_cases hin:i<xs.length
  ·have hinz:(i:Int)<(xs.length:Int):=by omega
   have hi0:0≤(i:Int):=by omega
   obtain⟨b,o,rfl,hbl,hc⟩:=hx i xs[i] (List.getElem?_eq_getElem hin)
   have hcr:wr.cell? ⟨b,o+i,none⟩=some (.int .i64 xs[i]):=by
    rw[←hc]
    simp only[World.cell?,hBI.old b hbl]
   have HBI:Hid (BI W wr pl1 u4 bl1):=hBI
   generalize hxi:xs[i]=x at hcr
   clear hmk hc
   go_upto_if 20 with fail
   go_cut [4] (fun v4 w=>BI W w (if x=(i:Int) then pl1.set i (bl1.length:Int) else pl1) v4 (if x=(i:Int) then bl1++[[]] else bl1))
   case first =>
    by_cases hxe:x=(i:Int)
    ·obtain⟨ad4,cap4,rfl⟩:=HBI.out.hdr
     have hlpl:pl1.length=xs.length:=wkb hb
     have hlbl:bl1.length≤i:=(wa5 hb).1
     have hP:∃y0:Int,wr.cell? ⟨W.heap.size,i,none⟩=some (.int .i64 y0):=by
      refine⟨pl1[i]'(by omega), ?_⟩
      have h1:=HBI.out.place
      simp only[World.cell?,h1]
      simp[hlpl,hin]
     obtain⟨y0,hP⟩:=hP
     have hPf:wr.frozen? ⟨W.heap.size,i,none⟩=false:=by
      have h1:=HBI.out.place
      simp[World.frozen?,h1]
     have H2:Hid (BI W (wr.setCell ⟨W.heap.size,i,none⟩ (.int .i64 (bl1.length:Int))) (pl1.set i (bl1.length:Int)) (.slice ad4 bl1.length cap4) bl1):=HBI.out.setPlace i _
     have hzW:W.heap.size<(wr.setCell ⟨W.heap.size,i,none⟩ (.int .i64 (bl1.length:Int))).heap.size:=H2.out.grow
     generalize hwp:wr.setCell ⟨W.heap.size,i,none⟩ (.int .i64 (bl1.length:Int))=wp at H2 hzW
     have hal1:∀b,b<wp.heap.size→((wp.alloc (.cells #[] 3)).alloc (.cells #[.slice (some ⟨wp.heap.size,0,none⟩) 0 0] 27)).heap[b]? = wp.heap[b]? := fun b hb=>by
      rw[jw _ _ b (by simp;omega),jw _ _ b hb]
     have hal2:((wp.alloc (.cells #[] 3)).alloc (.cells #[.slice (some ⟨wp.heap.size,0,none⟩) 0 0] 27)).heap[wp.heap.size]? = some (.cells #[] 3 (0,0)):=by
      rw[jw _ _ _ (by simp)];exact heap_alloc_new _ _
     have hal3:((wp.alloc (.cells #[] 3)).alloc (.cells #[.slice (some ⟨wp.heap.size,0,none⟩) 0 0] 27)).heap.size=wp.heap.size+2:=by simp
     obtain⟨oldsP,obP,hbaseP,hpush⟩:=H2.out.push hal1 hal2 (by omega) rfl rfl rfl
     have hsrcP:SrcOk ((wp.alloc (.cells #[] 3)).alloc (.cells #[.slice (some ⟨wp.heap.size,0,none⟩) 0 0] 27)) 1 1 (.slice (some ⟨wp.heap.size+1,0,none⟩) 1 1) [.slice (some ⟨wp.heap.size,0,none⟩) 0 0]:=by
      have h1:=jdk (wp.alloc (.cells #[] 3)) (.slice (some ⟨wp.heap.size,0,none⟩) 0 0) 27 rfl
      have e:(wp.alloc (.cells #[] 3)).heap.size=wp.heap.size+1:=by simp
      rw[e]at h1;exact h1
     have hbP:(bl1.length+1)*i25.bytes≤140737488355328:=by rw[hb25];omega
     have hmP:bl1.length+1≤maxLen:=by simp only[maxLen];omega
     have hbaseP':BaseOk ((wp.alloc (.cells #[] 3)).alloc (.cells #[.slice (some ⟨wp.heap.size,0,none⟩) 0 0] 27)) i25.size bl1.length (.slice ad4 bl1.length cap4) oldsP obP:=by rw[hs25];exact hbaseP
     have hsrcP':SrcOk ((wp.alloc (.cells #[] 3)).alloc (.cells #[.slice (some ⟨wp.heap.size,0,none⟩) 0 0] 27)) i25.size 1 (.slice (some ⟨wp.heap.size+1,0,none⟩) 1 1) [.slice (some ⟨wp.heap.size,0,none⟩) 0 0]:=by rw[hs25];exact hsrcP
     clear hbaseP hsrcP
     have hrelP:∀(gg cp:Nat) (w1:World),BaseOk w1 i25.size (bl1.length+1) (.slice (some ⟨gg,0,none⟩) (bl1.length+1) cp) (oldsP++[.slice (some ⟨wp.heap.size,0,none⟩) 0 0]) (some gg) →
       ((some gg=obP∧w1.heap.size=((wp.alloc (.cells #[] 3)).alloc (.cells #[.slice (some ⟨wp.heap.size,0,none⟩) 0 0] 27)).heap.size)∨(gg=((wp.alloc (.cells #[] 3)).alloc (.cells #[.slice (some ⟨wp.heap.size,0,none⟩) 0 0] 27)).heap.size∧w1.heap.size=((wp.alloc (.cells #[] 3)).alloc (.cells #[.slice (some ⟨wp.heap.size,0,none⟩) 0 0] 27)).heap.size+1)) →
       (∀b,b<((wp.alloc (.cells #[] 3)).alloc (.cells #[.slice (some ⟨wp.heap.size,0,none⟩) 0 0] 27)).heap.size→some b≠obP→w1.heap[b]? = ((wp.alloc (.cells #[] 3)).alloc (.cells #[.slice (some ⟨wp.heap.size,0,none⟩) 0 0] 27)).heap[b]?) →
       w1.os=wp.os→w1.tape=wp.tape→w1.output=wp.output →
       BI W w1 (if x=(i:Int) then pl1.set i (bl1.length:Int) else pl1) (.slice (some ⟨gg,0,none⟩) (bl1.length+1) cp) (if x=(i:Int) then bl1++[[]] else bl1):=by
      intro gg cp w1 k1 k2 k3 k4 k5 k6
      rw[if_pos hxe,if_pos hxe]
      rw[hs25]at k1
      exact hpush gg cp w1 k1 k2 k3 k4 k5 k6
     have hxb:(x==(i:Int))=true:=by simp[hxe]
     clear hpush hal1 hal2 hal3 hxe
     go_wp2_with (at_builtin;go_must (refine wi3 rfl _ _ 24 rfl 27 i25 _ Tryz.underlying24 hi25 hz25 (by rw[hs25];rfl) _ _ rfl rfl (n:=bl1.length) (m:=1) hbaseP' hsrcP' hmP hbP (by omega) ?_);intro gg cp w1 k1 k2 k3 k4 k5 k6)
     go_meet
     case rel=>exact hrelP _ _ _ k1 k2 k3 k4 k5 k6
    ·go_wp2_with fail
     go_meet
     case rel=>rw[if_neg hxe,if_neg hxe];exact HBI.out
   case rest =>
    have hstep:blkL xs (i+1)=blkStep (pl1,bl1) i x:=by
     rw[blkL,hb,Option.bind_some,List.getElem?_eq_getElem hin,hxi,Option.bind_some]
    obtain⟨s',hs'⟩:=wt6 hB (show i+1≤xs.length by omega)
    rw[hs']at hstep
    unfold blkStep at hstep
    generalize hpl2:(if x=(i:Int) then pl1.set i (bl1.length:Int) else pl1)=pl2 at hcut
    generalize hbl2:(if x=(i:Int) then bl1++[[]] else bl1)=bl2 at hcut
    have hs2:(if x=(i:Int) then(pl1.set i (bl1.length:Int),bl1++[[]]) else(pl1,bl1))=(pl2,bl2):=by
     rw[←hpl2,←hbl2];split<;>rfl
    rw[hs2]at hstep
    obtain⟨jj,hj1,hj2⟩:=Option.bind_eq_some_iff.1 hstep.symm
    obtain⟨row,hr1,hr2⟩:=Option.bind_eq_some_iff.1 hj2
    have hlpl2:pl2.length=xs.length:=by
     have:pl1.length=xs.length:=wkb hb
     rw[←hpl2];split
     ·simpa using this
     ·exact this
    have hlbl2:bl2.length≤i+1:=by
     have:bl1.length≤i:=(wa5 hb).1
     rw[←hbl2];split
     ·simp;omega
     ·omega
    have hrb2:∀r∈bl2,r.length≤i:=by
     have:∀r∈bl1,r.length≤i:=(wa5 hb).2
     rw[←hbl2];split
     ·intro r hr
      rcases List.mem_append.1 hr with q|q
      ·exact this r q
      ·rw[List.mem_singleton]at q;rw[q];simp
     ·exact this
    obtain⟨hx0,hpk⟩:0≤x∧pl2[x.toNat]? = some jj:=by
     unfold atI at hj1
     split at hj1
     ·exact⟨by assumption,hj1⟩
     ·cases hj1
    obtain⟨hjj0,hbj⟩:0≤jj∧bl2[jj.toNat]? = some row:=by
     unfold atI at hr1
     split at hr1
     ·exact⟨by assumption,hr1⟩
     ·cases hr1
    obtain⟨k,rfl⟩:∃k:Nat,x=(k:Int):=⟨x.toNat,by omega⟩
    obtain⟨j,rfl⟩:∃j:Nat,jj=(j:Int):=⟨jj.toNat,by omega⟩
    simp only[Int.toNat_natCast]at hpk hbj
    have hkl:k<xs.length:=by rw[←hlpl2];exact(List.getElem?_eq_some_iff.1 hpk).1
    have hjl:j<bl2.length:=(List.getElem?_eq_some_iff.1 hbj).1
    have hk1:(k:Int)<(xs.length:Int):=by omega
    have hk0:0≤(k:Int):=by omega
    have hcut2:=hcut.alloc #[Value.int .i64 i] 3
    obtain⟨bb,cap,hdr,ob,olds,rfl,hS2,hbb,hS3,hbase,hob1,hob2,hob3,hfin0⟩:=hcut2.row hbj
    have hS1:(wc.alloc (.cells #[.int .i64 i] 3)).drew.cell? ⟨W.heap.size,k,none⟩=some (.int .i64 j):=by
     have h1:=hcut2.place
     simp only[World.cell?,h1]
     simp[hpk]
    have hj1':(j:Int)<(bl2.length:Int):=by omega
    have hj0:0≤(j:Int):=by omega
    have HC:Hid (BI W wc pl2 (.slice (some ⟨bb,0,none⟩) bl2.length cap) bl2):=hcut
    have hWs:W.heap.size<wc.heap.size:=hcut.grow
    have hsz1:(wc.alloc (.cells #[.int .i64 i] 3)).drew.heap.size=wc.heap.size+1:=by
     show(wc.alloc (.cells #[.int .i64 i] 3)).heap.size=_
     simp
    have hbb0:bb<wc.heap.size:=by
     obtain⟨F,hrep,_⟩:=hcut.rows
     simp only[Rep]at hrep
     rcases hrep with⟨e,_⟩|⟨b',cap',arr',e',G',q1,q2,_⟩
     ·rw[e]at hjl;simp at hjl
     ·simp only[List.cons.injEq,Value.slice.injEq,Option.some.injEq,Addr.mk.injEq,and_true]at q1
      rw[q1.1]
      exact uc q2
    have hal:∀b,b<wc.heap.size→(wc.alloc (.cells #[.int .i64 i] 3)).drew.heap[b]? = wc.heap[b]? := fun b hb=>jw wc _ b hb
    have hpc:wc.cell? ⟨W.heap.size,k,none⟩=some (.int .i64 j):=(World.cell?_of_block (hal _ hWs)).symm.trans hS1
    have hcell:wc.cell? ⟨bb,j,none⟩=some hdr:=(World.cell?_of_block (hal _ hbb0)).symm.trans hS2
    have hfr:wc.frozen? ⟨bb,j,none⟩=false:=(World.frozen?_of_block (hal _ hbb0)).symm.trans hS3
    have hrl:row.length≤4294967296:=by have:=hrb2 row (List.mem_of_getElem? hbj);omega
    have hbase2:BaseOk (wc.alloc (.cells #[.int .i64 i] 3)).drew i3.size row.length hdr olds ob:=by rw[hs3];exact hbase
    have hsrc2:SrcOk (wc.alloc (.cells #[.int .i64 i] 3)).drew i3.size 1 (.slice (some ⟨wc.heap.size,0,none⟩) 1 1) [.int .i64 i]:=by rw[hs3];exact jbn wc _ 3 rfl
    have hz1:W.heap.size<(wc.alloc (.cells #[.int .i64 i] 3)).drew.heap.size:=by omega
    have hz2:bb<(wc.alloc (.cells #[.int .i64 i] 3)).drew.heap.size:=by omega
    have hmax:row.length+1≤maxLen:=by simp only[maxLen];omega
    have hbyt:(row.length+1)*i3.bytes≤140737488355328:=by rw[hb3];omega
    have hss:blkL xs (i+1)=some (pl2,bl2.set j (row++[(i:Int)])):=by
     rw[hs',←hr2];rfl
    have hfin:∀(gg cp:Nat) (w1:World),BaseOk w1 i3.size (row.length+1) (.slice (some ⟨gg,0,none⟩) (row.length+1) cp) (olds++[.int .i64 i]) (some gg) →
      ((some gg=ob∧w1.heap.size=(wc.alloc (.cells #[.int .i64 i] 3)).drew.heap.size)∨(gg=(wc.alloc (.cells #[.int .i64 i] 3)).drew.heap.size∧w1.heap.size=(wc.alloc (.cells #[.int .i64 i] 3)).drew.heap.size+1)) →
      (∀b,b<(wc.alloc (.cells #[.int .i64 i] 3)).drew.heap.size→some b≠ob→w1.heap[b]? = (wc.alloc (.cells #[.int .i64 i] 3)).drew.heap[b]?) →
      w1.os=(wc.alloc (.cells #[.int .i64 i] 3)).drew.os→w1.tape=(wc.alloc (.cells #[.int .i64 i] 3)).drew.tape→w1.output=(wc.alloc (.cells #[.int .i64 i] 3)).drew.output →
      BI W (w1.setCell ⟨bb,j,none⟩ (.slice (some ⟨gg,0,none⟩) (row.length+1) cp)) pl2 (.slice (some ⟨bb,0,none⟩) bl2.length cap) (bl2.set j (row++[(i:Int)])):=by
     intro gg cp w1 k1 k2 k3 k4 k5 k6
     rw[hs3]at k1
     refine hfin0 gg cp i w1 k1 ?_ k3 ?_ k4 k5 k6
     ·rcases k2 with⟨q,_⟩|⟨q,_⟩
      ·exact .inl q
      ·exact .inr (by omega)
     ·rcases k2 with⟨_,q⟩|⟨_,q⟩<;>omega
    clear hcut2 hfin0 hbase
    clear hcut hstep hs2 hj1 hj2 hr1 hr2 hs'
    go_wp2_with fail
    go_region_law
     ((refine wkj rfl _ _ _ rfl 3 i3 _ Tryz.underlying27 hi3 hz3 (by rw[hs3];rfl) hdr _ rfl rfl (n:=row.length) (m:=1) (olds:=olds) (news:=[.int .i64 i]) (ob:=ob) hbase2 hsrc2 hmax hbyt (by omega) ?_;intro gg cp w1 h1 h2 h3 h4 h5 h6 h7;have g1:=(World.cell?_of_block (h3 W.heap.size hz1 (Ne.symm hob2))).trans hS1;have g2:=(World.cell?_of_block (h3 bb hz2 (Ne.symm hob1))).trans hS2;have g3:=(h7 ⟨bb,j,none⟩).trans hS3))
    all_goals go_wp2
    all_goals go_roundw
    all_goals first
     | (case rel=>exact⟨i+1,_,_,by go_num,by omega,hss,hfin _ _ _ h1 h2 h3 h4 h5 h6⟩)
     | skip
    all_goals (simp[intOf];omega)
  ·clear hmk
   go_wp2
   go_ret
   have e:i=xs.length:=by omega
   subst e
   rw[hB]at hb
   cases hb
   exact⟨_,rfl,hBI⟩
def xi:Gx.Sig:={ a:=(.pair Q23 .unit),md:=[0],mf:=[],m := .unit,r := .sl Q23,rf := .o O4,f:=fun x=>(vn x.1) }
theorem way:FnOk Tryz.prog 21:=⟨_,Tryz.func21,by kernel_rfl,by kernel_rfl⟩
theorem BO.ints {cs:List Value}{w:World}{N:T12}:∀{xs:List Int},Gx.RepL (Gx.Rep w N (.int .i64) .i) 1 xs cs []→∀(j:Nat) (x:Int),xs[j]? = some x→cs[j]? = some (Value.int .i64 x)
 | [],_,j,x,h=>by simp at h
 | y::xs,hr,j,x,h=>by
  obtain⟨F1,F2,e,hl,hx,hr⟩:=hr
  cases cs with
  | nil=>simp at hl
  | cons c cs =>
   have hx:[c]=[Value.int .i64 y]∧F1=[]:=hx
   have e0:F2=[]:=by have:=List.append_eq_nil_iff.1 e.symm;exact this.2
   subst e0
   cases j with
   | zero=>simp only[List.getElem?_cons_zero,Option.some.injEq]at h;subst h;simp only[List.cons.injEq,and_true]at hx;simp[hx.1]
   | succ j=>have:=BO.ints hr j x (by simpa using h);simpa using this
theorem yz:Gx.Good Tryz.prog 21 xi:=by
 intro x y hx w N args M hargs hnd hM hN
 have hx:vn x.1=some y:=hx
 unfold vn at hx
 split at hx
 case isFalse=>cases hx
 rename_i hn
 obtain⟨xs,u⟩:=x
 obtain⟨⟨pl,bl⟩,hB,hy⟩:=Option.bind_eq_some_iff.1 hx
 cases(Option.some.inj hy)
 obtain⟨al⟩:=args
 match al,hargs with
 | [v],⟨h1,h2⟩ =>
  have h2:M=[]:=h2
  subst h2
  obtain⟨cs,e1,hr⟩:=h1
  have e1:cs=[v]:=e1
  subst e1
  simp only[Gx.Rep]at hr
  obtain⟨_,a,cap,e2,hcap,hmx,hr⟩:=hr
  simp only[List.cons.injEq,and_true]at e2
  subst e2
  have hrd:RdB w a xs:=by
   intro j z hj
   obtain⟨b,off,arr,e,fr,rfl,hNb,hh,hL⟩:=hr (fun e=>by rw[e]at hj;simp at hj)
   refine⟨b,off,rfl,hN b hNb, ?_⟩
   have:=BO.ints (w:=w) (N:=N) hL j z hj
   simp only[World.cell?,hh]
   simpa using this
  refine(w9k a cap xs w hrd hn pl bl hB).mono ?_
  rintro e w' ⟨hv,rfl,hBI⟩
  obtain⟨F,hrep,hnF,hWF,hFW⟩:=hBI.rows
  refine⟨F,[],by simpa using hnF,.inl ⟨[hv],rfl, ?_⟩,rfl,fun b hb => ?_,fun b hb => ?_,fun b hb _=>hBI.old b hb,by have:=hBI.grow;omega,hBI.os,hBI.tape,hBI.output,trivial⟩
  ·exact Gx.Rep.shut rfl hrep
  ·rw[List.append_nil]at hb;exact .inr (hFW b hb)
  ·rw[List.append_nil]at hb;exact Gx.Rep.lt hrep b hb
end Go.Proofs.YteanfidobhpchaaGreat
