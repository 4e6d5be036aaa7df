import Derived.Test.YtgmapdlhkfajoaaGreatGxGen
set_option linter.unusedSimpArgs false
set_option linter.unusedVariables false
namespace Go.Gx
open Go
theorem qy {w:World}{b o:Nat}{v:Value}{arr:Array Value}{e:TypeId}{fr:Nat×Nat}(h:w.heap[b]? = some (.cells arr e fr)) (k:Nat) :
  (w.setCell ⟨b,o,none⟩ v).heap[k]? = if k=b then some (.cells (arr.setIfInBounds o v) e fr) else w.heap[k]? := by
 unfold World.setCell
 simp only[Array.getElem?_modify]
 by_cases c:b=k
 ·subst c
  rw[if_pos rfl,if_pos rfl,h];rfl
 ·rw[if_neg c,if_neg (Ne.symm c)]
theorem jbr {w:World}{N:Nat→Prop}:∀{row:List Int}{cs:List Value}{F:List Nat},RepL (Rep w N (.int .i64) .i) 1 row cs F→cs.length=row.length→cs=row.map (Value.int .i64)
 | [],cs,F,_,h=>List.eq_nil_of_length_eq_zero h
 | x::row,cs,F,⟨F1,F2,_,hl,hx,hr⟩,h=>by
  cases cs with
  | nil=>simp at hl
  | cons c cs =>
   have hx:[c]=[Value.int .i64 x]∧F1=[]:=hx
   have e1:=jbr (w:=w) (N:=N) hr (by simpa using h)
   rw[List.map_cons,←e1]
   simp at hx
   rw[hx.1];rfl
theorem ja3 {w:World}{N:Nat→Prop}:∀(row:List Int),RepL (Rep w N (.int .i64) .i) 1 row (row.map (Value.int .i64)) []
 | []=>rfl
 | x::row=>⟨[],[],rfl,by simp,⟨rfl,rfl⟩,ja3 row⟩
theorem jdw (w:World) (u':Value) (t:TypeId) (h1:u'.oneCell'=true):SrcOk (w.alloc (.cells #[u'] t)) 1 1 (.slice (some ⟨w.heap.size,0,none⟩) 1 1) [u']:=by
 refine⟨_,1,rfl,rfl,fun _=>⟨_,rfl,fun j v hv => ?_⟩,by simpa using h1⟩
 have hn:=heap_alloc_new w (.cells #[u'] t)
 cases j with
 | zero =>
  simp only[List.getElem?_cons_zero,Option.some.injEq]at hv
  subst hv
  show(w.alloc (.cells #[u'] t)).cell? ⟨w.heap.size,0+0,none⟩=_
  simp only[World.cell?,hn]
  rfl
 | succ j=>simp at hv
theorem ja1 (w:World) (u':Value) (t:TypeId) (h1:u'.oneCell'=true):SrcOk (w.alloc (.cells #[u'] t)).drew 1 1 (.slice (some ⟨w.heap.size,0,none⟩) 1 1) [u']:=jdw w u' t h1
theorem jl2 {w:World}{N:Nat→Prop}{bl:List (List Int)}{hv:Value}{F:List Nat}(hrep:Rep w N (.sl (.sl (.int .i64))) (.o (.o .i)) bl [hv] F) (hnd:F.Nodup){j:Nat}{row:List Int}(hj:bl[j]? = some row) :
  ∃(bb cap:Nat) (hdr:Value) (ob:Option Nat) (olds:List Value),hv = .slice (some ⟨bb,0,none⟩) bl.length cap∧w.cell? ⟨bb,j,none⟩=some hdr∧bb∈F∧w.frozen? ⟨bb,j,none⟩=false∧BaseOk w 1 row.length hdr olds ob∧ob≠some bb ∧
   (∀b,ob=some b→b∈F) ∧
   ∀(gg cp:Nat) (y:Int) (w1:World) (N':Nat→Prop),BaseOk w1 1 (row.length+1) (.slice (some ⟨gg,0,none⟩) (row.length+1) cp) (olds++[.int .i64 y]) (some gg)→(some gg=ob∨gg ∉ F) →
    (∀b∈F,some b≠ob→w1.heap[b]? = w.heap[b]?) →
    ∃F',F'.Nodup∧(∀b∈F',b∈F∨b=gg)∧Rep (w1.setCell ⟨bb,j,none⟩ (.slice (some ⟨gg,0,none⟩) (row.length+1) cp)) N' (.sl (.sl (.int .i64))) (.o (.o .i)) (bl.set j (row++[y])) [hv] F':=by
 have hrep:=hrep.shut (N2:=fun _=>False) rfl
 simp only[Rep]at hrep
 rcases hrep with⟨rfl,_⟩|⟨bb,cap,arr,e,G,q1,q2,q3,q4,q5,rfl,q7⟩
 ·simp at hj
 simp only[List.cons.injEq,and_true]at q1
 subst q1
 obtain⟨F1,F0,F2,eG,hb1,hrow,hset⟩:=q7.focus hj
 subst eG
 have hjl:j+1≤arr.toList.length:=by simpa [Ty.cells] using hb1
 simp only[Ty.cells,Nat.mul_one]at hrow hset hb1
 obtain⟨hdr,hhdr⟩:∃hdr,arr.toList[j]? = some hdr:=⟨_,List.getElem?_eq_getElem (by omega)⟩
 have hseg:(arr.toList.drop j).take 1=[hdr]:=by
  rw[List.drop_eq_getElem_cons (by omega)]
  rw[List.getElem?_eq_getElem (by omega)]at hhdr
  simp[Option.some.inj hhdr]
 rw[hseg]at hrow
 have hrow':Rep w (fun _=>False) (.sl (.int .i64)) (.o .i) row [hdr] F0:=by
  simpa only [Rep,Ty.cells,Nat.mul_one] using hrow
 obtain⟨ob,olds,G0,hbase,hbl,e0⟩:=ja5 hrow'
 have hnd':=List.nodup_cons.1 hnd
 have hobm:∀b,ob=some b→b∈F1++F0++F2:=fun b hb=>by rw[e0,hb];simp
 have ne1:ob≠some bb:=fun q=>hnd'.1 (hobm bb q)
 have hG0:G0=[]:=RepL.plainNil hbl
 have hcell:w.cell? ⟨bb,j,none⟩=some hdr:=by
  simp only[World.cell?,q2]
  simpa using hhdr
 have hfr:w.frozen? ⟨bb,j,none⟩=false:=by simp[World.frozen?,q2]
 refine⟨bb,cap,hdr,ob,olds,rfl,hcell,by simp,hfr,hbase,ne1,fun b hb=>List.mem_cons_of_mem _ (hobm b hb),fun gg cp y w1 N' k1 k2 k3 => ?_⟩
 have hF0:F0=ob.toList:=by rw[e0,hG0,List.append_nil]
 have hint:olds=row.map (Value.int .i64):=by
  have hl:=hbase.len
  simp only[Ty.cells,Nat.mul_one]at hl
  exact jbr (w:=w) (N:=fun _=>False) (F:=G0) (by simpa only [Ty.cells] using hbl) hl
 have hw1bb:=(k3 bb (by simp) (Ne.symm ne1)).trans q2
 have hs:=qy (o:=j) (v:=Value.slice (some ⟨gg,0,none⟩) (row.length+1) cp) hw1bb
 have ggbb:gg≠bb:=by
  rcases k2 with q|q
  ·intro c;exact ne1 (by rw[←q,c])
  ·intro c;exact q (by rw[c];simp)
 have hnd3:=hnd'.2
 have far:∀b∈F1++F2,b≠bb∧some b≠ob∧b∈bb::(F1++F0++F2):=fun b hb=>by
  have hm:b∈F1++F0++F2:=by
   rcases List.mem_append.1 hb with q|q<;>simp[q]
  refine⟨fun c=>hnd'.1 (by rw[←c];exact hm),fun c => ?_,List.mem_cons_of_mem _ hm⟩
  have h0:b∈F0:=by rw[hF0,←c];simp
  rw[List.nodup_append,List.nodup_append]at hnd3
  rcases List.mem_append.1 hb with q|q
  ·exact hnd3.1.2.2 b q b h0 rfl
  ·exact hnd3.2.2 b (List.mem_append_right _ h0) b q rfl
 have ggF:gg ∉ F1++F2:=fun hm=>by
  obtain⟨a1,a3,a4⟩:=far gg hm
  rcases k2 with q|q
  ·exact a3 q
  ·exact q a4
 generalize hw2:w1.setCell ⟨bb,j,none⟩ (Value.slice (some ⟨gg,0,none⟩) (row.length+1) cp)=w2 at hs ⊢
 have hkeep:∀b∈F1++F2,w2.heap[b]? = w.heap[b]? := fun b hb=>by
  obtain⟨a1,a2,a3⟩:=far b hb
  rw[hs b,if_neg a1,k3 b a3 a2]
 have hnew:Rep w2 (fun _=>False) (.sl (.int .i64)) (.o .i) (row++[y]) [Value.slice (some ⟨gg,0,none⟩) (row.length+1) cp] [gg]:=by
  obtain⟨cap',arr',e',a1,a2,a3,a4,a5,a6⟩:=k1
  have hb2:BaseOk w2 (Ty.int .i64).cells (row++[y]).length (Value.slice (some ⟨gg,0,none⟩) (row.length+1) cp) ((row++[y]).map (Value.int .i64)) (some gg):=by
   refine⟨cap',arr',e',by rw[List.length_append];exact a1,by rw[hs gg,if_neg ggbb];exact a2,a3,by rw[List.length_append];exact a4,a5, ?_⟩
   rw[List.length_append,List.map_append,←hint];exact a6
  exact ja0 hb2 (ja3 (row++[y]))
 refine⟨bb::(F1++[gg]++F2), ?_,fun b hb => ?_, ?_⟩
 ·refine List.nodup_cons.2 ⟨fun q => ?_, ?_⟩
  ·simp only[List.mem_append,List.mem_singleton]at q
   rcases q with(q|q)|q
   ·exact hnd'.1 (by simp[q])
   ·exact ggbb q.symm
   ·exact hnd'.1 (by simp[q])
  ·simp only[List.mem_append,not_or]at ggF
   rw[List.nodup_append,List.nodup_append]at hnd3
   rw[List.nodup_append,List.nodup_append]
   refine⟨⟨hnd3.1.1,by simp,fun a ha b hb => ?_⟩,hnd3.2.1,fun a ha b hb => ?_⟩
   ·rw[List.mem_singleton]at hb;rw[hb];exact fun c=>ggF.1 (c▸ha)
   ·rcases List.mem_append.1 ha with q|q
    ·exact hnd3.2.2 a (List.mem_append_left _ q) b hb
    ·rw[List.mem_singleton]at q;rw[q];exact fun c=>ggF.2 (c▸hb)
 ·simp only[List.mem_cons,List.mem_append,List.not_mem_nil,or_false]at hb
  rcases hb with rfl|(hb|hb)|hb
  ·left;simp
  ·left;simp[hb]
  ·right;exact hb
  ·left;simp[hb]
 ·refine Rep.shut (N:=fun _=>False) rfl ?_
  have hr:=hset (Rep w2 (fun _=>False) (.sl (.int .i64)) (.o .i)) (row++[y]) [gg] [Value.slice (some ⟨gg,0,none⟩) (row.length+1) cp] rfl hnew (fun z ds G' hG hz=>by
   have hz':Rep w (fun _=>False) (.sl (.int .i64)) (.o .i) z ds G':=by simpa only [Rep,Ty.cells,Nat.mul_one] using hz
   exact hz'.mono (fun b hb=>hb.elim) fun b hb=>hkeep b (hG b hb))
  refine .inr ⟨bb,cap,arr.setIfInBounds j (Value.slice (some ⟨gg,0,none⟩) (row.length+1) cp),e,F1++[gg]++F2,by rw[List.length_set],by rw[hs bb,if_pos rfl],by simpa using q3,by rw[List.length_set];exact q4,q5,rfl, ?_⟩
  have he:(arr.setIfInBounds j (Value.slice (some ⟨gg,0,none⟩) (row.length+1) cp)).toList=arr.toList.take j++[Value.slice (some ⟨gg,0,none⟩) (row.length+1) cp]++arr.toList.drop (j+1):=by
   rw[Array.toList_setIfInBounds,List.set_eq_take_append_cons_drop,if_pos (by omega)];simp
  rw[he]
  exact hr
def forget (ds:List Nat) (st:St):St:=ds.foldl (fun s d=>s.put d .u) st
theorem jb2 {c:Ctx}{w:World}:∀{dv:List (Nat×Value)}{own:Nat→List Nat}{st:St}{a:Act},Inv c own [] st a w→(∀p∈dv,c.fix p.1=none)→∃own',Inv c own' [] (forget (dv.map (·.1)) st) (dv.foldl (fun a p=>a.put (some p.1) p.2) a) w
 | [],own,st,a,h,_=>⟨own,h⟩
 | (d,v)::dv,own,st,a,h,hf=>by
  obtain⟨own1,h1,_⟩:=Inv.put (F:=[]) (v := .u) (value:=v) d (by simpa using h) rfl fun u' hu=>by rw[hf (d,v) List.mem_cons_self]at hu;cases hu
  show ∃own',Inv c own' [] (forget (dv.map (·.1)) (st.put d .u)) (dv.foldl (fun a p=>a.put (some p.1) p.2) (a.put (some d) v)) w
  exact jb2 (dv:=dv) h1 fun p hp=>hf p (List.mem_cons_of_mem _ hp)
theorem jeg {n:Nat}{a:Act}(h:a.tmps.size=n) (hd:a.defers=[]):a={ tmps:=((List.range n).map (Act.at_ a)).toArray,defers:=[] }:=by
 cases a with
 | mk tmps defers =>
 simp only at h hd
 subst hd
 congr 1
 apply Array.ext
 ·simp[h]
 ·intro i h1 h2
  simp[Act.at_,Array.getD_eq_getD_getElem?,h1]
def regsAt (ids:List Nat):Code→List Code
 | .region i ops d=>if ids.contains i then [.region i ops d] else []
 | .seq a b=>regsAt ids a++regsAt ids b
 | .cond _ a b=>regsAt ids a++regsAt ids b
 | .block _ c=>regsAt ids c
 | .loop c=>regsAt ids c
 | _=>[]
theorem jao {P:Program}{A:Cfg}{ids:List Nat}(h0:∀i,i ∉ ids→A.hook i=none):∀{code:Code},(∀c∈regsAt ids code,HooksOk P A c)→HooksOk P A code
 | .region i ops d,h=>by
  by_cases hi:i∈ids
  ·exact h _ (by simp[regsAt,hi])
  ·unfold HooksOk;rw[h0 i hi];trivial
 | .seq a b,h=>⟨jao h0 fun c hc=>h c (by simp[regsAt,hc]),jao h0 fun c hc=>h c (by simp[regsAt,hc])⟩
 | .cond _ a b,h=>⟨jao h0 fun c hc=>h c (by simp[regsAt,hc]),jao h0 fun c hc=>h c (by simp[regsAt,hc])⟩
 | .block _ c,h=>by unfold HooksOk;exact jao h0 fun c' hc=>h c' (by simpa [regsAt] using hc)
 | .loop c,h=>by unfold HooksOk;exact jao h0 fun c' hc=>h c' (by simpa [regsAt] using hc)
 | .skip,_=>trivial
 | .exit _,_=>trivial
 | .ret,_=>trivial
 | .rangeFunc _ _ _ _,_=>trivial
 | .scope _,_=>trivial
 | .label _,_=>trivial
 | .goto _,_=>trivial
 | .refuse _,_=>trivial
end Go.Gx
