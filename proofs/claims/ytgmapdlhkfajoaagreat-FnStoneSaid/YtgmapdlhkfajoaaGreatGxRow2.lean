import Derived.Test.YtgmapdlhkfajoaaGreatGxRow
set_option linter.unusedSimpArgs false
set_option linter.unusedVariables false
namespace Go.Gx
open Go
theorem rep_ix {w:World}{N:Nat→Prop}{t:Ty}{f:Fl}{x:(Ty.pair (.int .i64) (.pair (.sl t) .unit)).den}{cs:List Value}{F:List Nat}:Rep w N (.pair (.int .i64) (.pair (.sl t) .unit)) (.p .i (.p f .i)) x cs F↔∃hdr,cs=[.int .i64 x.1,hdr]∧Rep w N (.sl t) f x.2.1 [hdr] F:=by
 constructor
 ·intro h
  rw[Rep]at h
  obtain⟨F1,F2,rfl,_,h1,h2⟩:=h
  rw[Rep]at h2
  obtain⟨F3,F4,rfl,h5,h3,h4⟩:=h2
  have h1:cs.take 1=[.int .i64 x.1]∧F1=[]:=by simpa only [Rep,Ty.cells] using h1
  have h4:(cs.drop 1).drop 1=[]∧F4=[]:=by simpa only [Rep,Ty.cells] using h4
  have h5:1≤(cs.drop 1).length:=h5
  obtain⟨e1,rfl⟩:=h1
  obtain⟨e4,rfl⟩:=h4
  match cs,e1,e4,h5 with
  | [c1,c2],e1,_,_ =>
   simp only[List.take_succ_cons,List.take_zero,List.cons.injEq,and_true]at e1
   subst e1
   exact⟨c2,rfl,by simpa [Ty.cells,Fl.l,Fl.r] using h3⟩
  | [c1],_,_,h5=>simp at h5
  | [],_,_,h5=>simp at h5
  | c1::c2::c3::cs,_,e4,_=>simp at e4
 ·rintro⟨hdr,rfl,h⟩
  rw[Rep]
  refine⟨[],F,rfl,by simp[Ty.cells], ?_, ?_⟩
  ·simp[Rep,Ty.cells]
  ·rw[Rep]
   refine⟨F,[],by simp,by simp[Ty.cells], ?_, ?_⟩
   ·simpa only [Ty.cells,List.take_succ_cons,List.take_zero,List.drop_succ_cons,List.drop_zero,Fl.l,Fl.r] using h
   ·simp[Rep,Ty.cells]
abbrev OpT:Ty := .pair (.int .i64) (.pair (.sl (.int .i64)) .unit)
abbrev OpF:Fl := .p .i (.p (.o .i) .i)
theorem jj1 {w:World}{N:Nat→Prop}{x:OpT.den}{cs:List Value}{F:List Nat}(hl:cs.length=2):Rep w N OpT OpF x cs F↔∃hdr,cs=[.int .i64 x.1,hdr]∧Rep w N (.sl (.int .i64)) (.o .i) x.2.1 [hdr] F:=by
 match cs,hl with
 | [c1,c2],_ =>
  constructor
  ·intro h
   rw[Rep]at h
   obtain⟨F1,F2,rfl,_,h1,h2⟩:=h
   rw[Rep]at h2
   obtain⟨F3,F4,rfl,_,h3,h4⟩:=h2
   simp only[Ty.cells,List.take_succ_cons,List.take_zero,List.drop_succ_cons,List.drop_zero,Fl.l,Fl.r]at h1 h3 h4
   simp only[Rep]at h1 h4
   obtain⟨e1,rfl⟩:=h1
   obtain⟨_,rfl⟩:=h4
   simp only[List.cons.injEq,and_true]at e1
   subst e1
   exact⟨c2,rfl,by simpa using h3⟩
  ·rintro⟨hdr,e,h⟩
   simp only[List.cons.injEq,and_true]at e
   obtain⟨rfl,rfl⟩:=e
   rw[Rep]
   refine⟨[],F,rfl,by simp[Ty.cells], ?_, ?_⟩
   ·rw[Rep];exact⟨rfl,rfl⟩
   ·rw[Rep]
    refine⟨F,[],by simp,by simp[Ty.cells], ?_, ?_⟩
    ·simpa only [Ty.cells,List.take_succ_cons,List.take_zero,List.drop_succ_cons,List.drop_zero,Fl.l,Fl.r] using h
    ·rw[Rep];exact⟨rfl,rfl⟩
theorem jl1 {w:World}{N:Nat→Prop}{bl:List OpT.den}{hv:Value}{F:List Nat}(hrep:Rep w N (.sl OpT) (.o OpF) bl [hv] F) (hnd:F.Nodup){r:OpT.den}(hj:bl[0]? = some r) :
  ∃(bb cap:Nat) (hdr:Value) (ob:Option Nat) (olds:List Value),hv = .slice (some ⟨bb,0,none⟩) bl.length cap∧w.cell? ⟨bb,1,none⟩=some hdr∧bb∈F∧w.frozen? ⟨bb,1,none⟩=false∧BaseOk w 1 r.2.1.length hdr olds ob∧ob≠some bb ∧
   (∀b,ob=some b→b∈F) ∧
   ∀(gg cp:Nat) (y:Int) (w1:World) (N':Nat→Prop),BaseOk w1 1 (r.2.1.length+1) (.slice (some ⟨gg,0,none⟩) (r.2.1.length+1) cp) (olds++[.int .i64 y]) (some gg)→(some gg=ob∨gg ∉ F) →
    (∀b∈F,some b≠ob→w1.heap[b]? = w.heap[b]?) →
    ∃F',F'.Nodup∧(∀b∈F',b∈F∨b=gg)∧Rep (w1.setCell ⟨bb,1,none⟩ (.slice (some ⟨gg,0,none⟩) (r.2.1.length+1) cp)) N' (.sl OpT) (.o OpF) (bl.set 0 (r.1,r.2.1++[y],())) [hv] F':=by
 have hrep:=hrep.shut (N2:=fun _=>False) rfl
 rw[Rep]at hrep
 rcases hrep with⟨rfl,_⟩|⟨bb,cap,arr,e,G,q1,q2,q3,q4,q5,rfl,q7⟩
 ·simp at hj
 simp only[List.cons.injEq,and_true]at q1
 subst q1
 obtain⟨F1,F0,F2,eG,hb1,hrow,hset⟩:=q7.focus hj
 subst eG
 have hb1:2≤arr.toList.length:=by simpa [Ty.cells] using hb1
 have c2:OpT.cells=2:=rfl
 simp only[c2,Nat.zero_mul,Nat.zero_add,Nat.add_zero,List.drop_zero,List.take_zero,List.nil_append]at hrow hset
 have hrow:=(jj1 (by rw[List.length_take];omega)).1 hrow
 obtain⟨hdr,hseg,hrow'⟩:=hrow
 obtain⟨ob,olds,G0,hbase,hbl,e0⟩:=ja5 hrow'
 have hnd':=List.nodup_cons.1 hnd
 have hobm:∀b,ob=some b→b∈F1++F0++F2:=fun b hb=>by rw[e0,hb];simp
 have ne1:ob≠some bb:=fun q=>hnd'.1 (hobm bb q)
 have hG0:G0=[]:=RepL.plainNil hbl
 have hhdr:arr.toList[1]? = some hdr:=by
  have h1:(arr.toList.take 2)[1]? = some hdr:=by
   have:arr.toList.take (1+1)=[.int .i64 r.1,hdr]:=hseg
   rw[show(2:Nat)=1+1 from rfl,this];rfl
  rwa [List.getElem?_take_of_lt (by omega)]at h1
 have hcell:w.cell? ⟨bb,1,none⟩=some hdr:=by
  simp only[World.cell?,q2]
  simpa using hhdr
 have hfr:w.frozen? ⟨bb,1,none⟩=false:=by simp[World.frozen?,q2]
 refine⟨bb,cap,hdr,ob,olds,rfl,hcell,by simp,hfr,hbase,ne1,fun b hb=>List.mem_cons_of_mem _ (hobm b hb),fun gg cp y w1 N' k1 k2 k3 => ?_⟩
 have hF0:F0=ob.toList:=by rw[e0,hG0,List.append_nil]
 have hint:olds=r.2.1.map (Value.int .i64):=by
  have hl:=hbase.len
  simp only[Ty.cells,Nat.mul_one]at hl
  exact jbr (w:=w) (N:=fun _=>False) (F:=G0) (by simpa only [Ty.cells] using hbl) hl
 have hw1bb:=(k3 bb (by simp) (Ne.symm ne1)).trans q2
 have hs:=qy (o:=1) (v:=Value.slice (some ⟨gg,0,none⟩) (r.2.1.length+1) cp) hw1bb
 have ggbb:gg≠bb:=by
  rcases k2 with q|q
  ·intro c;exact ne1 (by rw[←q,c])
  ·intro c;exact q (by rw[c];simp)
 have hnd3:=hnd'.2
 have far:∀b∈F1++F2,b≠bb∧some b≠ob∧b∈bb::(F1++F0++F2):=fun b hb=>by
  have hm:b∈F1++F0++F2:=by
   rcases List.mem_append.1 hb with q|q<;>simp[q]
  refine⟨fun c=>hnd'.1 (by rw[←c];exact hm),fun c => ?_,List.mem_cons_of_mem _ hm⟩
  have h0:b∈F0:=by rw[hF0,←c];simp
  rw[List.nodup_append,List.nodup_append]at hnd3
  rcases List.mem_append.1 hb with q|q
  ·exact hnd3.1.2.2 b q b h0 rfl
  ·exact hnd3.2.2 b (List.mem_append_right _ h0) b q rfl
 have ggF:gg ∉ F1++F2:=fun hm=>by
  obtain⟨a1,a3,a4⟩:=far gg hm
  rcases k2 with q|q
  ·exact a3 q
  ·exact q a4
 generalize hw2:w1.setCell ⟨bb,1,none⟩ (Value.slice (some ⟨gg,0,none⟩) (r.2.1.length+1) cp)=w2 at hs ⊢
 have hkeep:∀b∈F1++F2,w2.heap[b]? = w.heap[b]? := fun b hb=>by
  obtain⟨a1,a2,a3⟩:=far b hb
  rw[hs b,if_neg a1,k3 b a3 a2]
 have hnew0:Rep w2 (fun _=>False) (.sl (.int .i64)) (.o .i) (r.2.1++[y]) [Value.slice (some ⟨gg,0,none⟩) (r.2.1.length+1) cp] [gg]:=by
  obtain⟨cap',arr',e',a1,a2,a3,a4,a5,a6⟩:=k1
  have hb2:BaseOk w2 (Ty.int .i64).cells (r.2.1++[y]).length (Value.slice (some ⟨gg,0,none⟩) (r.2.1.length+1) cp) ((r.2.1++[y]).map (Value.int .i64)) (some gg):=by
   refine⟨cap',arr',e',by rw[List.length_append];exact a1,by rw[hs gg,if_neg ggbb];exact a2,a3,by rw[List.length_append];exact a4,a5, ?_⟩
   rw[List.length_append,List.map_append,←hint];exact a6
  exact ja0 hb2 (ja3 (r.2.1++[y]))
 have hnew:Rep w2 (fun _=>False) OpT OpF (r.1,r.2.1++[y],()) [.int .i64 r.1,Value.slice (some ⟨gg,0,none⟩) (r.2.1.length+1) cp] [gg]:=(jj1 rfl).2 ⟨_,rfl,hnew0⟩
 refine⟨bb::(F1++[gg]++F2), ?_,fun b hb => ?_, ?_⟩
 ·refine List.nodup_cons.2 ⟨fun q => ?_, ?_⟩
  ·simp only[List.mem_append,List.mem_singleton]at q
   rcases q with(q|q)|q
   ·exact hnd'.1 (by simp[q])
   ·exact ggbb q.symm
   ·exact hnd'.1 (by simp[q])
  ·simp only[List.mem_append,not_or]at ggF
   rw[List.nodup_append,List.nodup_append]at hnd3
   rw[List.nodup_append,List.nodup_append]
   refine⟨⟨hnd3.1.1,by simp,fun a ha b hb => ?_⟩,hnd3.2.1,fun a ha b hb => ?_⟩
   ·rw[List.mem_singleton]at hb;rw[hb];exact fun c=>ggF.1 (c▸ha)
   ·rcases List.mem_append.1 ha with q|q
    ·exact hnd3.2.2 a (List.mem_append_left _ q) b hb
    ·rw[List.mem_singleton]at q;rw[q];exact fun c=>ggF.2 (c▸hb)
 ·simp only[List.mem_cons,List.mem_append,List.not_mem_nil,or_false]at hb
  rcases hb with rfl|(hb|hb)|hb
  ·left;simp
  ·left;simp[hb]
  ·right;exact hb
  ·left;simp[hb]
 ·refine Rep.shut (N:=fun _=>False) rfl ?_
  have hr:=hset (Rep w2 (fun _=>False) OpT OpF) (r.1,r.2.1++[y],()) [gg] [.int .i64 r.1,Value.slice (some ⟨gg,0,none⟩) (r.2.1.length+1) cp] rfl hnew (fun z ds G' hG hz=>hz.mono (fun b hb=>hb.elim) fun b hb=>hkeep b (hG b hb))
  rw[Rep]
  refine .inr ⟨bb,cap,arr.setIfInBounds 1 (Value.slice (some ⟨gg,0,none⟩) (r.2.1.length+1) cp),e,F1++[gg]++F2,by rw[List.length_set],by rw[hs bb,if_pos rfl],by simpa using q3,by rw[List.length_set];exact q4,q5,rfl, ?_⟩
  have he:(arr.setIfInBounds 1 (Value.slice (some ⟨gg,0,none⟩) (r.2.1.length+1) cp)).toList=[.int .i64 r.1,Value.slice (some ⟨gg,0,none⟩) (r.2.1.length+1) cp]++arr.toList.drop 2:=by
   rw[Array.toList_setIfInBounds,List.set_eq_take_append_cons_drop,if_pos (by omega)]
   have h1:arr.toList.take 1=[.int .i64 r.1]:=by
    have:(arr.toList.take (1+1)).take 1=[.int .i64 r.1]:=by
     have h2:arr.toList.take (1+1)=[.int .i64 r.1,hdr]:=hseg
     rw[h2];rfl
    rwa [List.take_take]at this
   rw[h1];rfl
  rw[he]
  exact hr
end Go.Gx
