import Derived.Test.YtnolmlelfmadkaaGxSort7
import Derived.Test.YtnolmlelfmadkaaGxBox
import Derived.Test.YtnolmlelfmadkaaPSort
import Derived.Shelf.GgSortFunc.LotD
set_option linter.unusedVariables false
set_option linter.unusedSimpArgs false
namespace Go.Gx
open Go Go.Proofs Go.Shelf Go.RowKit Go.Lib Go.Sort
theorem jgj {P:Program}{ρ:Ren}{α:Type} [Inhabited α] (L:LaysGt.n8 P ρ) (t e:TypeId) (i ie:TypeInfo) (hi:P.info? t=some i) (hd:i.desc = .slice e) (hpk:P.packed t=false) (hie:P.info? e=some ie) (ke:Nat) (hke:∀w,(Extern.Rtype.kind e).run P w = .ok ke w)
  (hs1:ie.size=1) (hagg:∀w,(isAgg e).run P w = .ok false w) (enc:α→Value) (h1:∀x,(enc x).oneCell'=true) (lt:α→α→Bool) (hO:SWO lt) (g:Nat) (lb:Array Value)
  (eg:∀args w,(callFunc g args).run P w = .ok (.enter g args) w) (blk off c:Nat) (d:Array α) (h2:2≤d.size) (hsz:d.size<1152921504606846976)
  (f : Nat) (hf : P.funcs.findIdx? (·.name == "internal/reflectlite" ++ ".Swapper$" ++ toString (swapperK d.size ie ke)) = some f)
  (gS:Bool) (hx:∀args W,(callFunc f args).run P W=((Extern.ReflectliteSwapper.swap gS args).run P W).andThen fun v w' => .ok (.value v) w')
  (w:World) (hless:LessReads P g lb enc lt blk off d.size w) (hH:Go.Sort.Holds enc w blk off d) (hblk:blk<w.heap.size) :
  Calls P (ρ.f 8) #[.iface t (.slice (some ⟨blk,off,none⟩) d.size c),.func (.func g) #[] lb] w fun e w' =>
   e = .returned (.tuple #[])∧∃d',SW enc w blk off d' w'∧PermIn 0 d.size d d'∧SortedIn lt 0 d.size d':=by
 refine Any.sort_SliceStable_of_stable L t e i ie hi hd hpk hie ke hke _ d.size c (by omega) f hf (.func g) #[] lb w _ ?_
 have hB:sliceBound P e ie ke (some ⟨blk,off,none⟩) d.size c = #[.slice (some ⟨blk,off,none⟩) d.size c,typeHandle P e]:=by
  unfold sliceBound;rw[if_neg (swapperK_gt _ _ _ h2)]
 rw[hB]
 have hSW:SW enc w blk off d (stableWorld P ρ t (some ⟨blk,off,none⟩) d.size c w):=((SW.start hH).alloc _).alloc _
 exact jlg (P:=P) (ρ:=ρ) { L with } enc lt hO g lb f _ blk off w _ d eg hless (swapSwaps_of_literal gS f hx e ie hie hs1 hagg enc h1 blk off d.size c) hH hblk hSW hsz
def ReadsI (W:World) (blk:Nat) (h:Option Addr×Nat×Nat) (xs:List Int):Prop :=
 h.2.1=xs.length∧xs.length<9223372036854775808∧∀(j:Nat) (y:Int),xs[j]? = some y→∃b o,h.1=some ⟨b,o,none⟩∧b≠blk∧b<W.heap.size∧W.cell? ⟨b,o+j,none⟩=some (.int .i64 y)
abbrev RowT (W:World) (blk:Nat):={x:(Option Addr×Nat×Nat)×List Int×List Nat // ReadsI W blk x.1 x.2.1}
instance (W:World) (blk:Nat):Inhabited (RowT W blk):=⟨⟨((none,0,0),[],[]),rfl,by simp,fun j y h=>by simp at h⟩⟩
def encR {W:World}{blk:Nat}(x:RowT W blk):Value := .slice x.1.1.1 x.1.1.2.1 x.1.1.2.2
theorem jf7 {w:World}{N:Nat→Prop}{f:Fl}{blk:Nat}(hN:¬N blk) (hNs:∀b,N b→b<w.heap.size):∀{rows:List (List Int)}{cs:List Value}{G:List Nat},blk ∉ G→RepL (Rep w N (.sl (.int .i64)) f) 1 rows cs G→(∀b∈G,b<w.heap.size) →
  ∃l:List (RowT w blk),l.map (fun x=>x.1.2.1)=rows∧l.map encR=cs.take rows.length∧(l.map (fun x=>x.1.2.2)).flatten=G∧∀x∈l,Rep w N (.sl (.int .i64)) f x.1.2.1 [encR x] x.1.2.2
 | [],cs,G,hG,h,hs=>⟨[],rfl,by simp,by simpa [RepL] using h.symm,by simp⟩
 | xs::rows,cs,G,hG,h,hs=>by
  obtain⟨F1,F2,rfl,hl,h1,h2⟩:=h
  obtain⟨l,q1,q2,q3,q4⟩:=jf7 hN hNs (fun hb=>hG (List.mem_append_right _ hb)) h2 (fun b hb=>hs b (List.mem_append_right _ hb))
  cases cs with
  | nil=>simp at hl
  | cons v cs =>
   simp only[List.take_succ_cons,List.take_zero,List.drop_succ_cons,List.drop_zero]at h1 h2 q2
   have hv:∃a cap,v = .slice a xs.length cap∧ReadsI w blk (a,xs.length,cap) xs:=by
    have h1':=h1
    simp only[Rep]at h1
    split at h1
    ·rcases h1 with⟨e1,e2,e3⟩|⟨b,cap,arr,e,G',e1,e2,e3,e4,e5,e6,e7⟩
     ·subst e1
      simp only[List.cons.injEq,and_true]at e2
      exact⟨none,0,e2,rfl,by simp,fun j y hj=>by simp at hj⟩
     ·simp only[List.cons.injEq,and_true]at e1
      refine⟨some ⟨b,0,none⟩,cap,e1,rfl,by unfold maxLen at e5;omega,fun j y hj=>⟨b,0,rfl, ?_, ?_, ?_⟩⟩
      ·rintro rfl;exact hG (List.mem_append_left _ (by rw[e6];simp))
      ·exact hs b (List.mem_append_left _ (by rw[e6];simp))
      ·have hjl:=(List.getElem?_eq_some_iff.1 hj).1
       have:=Gx.repL_ints (kd := .i64) e7 j hjl
       rw[List.getD_eq_getElem?_getD,hj]at this
       simpa [World.cell?,e2] using this
    ·obtain⟨_,a,cap,e1,e2,e3,e4⟩:=h1
     simp only[List.cons.injEq,and_true]at e1
     refine⟨a,cap,e1,rfl,by unfold maxLen at e3;omega,fun j y hj => ?_⟩
     have hjl:=(List.getElem?_eq_some_iff.1 hj).1
     obtain⟨b,off,arr,e,fr,rfl,hb,hh,hL⟩:=e4 (by rintro rfl;simp at hjl)
     refine⟨b,off,rfl,fun e=>hN (e▸hb),hNs b hb, ?_⟩
     have:=Gx.repL_ints (kd := .i64) hL j hjl
     rw[List.getElem?_drop,List.getD_eq_getElem?_getD,hj]at this
     simpa [World.cell?,hh] using this
   obtain⟨a,cap,rfl,hr⟩:=hv
   refine⟨⟨((a,xs.length,cap),xs,F1),hr⟩::l,by simp[q1],by simp[q2,encR],by simp[q3],fun x hx => ?_⟩
   rcases List.mem_cons.1 hx with rfl|hx
   ·exact h1
   ·exact q4 x hx
theorem jf8 {w w2:World}{blk:Nat}{N:Nat→Prop}{f:Fl}:∀(l:List (RowT w blk)) (rest:List Value),(∀x∈l,Rep w2 N (.sl (.int .i64)) f x.1.2.1 [encR x] x.1.2.2) →
  RepL (Rep w2 N (.sl (.int .i64)) f) 1 (l.map (fun x=>x.1.2.1)) (l.map encR++rest) (l.map (fun x=>x.1.2.2)).flatten
 | [],rest,h=>by simp[RepL]
 | x::l,rest,h=>⟨x.1.2.2,(l.map (fun x=>x.1.2.2)).flatten,by simp,by simp,by simpa using h x (by simp),by simpa using jf8 l rest fun y hy=>h y (List.mem_cons_of_mem _ hy)⟩
theorem jll {α:Type} [Inhabited α] {enc:α→Value}{w W:World}{blk:Nat}{d:Array α}{arr:Array Value}{e:TypeId}{fr:Nat×Nat}(hh:w.heap[blk]? = some (.cells arr e fr)) (hb:blk<w.heap.size) (hd:d.size≤arr.size) (h:SW enc w blk 0 d W) :
  ∃arr',W.heap[blk]? = some (.cells arr' e fr)∧arr'.size=arr.size∧arr'.toList.take d.size=d.toList.map enc∧(∀b,b<w.heap.size→b≠blk→W.heap[b]? = w.heap[b]?)∧w.heap.size≤W.heap.size∧W.os=w.os∧W.tape=w.tape∧W.output=w.output:=by
 obtain⟨n,os,rfl⟩:=h
 refine⟨putCells enc 0 d arr, ?_,by simp[putCells], ?_,fun b h1 h2 => ?_, ?_,rfl,rfl,rfl⟩
 ·unfold sortWorld
  rw[heap_grow_old _ _ (by rw[Go.Sort.size_putRow];exact hb)]
  simp only[putRow,mapBlock,Array.getElem?_modify,if_true]
  show Option.map _ w.heap[blk]? = _
  rw[hh];rfl
 ·apply List.ext_getElem?
  intro k
  rw[List.getElem?_take,List.getElem?_map,Array.getElem?_toList,Array.getElem?_toList]
  by_cases hk:k<d.size
  ·rw[if_pos hk]
   simp only[putCells,Array.getElem?_mapIdx]
   rw[Array.getElem?_eq_getElem (show k<arr.size by omega),Array.getElem?_eq_getElem hk]
   simp only[Option.map_some,Nat.zero_le,Nat.zero_add,hk,and_self,if_true,Nat.sub_zero]
   rw[getElem!_pos d k hk]
  ·rw[if_neg hk,Array.getElem?_eq_none (by omega)];rfl
 ·unfold sortWorld
  rw[heap_grow_old _ _ (by rw[Go.Sort.size_putRow];exact h1)]
  simp only[putRow,mapBlock,Array.getElem?_modify]
  rw[if_neg (Ne.symm h2)]
  rfl
 ·unfold sortWorld
  rw[Go.Sort.size_grow,Go.Sort.size_putRow];show _≤w.heap.size+_;omega
theorem jkz {α:Type} [Inhabited α] {enc:α→Value}{w:World}{blk:Nat}{d:Array α}{arr:Array Value}{e:TypeId}(hh:w.heap[blk]? = some (.cells arr e (0,0))) (hd:arr.toList.take d.size=d.toList.map enc):Go.Sort.Holds enc w blk 0 d:=by
 intro j hj
 have h1:arr.toList[j]? = some (enc d[j]!):=by
  have:=congrArg (·[j]?) hd
  simp only[List.getElem?_take,hj,if_true,List.getElem?_map,Array.getElem?_toList]at this
  rw[Array.getElem?_toList,this,Array.getElem?_eq_getElem hj,getElem!_pos d j hj];rfl
 rw[Nat.zero_add]
 refine⟨?_, ?_⟩
 ·simp only[World.cell?,hh];simpa using h1
 ·simp[World.frozen?,hh]
theorem jic {α:Type} [Inhabited α] {c:List Int→List Int→Int}{k:α→List Int}{d:Array α}(h:SortedIn (fun x y=>ltOf c (k x) (k y)) 0 d.size d):SortedL c (d.toList.map k):=by
 unfold SortedL
 rw[List.pairwise_iff_getElem]
 intro i j hi hj hij
 simp only[List.length_map,Array.length_toList]at hi hj
 have:=h i j (Nat.zero_le _) hij hj
 simp only[List.getElem_map,Array.getElem_toList]
 rw[getElem!_pos d i (by omega),getElem!_pos d j (by omega)]at this
 exact this
theorem jj5 {α:Type} [Inhabited α] {d d':Array α}(h:PermIn 0 d.size d d'):d'.toList.Perm d.toList:=by
 obtain⟨h1,h2,h3⟩:=h
 have e1:d'.extract 0 d.size=d':=by rw[←h1];exact Array.extract_size
 rwa [e1,Array.extract_size]at h3
end Go.Gx
