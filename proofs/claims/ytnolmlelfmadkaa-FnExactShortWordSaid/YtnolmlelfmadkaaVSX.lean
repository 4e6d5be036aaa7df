import Derived.Test.YtnolmlelfmadkaaGSXp1
import Derived.Test.YtnolmlelfmadkaaGxSort8
import Derived.Test.YtnolmlelfmadkaaPSort
import Derived.Deep.QuietTactic
import Derived.WalkSpells
import Derived.BigCall
set_option linter.unusedVariables false
set_option linter.unusedSimpArgs false
set_option maxRecDepth 100000
namespace Go.Proofs.Ytnolmlelfmadkaa
open Go Go.Gx Go.Proofs Go.Shelf Go.RowKit Go.Lib
def SO.ren:Ren where
 f:=fun|8=>38|13=>43|14=>44|15=>45|16=>46|29=>58|30=>59|42=>60|49=>61|n=>n
 t:=fun|0=>0|3=>3|4=>4|5=>5|12=>12|17=>17|20=>20|26=>44|33=>50|34=>51|36=>53|38=>55|42=>59|47=>68|56=>75|82=>76|83=>77|84=>78|85=>79|86=>80|87=>81|89=>83|n=>n
 g:=fun n=>n
theorem SO.lays:LaysGt.n8 Try.prog SO.ren where
 mixed:=by kernel_rfl
 f8:=Try.func38.trans (congrArg some (by kernel_rfl))
 f13:=Try.func43.trans (congrArg some (by kernel_rfl))
 f14:=Try.func44.trans (congrArg some (by kernel_rfl))
 f15:=Try.func45.trans (congrArg some (by kernel_rfl))
 f16:=Try.func46.trans (congrArg some (by kernel_rfl))
 f29:=Try.func58.trans (congrArg some (by kernel_rfl))
 f30:=Try.func59.trans (congrArg some (by kernel_rfl))
 f42:=Try.func60.trans (congrArg some (by kernel_rfl))
 f49:=Try.func61.trans (congrArg some (by kernel_rfl))
 t0:=Try.underlying0
 a0:=Try.isAgg0
 z0:=Try.sizeOf0
 v0:=Try.zeroValue0
 i0:=by kernel_rfl
 t3:=Try.underlying3
 a3:=Try.isAgg3
 z3:=Try.sizeOf3
 v3:=Try.zeroValue3
 i3:=by kernel_rfl
 t4:=Try.underlying4
 a4:=Try.isAgg4
 z4:=Try.sizeOf4
 v4:=Try.zeroValue4
 i4:=by kernel_rfl
 t5:=Try.underlying5
 a5:=Try.isAgg5
 z5:=Try.sizeOf5
 v5:=Try.zeroValue5
 i5:=by kernel_rfl
 t12:=Try.underlying12
 a12:=Try.isAgg12
 z12:=Try.sizeOf12
 v12:=Try.zeroValue12
 i12:=by kernel_rfl
 t17:=Try.underlying17
 a17:=Try.isAgg17
 z17:=Try.sizeOf17
 v17:=Try.zeroValue17
 i17:=by kernel_rfl
 t20:=Try.underlying20
 a20:=Try.isAgg20
 z20:=Try.sizeOf20
 v20:=Try.zeroValue20
 i20:=by kernel_rfl
 t26:=Try.underlying44
 a26:=Try.isAgg44
 z26:=Try.sizeOf44
 v26:=Try.zeroValue44
 i26:=by kernel_rfl
 t33:=Try.underlying50
 a33:=Try.isAgg50
 z33:=Try.sizeOf50
 v33:=Try.zeroValue50
 i33:=by kernel_rfl
 t34:=Try.underlying51
 a34:=Try.isAgg51
 z34:=Try.sizeOf51
 v34:=Try.zeroValue51
 i34:=by kernel_rfl
 t36:=Try.underlying53
 a36:=Try.isAgg53
 z36:=Try.sizeOf53
 v36:=Try.zeroValue53
 i36:=by kernel_rfl
 t38:=Try.underlying55
 a38:=Try.isAgg55
 z38:=Try.sizeOf55
 v38:=Try.zeroValue55
 i38:=by kernel_rfl
 t42:=Try.underlying59
 a42:=Try.isAgg59
 z42:=Try.sizeOf59
 v42:=Try.zeroValue59
 i42:=by kernel_rfl
 t47:=Try.underlying68
 a47:=Try.isAgg68
 z47:=Try.sizeOf68
 v47:=Try.zeroValue68
 i47:=by kernel_rfl
 t56:=Try.underlying75
 a56:=Try.isAgg75
 z56:=Try.sizeOf75
 v56:=Try.zeroValue75
 i56:=by kernel_rfl
 t82:=Try.underlying76
 a82:=Try.isAgg76
 z82:=Try.sizeOf76
 v82:=Try.zeroValue76
 i82:=by kernel_rfl
 t83:=Try.underlying77
 a83:=Try.isAgg77
 z83:=Try.sizeOf77
 v83:=Try.zeroValue77
 i83:=by kernel_rfl
 t84:=Try.underlying78
 a84:=Try.isAgg78
 z84:=Try.sizeOf78
 v84:=Try.zeroValue78
 i84:=by kernel_rfl
 t85:=Try.underlying79
 a85:=Try.isAgg79
 z85:=Try.sizeOf79
 v85:=Try.zeroValue79
 i85:=by kernel_rfl
 t86:=Try.underlying80
 a86:=Try.isAgg80
 z86:=Try.sizeOf80
 v86:=Try.zeroValue80
 i86:=by kernel_rfl
 t87:=Try.underlying81
 a87:=Try.isAgg81
 z87:=Try.sizeOf81
 v87:=Try.zeroValue81
 i87:=by kernel_rfl
 t89:=Try.underlying83
 a89:=Try.isAgg83
 z89:=Try.sizeOf83
 v89:=Try.zeroValue83
 i89:=by kernel_rfl
def RdI (W:World) (a:Option Addr) (xs:List Int):Prop:=∀(j:Nat) (y:Int),xs[j]? = some y→∃b o,a=some ⟨b,o,none⟩∧W.cell? ⟨b,o+j,none⟩=some (.int .i64 y)
theorem RdI.drewN {W:World}{a:Option Addr}{xs:List Int}(h:RdI W a xs) (q:Nat):RdI (W.drewN q) a xs:=h
theorem zw {xs ys:List Int}{i:Nat}(h:∀j,j<i→xs[j]? = ys[j]?) (h1:i≤xs.length) (h2:i≤ys.length):cmpL xs ys=cmpL (xs.drop i) (ys.drop i):=by
 induction i generalizing xs ys with
 | zero=>simp
 | succ i ih =>
  cases xs with
  | nil=>simp at h1
  | cons x xs =>
   cases ys with
   | nil=>simp at h2
   | cons y ys =>
    have h0:=h 0 (by omega)
    simp only[List.getElem?_cons_zero,Option.some.injEq]at h0
    subst h0
    simp only[cmpL,if_true,List.drop_succ_cons]
    exact ih (fun j hj=>by have:=h (j+1) (by omega);simpa using this) (by simpa using h1) (by simpa using h2)
set_option maxHeartbeats 2000000 in
theorem SO.lists_walk (a b:Option Addr) (xs ys:List Int) (ca cb:Nat) (W:World) (hx:RdI W a xs) (hy:RdI W b ys) (lx:xs.length<9223372036854775808) (ly:ys.length<9223372036854775808) :
  Calls Try.prog 40 #[.slice a xs.length ca,.slice b ys.length cb] W fun e w'=>e = .returned (.int .i64 (cmpL xs ys))∧∃q,w'=W.drewN q:=by
 have HX:Hid (RdI W a xs):=hx
 have HY:Hid (RdI W b ys):=hy
 clear hx hy
 go_enter Try.func40,Try.ntmps40
 go_wp2
 go_loopw [5] (fun vi wr=>∃i:Nat,vi = .int .i64 i∧i≤xs.length∧i≤ys.length∧(∀j,j<i→xs[j]? = ys[j]?)∧∃q,wr=W.drewN q) (fun vi _=>xs.length-(Go.Proofs.intOf vi).toNat)
 case atStart=>exact⟨0,rfl,by omega,by omega,fun j hj=>absurd hj (by omega),0,rfl⟩
 case round =>
  obtain⟨i,rfl,h1,h2,h3,q,rfl⟩:=hrel
  have H3:Hid (∀j,j<i→xs[j]? = ys[j]?):=h3
  clear h3
  by_cases c1:i<xs.length
  ·have c1z:(i:Int)<xs.length:=by omega
   by_cases c2:i<ys.length
   ·have c2z:(i:Int)<ys.length:=by omega
    obtain⟨ba,oa,rfl,hca⟩:=HX.out i xs[i] (List.getElem?_eq_getElem c1)
    obtain⟨bb,ob,rfl,hcb⟩:=HY.out i ys[i] (List.getElem?_eq_getElem c2)
    have hdx:xs.drop i=xs[i]::xs.drop (i+1):=List.drop_eq_getElem_cons c1
    have hdy:ys.drop i=ys[i]::ys.drop (i+1):=List.drop_eq_getElem_cons c2
    have hc:=zw H3.out h1 h2
    rw[hdx,hdy]at hc
    have HXI:Hid (xs[i]? = some xs[i]):=List.getElem?_eq_getElem c1
    have HYI:Hid (ys[i]? = some ys[i]):=List.getElem?_eq_getElem c2
    clear hdx hdy HX HY
    generalize xs[i]=u at hca hc HXI
    generalize ys[i]=v at hcb hc HYI
    by_cases e:u=v
    ·subst e
     clear hc
     go_wp2
     go_quiet (fail)
     go_wp2
     go_roundw
     case rel =>
      refine⟨i+1,by go_num,by omega,by omega,fun j hj => ?_,_,rfl⟩
      rcases Nat.lt_or_ge j i with h|h
      ·exact H3.out j h
      ·rw[show j=i by omega,HXI.out,HYI.out]
     case measure=>simp[Go.Proofs.intOf];omega
    ·by_cases l:u<v
     ·have HE:Hid (cmpL xs ys = -1):=by show cmpL xs ys = -1;rw[hc];simp only[cmpL];rw[if_neg e,if_pos l]
      clear hc H3 HXI HYI
      go_wp2
      go_quiet (fail)
      go_wp2
      go_quiet (fail)
      go_wp2
      go_ret
      exact⟨by rw[HE.out];rfl,by first|exact⟨_,rfl⟩|(simp only[World.drewN_drewN];exact⟨_,rfl⟩)⟩
     ·have HE:Hid (cmpL xs ys=1):=by show cmpL xs ys=1;rw[hc];simp only[cmpL];rw[if_neg e,if_neg l]
      clear hc H3 HXI HYI
      go_wp2
      go_quiet (fail)
      go_wp2
      go_quiet (fail)
      go_wp2
      go_ret
      exact⟨by rw[HE.out];rfl,by first|exact⟨_,rfl⟩|(simp only[World.drewN_drewN];exact⟨_,rfl⟩)⟩
   ·have c2z:¬((i:Int)<ys.length):=by omega
    have l1:¬((xs.length:Int)<ys.length):=by omega
    have l2:(ys.length:Int)<xs.length:=by omega
    have HE:Hid (cmpL xs ys=1):=by
     have hc:=zw H3.out h1 h2
     show cmpL xs ys=1
     rw[hc]
     rw[List.drop_eq_nil_of_le (show ys.length≤i by omega),List.drop_eq_getElem_cons c1];rfl
    clear HX HY H3
    go_wp2
    go_ret
    exact⟨by rw[HE.out];rfl,by first|exact⟨_,rfl⟩|(simp only[World.drewN_drewN];exact⟨_,rfl⟩)⟩
  ·have c1z:¬((i:Int)<xs.length):=by omega
   by_cases l:xs.length<ys.length
   ·have l1:(xs.length:Int)<ys.length:=by omega
    have HE:Hid (cmpL xs ys = -1):=by
     have hc:=zw H3.out h1 h2
     show cmpL xs ys = -1
     rw[hc]
     rw[List.drop_eq_nil_of_le (show xs.length≤i by omega),List.drop_eq_getElem_cons (show i<ys.length by omega)];rfl
    clear HX HY H3
    go_wp2
    go_ret
    exact⟨by rw[HE.out];rfl,by first|exact⟨_,rfl⟩|(simp only[World.drewN_drewN];exact⟨_,rfl⟩)⟩
   ·have l1:¬((xs.length:Int)<ys.length):=by omega
    have l2:¬((ys.length:Int)<xs.length):=by omega
    have HE:Hid (cmpL xs ys=0):=by
     have hc:=zw H3.out h1 h2
     show cmpL xs ys=0
     rw[hc]
     rw[List.drop_eq_nil_of_le (show xs.length≤i by omega),List.drop_eq_nil_of_le (show ys.length≤i by omega)];rfl
    clear HX HY H3
    go_wp2
    go_ret
    exact⟨by rw[HE.out];rfl,by first|exact⟨_,rfl⟩|(simp only[World.drewN_drewN];exact⟨_,rfl⟩)⟩
set_option maxHeartbeats 2000000 in
theorem SO.terms_walk (a b:Option Addr) (xs ys:List Int) (ca cb:Nat) (W:World) (hx:RdI W a xs) (hy:RdI W b ys) (lx:xs.length<9223372036854775808) (ly:ys.length<9223372036854775808) :
  Calls Try.prog 33 #[.slice a xs.length ca,.slice b ys.length cb] W fun e w'=>e = .returned (.int .i64 (cmpT xs ys))∧∃q,w'=W.drewN q:=by
 have hc:=SO.lists_walk a b xs ys ca cb W hx hy lx ly
 clear hx hy
 by_cases h1:xs.length<ys.length
 ·have l1:(xs.length:Int)<ys.length:=by omega
  have HE:Hid (cmpT xs ys = -1):=by show cmpT xs ys = -1;unfold cmpT;rw[if_pos h1]
  clear hc
  go_enter Try.func33,Try.ntmps33
  go_wp2
  go_ret
  exact⟨by rw[HE.out];rfl,0,rfl⟩
 ·have l1:¬((xs.length:Int)<ys.length):=by omega
  by_cases h2:ys.length<xs.length
  ·have l2:(ys.length:Int)<xs.length:=by omega
   have HE:Hid (cmpT xs ys=1):=by show cmpT xs ys=1;unfold cmpT;rw[if_neg h1,if_pos h2]
   clear hc
   go_enter Try.func33,Try.ntmps33
   go_wp2
   go_ret
   exact⟨by rw[HE.out];rfl,0,rfl⟩
  ·have l2:¬((ys.length:Int)<xs.length):=by omega
   have HE:Hid (cmpT xs ys=cmpL xs ys):=by show cmpT xs ys=cmpL xs ys;unfold cmpT;rw[if_neg h1,if_neg h2]
   go_enter Try.func33,Try.ntmps33
   go_wp2_with (go_at_call 40;refine hc.mono ?_;rintro e w1 ⟨rfl,q,rfl⟩)
   go_ret
   exact⟨by rw[HE.out];rfl,q,rfl⟩
def OrdOk (g:Nat) (c:List Int→List Int→Int):Prop:=∀(a b:Option Addr) (xs ys:List Int) (ca cb:Nat) (W:World),RdI W a xs→RdI W b ys→xs.length<9223372036854775808→ys.length<9223372036854775808 →
  Calls Try.prog g #[.slice a xs.length ca,.slice b ys.length cb] W fun e w'=>e = .returned (.int .i64 (c xs ys))∧∃q,w'=W.drewN q
set_option maxHeartbeats 2000000 in
theorem SO.less_walk (go:Nat) (c:List Int→List Int→Int) (ho:OrdOk go c) (eg:∀args w,(callFunc go args).run Try.prog w = .ok (.enter go args) w) (blk n cap Br Bo:Nat) (W:World) (i j:Nat) (hi:i<n) (hj:j<n) (a b:Option Addr) (xs ys:List Int) (ca cb:Nat)
  (hr:W.cell? ⟨Br,0,none⟩=some (.slice (some ⟨blk,0,none⟩) n cap)) (ho0:W.cell? ⟨Bo,0,none⟩=some (.func (.func go) #[] #[]))
  (hci:W.cell? ⟨blk,i,none⟩=some (.slice a xs.length ca)) (hcj:W.cell? ⟨blk,j,none⟩=some (.slice b ys.length cb)) (hx:RdI W a xs) (hy:RdI W b ys) (lx:xs.length<9223372036854775808) (ly:ys.length<9223372036854775808) :
  Calls Try.prog 39 #[.int .i64 i,.int .i64 j,.pointer (some ⟨Bo,0,none⟩),.pointer (some ⟨Br,0,none⟩)] W fun e w'=>e = .returned (.bool (ltOf c xs ys))∧∃q,w'=W.drewN q:=by
 have hc:=fun q=>ho a b xs ys ca cb (W.drewN q) (hx.drewN q) (hy.drewN q) lx ly
 clear hx hy ho
 have HE:Hid (ltOf c xs ys=decide (c xs ys<0)):=rfl
 generalize ltOf c xs ys=R at HE
 generalize c xs ys=z at hc HE
 have hiz:(i:Int)<n:=by omega
 have hjz:(j:Int)<n:=by omega
 go_enter Try.func39,Try.ntmps39
 go_wp2
 go_quiet (first|(go_at_fn go;exact Calls.quiet_of (hc _))|fail)
 go_wp2
 go_ret
 exact⟨by rw[HE.out];rfl,_,rfl⟩
noncomputable def SO.eT:TypeInfo:=(Try.prog.info? 31).get (by kernel_rfl)
noncomputable def SO.eE:TypeInfo:=(Try.prog.info? 22).get (by kernel_rfl)
theorem SO.eK (n:Nat) (h2:2≤n):Lib.swapperK n SO.eE 23=9:=by
 have a:SO.eE.hasPointers=true:=by kernel_rfl
 have b:SO.eE.bytes=24:=by kernel_rfl
 have c:(n==0)=false:=by simp;omega
 have d:(n==1)=false:=by simp;omega
 simp[Lib.swapperK,a,b,c,d]
theorem SO.ltW (c:List Int→List Int→Int) (hok:CmpOk c) (w:World) (blk:Nat):Go.Sort.SWO (fun x y:RowT w blk=>ltOf c x.1.2.1 y.1.2.1) where
 irrefl:=fun x=>jdr hok _
 trans:=fun x y z=>jgl hok _ _ _
 ntrans:=fun x y z=>je1 hok _ _ _
def SO.w1 (w:World) (blk n cap go:Nat):World:=(w.alloc (.cells #[.slice (some ⟨blk,0,none⟩) n cap] 31)).alloc (.cells #[.func (.func go) #[] #[]] 41)
theorem SO.w1_old {w:World}{blk n cap go b:Nat}(h:b<w.heap.size):(SO.w1 w blk n cap go).heap[b]? = w.heap[b]? := by
 unfold SO.w1
 rw[Go.Sort.alloc_eq_grow,Go.Sort.alloc_eq_grow,Go.Sort.grow_grow,Go.Sort.heap_grow_old _ _ h]
theorem SO.w1_size {w:World}{blk n cap go:Nat}:(SO.w1 w blk n cap go).heap.size=w.heap.size+2:=by
 unfold SO.w1
 rw[Go.Sort.alloc_eq_grow,Go.Sort.alloc_eq_grow,Go.Sort.grow_grow,Go.Sort.size_grow];rfl
theorem SO.lessReads (go:Nat) (c:List Int→List Int→Int) (ho:OrdOk go c) (eg:∀args w,(callFunc go args).run Try.prog w = .ok (.enter go args) w) (w:World) (blk cap:Nat) (hblk:blk<w.heap.size) (d:Array (RowT w blk))
  (hH:Go.Sort.Holds encR (SO.w1 w blk d.size cap go) blk 0 d) :
  LessReads Try.prog 39 #[.pointer (some ⟨w.heap.size+1,0,none⟩),.pointer (some ⟨w.heap.size,0,none⟩)] (encR (W:=w) (blk:=blk)) (fun x y:RowT w blk=>ltOf c x.1.2.1 y.1.2.1) blk 0 d.size (SO.w1 w blk d.size cap go):=by
 intro m os dk hs i j hi hj
 have hb1:blk<(SO.w1 w blk d.size cap go).heap.size:=by rw[SO.w1_size];omega
 have e:sortWorld encR (SO.w1 w blk d.size cap go) blk 0 m dk os=Go.Sort.putRow encR (Go.Sort.grow (Go.Sort.ahead (SO.w1 w blk d.size cap go) m) os) blk 0 dk:=by
  unfold sortWorld;rw[Go.Sort.putRow_grow _ (Go.Sort.ahead (SO.w1 w blk d.size cap go) m) _ blk 0 _ hb1]
 have hHg:Go.Sort.Holds encR (Go.Sort.grow (Go.Sort.ahead (SO.w1 w blk d.size cap go) m) os) blk 0 d:=Go.Sort.holds_grow _ _ _ blk 0 d hb1 (Go.Sort.holds_ahead _ _ _ _ _ _ hH)
 have other:∀a:Addr,a.block≠blk→a.block<w.heap.size+2→(sortWorld encR (SO.w1 w blk d.size cap go) blk 0 m dk os).cell? a=(SO.w1 w blk d.size cap go).cell? a:=fun a h1 h2=>by
  rw[e,Go.Sort.cell?_putRow_other _ _ blk 0 dk _ (Or.inl h1),Go.Sort.cell?_grow _ _ _ (by show a.block<(SO.w1 w blk d.size cap go).heap.size;rw[SO.w1_size];exact h2)]
  rfl
 have rd:∀x:RowT w blk,RdI (sortWorld encR (SO.w1 w blk d.size cap go) blk 0 m dk os) x.1.1.1 x.1.2.1:=fun x k y hk=>by
  obtain⟨b,o,h1,h2,h3,h4⟩:=x.2.2.2 k y hk
  refine⟨b,o,h1, ?_⟩
  rw[other _ h2 (by show b<_;omega)]
  simp only[World.cell?,SO.w1_old h3]at h4 ⊢
  exact h4
 have row:∀k,k<dk.size→(sortWorld encR (SO.w1 w blk d.size cap go) blk 0 m dk os).cell? ⟨blk,k,none⟩=some (.slice dk[k]!.1.1.1 dk[k]!.1.2.1.length dk[k]!.1.1.2.2):=fun k hk=>by
  rw[e]
  have:=Go.Sort.cell?_putRow encR _ blk 0 d dk hHg hs k hk
  rw[Nat.zero_add]at this
  rw[this]
  show some (encR dk[k]!)=_
  unfold encR
  rw[dk[k]!.2.1]
 exact SO.less_walk go c ho eg blk d.size cap w.heap.size (w.heap.size+1) _ i j hi hj _ _ _ _ _ _
  (by rw[other _ (by show w.heap.size≠blk;omega) (by show w.heap.size<_;omega)];unfold SO.w1;simp) (by rw[other _ (by show w.heap.size+1≠blk;omega) (by show w.heap.size+1<_;omega)];unfold SO.w1;simp)
  (row i (by omega)) (row j (by omega)) (rd _) (rd _) dk[i]!.2.2.1 dk[j]!.2.2.1
def SO.Done (c:List Int→List Int→Int) (w:World) (blk:Nat) (l:List (RowT w blk)) (arr:Array Value) (e:TypeId) (w':World):Prop :=
 ∃(l':List (RowT w blk)) (arr':Array Value),l'.Perm l∧SortedL c (l'.map (fun x=>x.1.2.1))∧w'.heap[blk]? = some (.cells arr' e (0,0))∧arr'.size=arr.size∧arr'.toList.take l'.length=l'.map encR ∧
  (∀b,b<w.heap.size→b≠blk→w'.heap[b]? = w.heap[b]?)∧w.heap.size≤w'.heap.size∧w'.os=w.os∧w'.tape=w.tape∧w'.output=w.output
set_option maxHeartbeats 2000000 in
theorem SO.enter_walk (go n cap:Nat) (a:Option Addr) (w:World) (R:World→Prop)
  (hS:Calls Try.prog 38 #[.iface 31 (.slice a n cap),.func (.func 39) #[] #[.pointer (some ⟨w.heap.size+1,0,none⟩),.pointer (some ⟨w.heap.size,0,none⟩)]] ((w.alloc (.cells #[.slice a n cap] 31)).alloc (.cells #[.func (.func go) #[] #[]] 41)) fun e w'=>e = .returned (.tuple #[])∧R w') :
  Calls Try.prog 32 #[.slice a n cap,.func (.func go) #[] #[]] w fun e w'=>e = .returned (.tuple #[])∧R w':=by
 go_enter Try.func32,Try.ntmps32
 go_wp2_with (go_at_call 38;refine hS.mono ?_;rintro e w' ⟨rfl,hR⟩)
 go_end0
 exact⟨rfl,hR⟩
theorem SO.sort_walk (go:Nat) (c:List Int→List Int→Int) (hok:CmpOk c) (ho:OrdOk go c) (eg:∀args w,(callFunc go args).run Try.prog w = .ok (.enter go args) w) (w:World) (blk cap:Nat) (hblk:blk<w.heap.size) (l:List (RowT w blk)) (arr:Array Value) (e:TypeId)
  (hh:w.heap[blk]? = some (.cells arr e (0,0))) (hl:arr.toList.take l.length=l.map encR) (hsz:l.length≤4294967296) :
  Calls Try.prog 32 #[.slice (some ⟨blk,0,none⟩) l.length cap,.func (.func go) #[] #[]] w fun x w'=>x = .returned (.tuple #[])∧SO.Done c w blk l arr e w':=by
 have hla:l.length≤arr.size:=by
  have:=congrArg List.length hl
  simp only[List.length_take,List.length_map,Array.length_toList]at this
  omega
 have hb1:blk<(SO.w1 w blk l.length cap go).heap.size:=by rw[SO.w1_size];omega
 have hh1:(SO.w1 w blk l.length cap go).heap[blk]? = some (.cells arr e (0,0)):=by rw[SO.w1_old hblk,hh]
 refine SO.enter_walk go l.length cap _ w _ ?_
 rcases Nat.lt_or_ge l.length 2 with h2|h2
 ·have hS:=Any.sort_SliceStable_tiny SO.lays 31 22 SO.eT SO.eE (by kernel_rfl) (by kernel_rfl) (by kernel_rfl) (by kernel_rfl) 23 (fun _=>by kernel_rfl) (some ⟨blk,0,none⟩) l.length cap (by omega)
   (if l.length=0 then 49 else 50) (by rcases (show l.length=0∨l.length=1 by omega) with h|h<;>rw[h]<;>kernel_rfl) (.func 39) #[] #[.pointer (some ⟨w.heap.size+1,0,none⟩),.pointer (some ⟨w.heap.size,0,none⟩)] (SO.w1 w blk l.length cap go)
  refine Calls.mono hS ?_
  rintro e' w' ⟨rfl,os,rfl⟩
  refine⟨rfl,l,arr,List.Perm.refl _, ?_, ?_,rfl,hl,fun b h3 h4 => ?_, ?_,rfl,rfl,rfl⟩
  ·rcases l with _|⟨x,_|⟨y,l⟩⟩
   ·exact List.Pairwise.nil
   ·exact List.pairwise_singleton _ _
   ·exfalso;simp at h2;omega
  ·rw[Go.Sort.heap_grow_old _ _ hb1,hh1]
  ·rw[Go.Sort.heap_grow_old _ _ (by rw[SO.w1_size];omega),SO.w1_old h3]
  ·rw[Go.Sort.size_grow,SO.w1_size];omega
 ·have hds:l.toArray.size=l.length:=by simp
  have hH:Go.Sort.Holds (encR (W:=w) (blk:=blk)) (SO.w1 w blk l.length cap go) blk 0 l.toArray:=jkz hh1 (by simpa using hl)
  have hless:=SO.lessReads go c ho eg w blk cap hblk l.toArray (by rw[hds];exact hH)
  rw[hds]at hless
  have hS:=jgj (α:=RowT w blk) SO.lays 31 22 SO.eT SO.eE (by kernel_rfl) (by kernel_rfl) (by kernel_rfl) (by kernel_rfl) 23 (fun _=>by kernel_rfl) (by kernel_rfl) (fun _=>by kernel_rfl) encR (fun _=>rfl) _ (SO.ltW c hok w blk) 39 _
   (enters_of Try.func39 (by kernel_rfl) rfl) blk 0 cap l.toArray (by simpa using h2) (by rw[hds];omega) 57 (by rw[SO.eK _ (by simpa using h2)];kernel_rfl) false
   (fun args W=>run_callFunc_extern Try.func57 (by kernel_rfl) (by kernel_rfl) (by kernel_rfl) (e:=Extern.ReflectliteSwapper.swap false) (by kernel_rfl) args W) (SO.w1 w blk l.length cap go) (by rw[hds];exact hless) hH hb1
  rw[hds]at hS
  refine Calls.mono hS ?_
  rintro e' w' ⟨rfl,d',hsw,hp,hs⟩
  have hz:d'.size=l.length:=hp.1.trans hds
  obtain⟨arr',f1,f2,f3,f4,f5,f6,f7,f8⟩:=jll hh1 hb1 (by omega) hsw
  have hpl:=jj5 (by rw[hds];exact hp)
  refine⟨rfl,d'.toList,arr',by simpa using hpl,jic (by rw[hz];exact hs),f1,f2,by simpa using f3,fun b h3 h4 => ?_, ?_,f6,f7,f8⟩
  ·rw[f4 b (by rw[SO.w1_size];omega) h4,SO.w1_old h3]
  ·rw[SO.w1_size]at f5;omega
theorem SO.good (go:Nat) (c:List Int→List Int→Int) (hok:CmpOk c) (ho:OrdOk go c) (eg:∀args w,(callFunc go args).run Try.prog w = .ok (.enter go args) w) (g:Fl) :
  Gx.Good Try.prog 32 { a:=(.pair (.sl (.sl I)) (.pair (.clo go 0 .unit) .unit)),md:=[1,0],mf:=[.o g],m:=(.pair (.sl (.sl I)) .unit),r:=(.tup .unit),rf := .i,f:=fun x=>sortRowsV c x.1 }:=by
 rintro⟨rows,⟨⟩,⟨⟩⟩ y hx w N ⟨al⟩ M hargs hnd hM hN
 have hx:sortRowsV c rows=some y:=hx
 unfold sortRowsV at hx
 split at hx
 case isFalse=>cases hx
 rename_i hsz
 have hx:=Option.some.inj hx
 subst hx
 match al,hargs with
 | [v0,v1],⟨M1,M2,e0,h1,h2,e2⟩ =>
  have e2:M2=[]:=e2
  subst e2
  rw[List.append_nil]at e0
  subst e0
  have e1:v1 = .func (.func go) #[] #[]:=by
   obtain⟨cs,q1,q2,vs,q3,q4⟩:=h2
   have q1:cs=[v1]:=q1
   subst q1
   simp only[List.cons.injEq,and_true]at q3
   have q4:vs=[]:=q4.1
   rw[q3,q4];rfl
  subst e1
  obtain⟨cs,q1,q2⟩:=h1
  have q1:cs=[v0]:=q1
  subst q1
  rcases q2 with⟨r1,r2,r3⟩|⟨blk,cap,arr,e,G,r1,r2,r3,r4,r5,r6,r7⟩
  ·have r1:rows=[]:=r1
   subst r1
   simp only[List.cons.injEq,and_true]at r2
   subst r2
   subst r3
   refine Calls.mono (SO.enter_walk go 0 0 none w _ (Any.sort_SliceStable_tiny SO.lays 31 22 SO.eT SO.eE (by kernel_rfl) (by kernel_rfl) (by kernel_rfl) (by kernel_rfl) 23 (fun _=>by kernel_rfl) none 0 0 (by omega) 49 (by kernel_rfl) (.func 39) #[] #[.pointer (some ⟨w.heap.size+1,0,none⟩),.pointer (some ⟨w.heap.size,0,none⟩)] _)) ?_
   rintro e' w' ⟨rfl,os,rfl⟩
   refine⟨[],[],List.nodup_nil,.inr ⟨.unit,(), #[],rfl,HEq.rfl,rfl,rfl,rfl⟩,⟨[],[],rfl,⟨[.slice none 0 0],rfl,.inl ⟨rfl,rfl,rfl⟩⟩,rfl⟩,by simp,by simp,fun b h1 _ => ?_, ?_,rfl,rfl,rfl,trivial⟩
   ·rw[Go.Sort.alloc_eq_grow,Go.Sort.alloc_eq_grow,Go.Sort.grow_grow,Go.Sort.grow_grow,Go.Sort.heap_grow_old _ _ h1]
   ·rw[Go.Sort.alloc_eq_grow,Go.Sort.alloc_eq_grow,Go.Sort.grow_grow,Go.Sort.grow_grow,Go.Sort.size_grow];omega
  ·simp only[List.cons.injEq,and_true]at r1
   subst r1
   subst r6
   have hblk:blk<w.heap.size:=(hM blk (by simp)).2
   have hnb:¬N blk:=(hM blk (by simp)).1
   have hndG:=List.nodup_cons.1 hnd
   obtain⟨l,l1,l2,l3,l4⟩:=jf7 hnb hN hndG.1 r7 (fun b hb=>(hM b (List.mem_cons_of_mem _ hb)).2)
   have l1:l.map (fun x=>x.1.2.1)=rows:=l1
   have hll:l.length=rows.length:=by rw[←l1,List.length_map]
   have l2:l.map encR=arr.toList.take rows.length:=l2
   rw[←hll]at l2
   have hW:=SO.sort_walk go c hok ho eg w blk cap hblk l arr e r2 l2.symm (by rw[hll];exact hsz)
   rw[hll]at hW
   refine Calls.mono hW ?_
   rintro e' w' ⟨rfl,l',arr',p1,p2,p3,p4,p5,p6,p7,p8,p9,p10⟩
   have hrow:l'.map (fun x=>x.1.2.1)=sortBy c rows:=jbo hok (by rw[←l1];exact p1.map _) p2
   have hG:((l'.map (fun x=>x.1.2.2)).flatten).Perm G:=by rw[←l3];exact(p1.map _).flatten
   have hmem:∀x,x∈blk::(l'.map (fun x=>x.1.2.2)).flatten→x∈blk::G:=fun x hx=>by
    rcases List.mem_cons.1 hx with rfl|hx
    ·simp
    ·exact List.mem_cons_of_mem _ (hG.mem_iff.1 hx)
   have hlen:(sortBy c rows).length=rows.length:=(jac hok rows).length_eq
   refine⟨[],blk::(l'.map (fun x=>x.1.2.2)).flatten, ?_,.inr ⟨.unit,(), #[],rfl,HEq.rfl,rfl,rfl,rfl⟩,⟨blk::(l'.map (fun x=>x.1.2.2)).flatten,[],by simp,⟨[.slice (some ⟨blk,0,none⟩) rows.length cap],rfl,.inr ⟨blk,cap,arr',e,(l'.map (fun x=>x.1.2.2)).flatten, ?_,p3,by rw[p4];exact r3, ?_,r5,rfl, ?_⟩⟩,rfl⟩,fun b hb => .inl (hmem b (by simpa using hb)),fun b hb => ?_,fun b h1 h2=>p6 b h1 fun h=>h2 (by rw[h];simp),p7,p8,p9,p10,trivial⟩
   ·simp only[List.nil_append]
    exact List.nodup_cons.2 ⟨fun h=>hndG.1 (hG.mem_iff.1 h),hG.nodup_iff.2 hndG.2⟩
   ·show [Value.slice (some ⟨blk,0,none⟩) rows.length cap]=[Value.slice (some ⟨blk,0,none⟩) (sortBy c rows).length cap]
    rw[hlen]
   ·show(sortBy c rows).length≤cap
    rw[hlen];exact r4
   ·have key:∀x∈l',Rep w' (fun b=>b<w'.heap.size∧b ∉ ([]:List Nat)∧b ∉ blk::(l'.map (fun x=>x.1.2.2)).flatten∧(b<w.heap.size→N b∨b∈blk::G)) (.sl (.int .i64)) g x.1.2.1 [encR x] x.1.2.2:=fun x hx=>by
     refine(l4 x (p1.mem_iff.1 hx)).mono (fun b hb => ?_) fun b hb => ?_
     ·have hbs:=hN b hb
      have hbm:b ∉ blk::G:=fun h=>(hM b h).1 hb
      exact⟨⟨by omega,by simp,fun h=>hbm (hmem b h),fun _ => .inl hb⟩,p6 b hbs fun h=>hbm (by rw[h];simp)⟩
     ·have hbG:b∈G:=hG.mem_iff.1 (List.mem_flatten.2 ⟨_,List.mem_map.2 ⟨x,hx,rfl⟩,hb⟩)
      exact p6 b (hM b (List.mem_cons_of_mem _ hbG)).2 fun h=>hndG.1 (h▸hbG)
    have:=jf8 l' (arr'.toList.drop l'.length) key
    rw[←p5,List.take_append_drop,hrow]at this
    exact this
   ·have:=hM b (hmem b (by simpa using hb));omega
theorem SO.terms_ok:OrdOk 33 cmpT:=fun a b xs ys ca cb W hx hy lx ly=>SO.terms_walk a b xs ys ca cb W hx hy lx ly
def wq:Gx.Sig:={ a:=(.pair (.sl (.sl I)) (.pair (.clo 33 0 .unit) .unit)),md:=[1,0],mf:=[.o (.o .i)],m:=(.pair (.sl (.sl I)) .unit),r:=(.tup .unit),rf := .i,f:=fun x=>qh x.1 x.2.1 }
theorem xg:FnOk Try.prog 32:=⟨_,Try.func32,by kernel_rfl,by kernel_rfl⟩
theorem xb:Gx.Good Try.prog 32 wq:=SO.good 33 cmpT jx SO.terms_ok (enters_of Try.func33 (by kernel_rfl) rfl) (.o .i)
end Go.Proofs.Ytnolmlelfmadkaa
