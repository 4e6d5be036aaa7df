import Derived.Test.YtgmapdlhkfajoaaGreatGSTp1
import Derived.Test.YtgmapdlhkfajoaaGreatGxRow
import Derived.KernelRfl
import Derived.WalkKit
import Derived.WalkSpells
import Derived.BigCall
import Derived.Deep.QuietTactic
import Derived.Deep.RegionHeld3
import Derived.Deep.RegionLaw
import Derived.BigRegion
import Derived.RegionTactic
import Derived.Below
import Derived.LoopTactic
import Derived.Deep.DeepCutAuto
set_option linter.unusedVariables false
set_option linter.unusedSimpArgs false
set_option maxRecDepth 100000
namespace Go.Proofs.YtgmapdlhkfajoaaGreat
open Go Go.Gx Go.Proofs Go.RowKit
abbrev PO.reg : Code := Code.region 25 #[{ dst := some 101, op := .fieldAddr 26 (.tmp 9) 0, type := 0, pos := "l23_posets.go:432", after := #[], guard := none }, { dst := some 102, op := .load 24 (.tmp 101), type := 24, pos := "l23_posets.go:432", after := #[{ on := 0, ground := .data }], guard := none }, { dst := some 103, op := .move (.tmp 10), type := 3, pos := "l23_posets.go:432", after := #[], guard := none }, { dst := some 104, op := .fieldAddr 26 (.tmp 9) 0, type := 0, pos := "l23_posets.go:432", after := #[], guard := none }, { dst := some 105, op := .load 24 (.tmp 104), type := 24, pos := "l23_posets.go:432", after := #[{ on := 3, ground := .data }], guard := none }, { dst := some 106, op := .move (.tmp 10), type := 3, pos := "l23_posets.go:432", after := #[], guard := none }, { dst := some 107, op := .indexAddr 24 (.tmp 105) (.tmp 106), type := 0, pos := "l23_posets.go:432", after := #[{ on := 4, ground := .data }, { on := 5, ground := .data }], guard := none }, { dst := some 108, op := .load 28 (.tmp 107), type := 28, pos := "l23_posets.go:432", after := #[{ on := 6, ground := .data }], guard := none }, { dst := some 109, op := .move (.tmp 3), type := 3, pos := "l23_posets.go:432", after := #[], guard := none }, { dst := some 110, op := .buildSlice 28 1 #[(0, (.tmp 109))], type := 28, pos := "l23_posets.go:432", after := #[{ on := 8, ground := .data }], guard := none }, { dst := some 111, op := .call { callee := .builtin .append, args := #[(.tmp 108), (.tmp 110)], argTypes := #[28, 28] }, type := 28, pos := "l23_posets.go:432", after := #[{ on := 7, ground := .data }, { on := 9, ground := .data }], guard := none }, { dst := some 112, op := .indexAddr 24 (.tmp 102) (.tmp 103), type := 0, pos := "l23_posets.go:432", after := #[{ on := 1, ground := .data }, { on := 2, ground := .data }, { on := 0, ground := .phase }, { on := 1, ground := .phase }, { on := 2, ground := .phase }, { on := 3, ground := .phase }, { on := 4, ground := .phase }, { on := 5, ground := .phase }, { on := 6, ground := .phase }, { on := 7, ground := .phase }, { on := 8, ground := .phase }, { on := 9, ground := .phase }, { on := 10, ground := .phase }], guard := none }, { dst := none, op := .store 28 (.tmp 112) (.tmp 111), type := 0, pos := "l23_posets.go:432", after := #[{ on := 11, ground := .data }, { on := 10, ground := .data }, { on := 10, ground := .chain }, { on := 0, ground := .phase }, { on := 1, ground := .phase }, { on := 2, ground := .phase }, { on := 3, ground := .phase }, { on := 4, ground := .phase }, { on := 5, ground := .phase }, { on := 6, ground := .phase }, { on := 7, ground := .phase }, { on := 8, ground := .phase }, { on := 9, ground := .phase }, { on := 10, ground := .phase }], guard := none }] true
theorem PO.i3:(Tryz.prog.info? 3).map (fun i=>(i.zero,i.size,i.bytes))=some (some (.int .i64 0),1,8):=by kernel_rfl
theorem PO.step_append {P:Program}{w:World}{ops:Array Oper}{o:Oper}{a:Act}{K:Act→World→Prop}{Q:Exit→Act→World→Prop}{E:Prop}(hgd:o.guard=none) (s x:Operand) (t:TypeId)
  (ho:o.op = .call { callee := .builtin .append,args := #[s,x],argTypes := #[t,t] }) (e:TypeId) (i:TypeInfo) (z:Value) (ht:P.underlying t=some (.slice e)) (hi:P.info? e=some i) (hz:i.zero=some z) (hzs:z.cells.size=i.size)
  (v xv:Value) (hs:a.eval s=v) (hx:a.eval x=xv) {n m:Nat} {olds news:List Value} {ob:Option Nat} (hv:BaseOk w i.size n v olds ob) (hsrc:SrcOk w i.size m xv news) (h63:n+m≤maxLen) (hby:(n+m)*i.bytes≤140737488355328)
  (hm:0<n+m) (h:∀g cp w',BaseOk w' i.size (n+m) (.slice (some ⟨g,0,none⟩) (n+m) cp) (olds++news) (some g)→((some g=ob∧w'.heap.size=w.heap.size)∨(g=w.heap.size∧w'.heap.size=w.heap.size+1))→(∀b,b<w.heap.size→some b≠ob→w'.heap[b]? = w.heap[b]?) →
   w'.os=w.os→w'.tape=w.tape→w'.output=w.output→(∀a,w'.frozen? a=w.frozen? a)→K (a.put o.dst (.slice (some ⟨g,0,none⟩) (n+m) cp)) w') :
  if Region.wanted o (yielded ops a.tmps)=true then Oper.wp P o a w K Q else E:=by
 have hw:Region.wanted o (yielded ops a.tmps)=true:=by simp[Region.wanted,hgd]
 rw[if_pos hw]
 obtain⟨v',w',ob',hrun,h1,h2,h3,h4,h5,h6,h7⟩:=jbm (ty:=o.type) ht ht hi hz hzs hv hsrc h63 hby
 cases ob' with
 | none=>exact absurd h1.2.1 (by omega)
 | some g =>
 have h1':=h1
 obtain⟨cp,arr,e',rfl,_⟩:=h1
 refine ug (v := .slice (some ⟨g,0,none⟩) (n+m) cp) (w':=w') ?_ (h g cp w' h1' (h2.imp id fun q=>⟨Option.some.inj q.1,q.2⟩) h3 h4 h5 h6 h7)
 unfold execOp
 have e1 : #[s,x].map a.eval = #[v,xv]:=by simp[hs,hx]
 simp only[ho,resolve,invoke,builtin,Sem.run_bind,Sem.run_pure,Result.andThen_ok,e1,hrun]
set_option maxHeartbeats 0 in
theorem PO.walk (u0 u1 u2 u4 u5 u6 u7 u8 u11 u12 u13 u14 u15 u16 u17 u18 u19 u20 u21 u22 u23 u24 u25 u26 u27 u28 u29 u30 u31 u32 u33 u34 u35 u36 u37 u38 u39 u40 u41 u42 u43 u44 u45 u46 u47 u48 u49 u50 u51 u52 u53 u54 u55 u56 u57 u58 u59 u60 u61 u62 u63 u64 u65 u66 u67 u68 u69 u70 u71 u72 u73 u74 u75 u76 u77 u78 u79 u80 u81 u82 u83 u84 u85 u86 u87 u88 u89 u90 u91 u92 u93 u94 u95 u96 u97 u98 u99 u100 u101 u102 u103 u104 u105 u106 u107 u108 u109 u110 u111 u112 u113 u114 u115 u116 u117 u118 u119 u120 u121 u122 u123 u124 u125 u126 u127 u128 u129 u130 u131 u132 u133 u134 u135 u136 u137 u138 u139 u140 u141 u142 u143 u144 u145 u146:Value) (W:World) (b9 bb cap j:Nat) (nrow nbl:Nat) (hdr:Value) (ob:Option Nat) (olds:List Value) (z:Int) (R:Act→World→Prop)
  (h9:W.cell? ⟨b9,0,none⟩=some (.slice (some ⟨bb,0,none⟩) nbl cap)) (hl9:b9<W.heap.size) (hlb:bb<W.heap.size) (hj:j<nbl) (hob9:ob≠some b9) (hobb:ob≠some bb)
  (hS2:(W.alloc (.cells #[.int .i64 z] 3)).drew.cell? ⟨bb,j,none⟩=some hdr) (hS3:(W.alloc (.cells #[.int .i64 z] 3)).drew.frozen? ⟨bb,j,none⟩=false)
  (hbase:BaseOk (W.alloc (.cells #[.int .i64 z] 3)).drew 1 nrow hdr olds ob) (hlen:nrow+1≤4294967296)
  (hend:∀(gg cp:Nat) (w1:World),
    BaseOk w1 1 (nrow+1) (.slice (some ⟨gg,0,none⟩) (nrow+1) cp) (olds++[.int .i64 z]) (some gg) →
    ((some gg=ob∧w1.heap.size=(W.alloc (.cells #[.int .i64 z] 3)).drew.heap.size)∨(gg=(W.alloc (.cells #[.int .i64 z] 3)).drew.heap.size∧w1.heap.size=(W.alloc (.cells #[.int .i64 z] 3)).drew.heap.size+1)) →
    (∀b,b<(W.alloc (.cells #[.int .i64 z] 3)).drew.heap.size→some b≠ob→w1.heap[b]? = (W.alloc (.cells #[.int .i64 z] 3)).drew.heap[b]?) →
    w1.os=W.os→w1.tape=W.tape→w1.output=W.output →
    R { tmps := #[u0,u1,u2,.int .i64 z,u4,u5,u6,u7,u8,.pointer (some ⟨b9,0,none⟩),.int .i64 j,u11,u12,u13,u14,u15,u16,u17,u18,u19,u20,u21,u22,u23,u24,u25,u26,u27,u28,u29,u30,u31,u32,u33,u34,u35,u36,u37,u38,u39,u40,u41,u42,u43,u44,u45,u46,u47,u48,u49,u50,u51,u52,u53,u54,u55,u56,u57,u58,u59,u60,u61,u62,u63,u64,u65,u66,u67,u68,u69,u70,u71,u72,u73,u74,u75,u76,u77,u78,u79,u80,u81,u82,u83,u84,u85,u86,u87,u88,u89,u90,u91,u92,u93,u94,u95,u96,u97,u98,u99,u100,.pointer (some ⟨b9,0,none⟩),.slice (some ⟨bb,0,none⟩) nbl cap,.int .i64 j,.pointer (some ⟨b9,0,none⟩),.slice (some ⟨bb,0,none⟩) nbl cap,.int .i64 j,.pointer (some ⟨bb,j,none⟩),hdr,.int .i64 z,.slice (some ⟨W.heap.size,0,none⟩) 1 1,.slice (some ⟨gg,0,none⟩) (nrow+1) cp,.pointer (some ⟨bb,j,none⟩),u113,u114,u115,u116,u117,u118,u119,u120,u121,u122,u123,u124,u125,u126,u127,u128,u129,u130,u131,u132,u133,u134,u135,u136,u137,u138,u139,u140,u141,u142,u143,u144,u145,u146],defers:=[] } (w1.setCell ⟨bb,j,none⟩ (.slice (some ⟨gg,0,none⟩) (nrow+1) cp))) :
  PO.reg.wp Tryz.prog (Exit.then R fun _ _ _=>False) { tmps := #[u0,u1,u2,.int .i64 z,u4,u5,u6,u7,u8,.pointer (some ⟨b9,0,none⟩),.int .i64 j,u11,u12,u13,u14,u15,u16,u17,u18,u19,u20,u21,u22,u23,u24,u25,u26,u27,u28,u29,u30,u31,u32,u33,u34,u35,u36,u37,u38,u39,u40,u41,u42,u43,u44,u45,u46,u47,u48,u49,u50,u51,u52,u53,u54,u55,u56,u57,u58,u59,u60,u61,u62,u63,u64,u65,u66,u67,u68,u69,u70,u71,u72,u73,u74,u75,u76,u77,u78,u79,u80,u81,u82,u83,u84,u85,u86,u87,u88,u89,u90,u91,u92,u93,u94,u95,u96,u97,u98,u99,u100,u101,u102,u103,u104,u105,u106,u107,u108,u109,u110,u111,u112,u113,u114,u115,u116,u117,u118,u119,u120,u121,u122,u123,u124,u125,u126,u127,u128,u129,u130,u131,u132,u133,u134,u135,u136,u137,u138,u139,u140,u141,u142,u143,u144,u145,u146],defers:=[] } W:=by
 obtain⟨i3,hi3,hz3,hs3,hb3⟩:=info_parts PO.i3
 have hj1:(j:Int)<(nbl:Int):=by omega
 have hj0:(0:Int)≤(j:Int):=by omega
 have hsz1:(W.alloc (.cells #[.int .i64 z] 3)).drew.heap.size=W.heap.size+1:=by
  show(W.alloc (.cells #[.int .i64 z] 3)).heap.size=_
  simp
 have hal:∀b,b<W.heap.size→(W.alloc (.cells #[.int .i64 z] 3)).drew.heap[b]? = W.heap[b]? := fun b hb=>qa W _ b hb
 have hS1:(W.alloc (.cells #[.int .i64 z] 3)).drew.cell? ⟨b9,0,none⟩=some (.slice (some ⟨bb,0,none⟩) nbl cap):=(World.cell?_of_block (hal _ hl9)).trans h9
 have hc2:W.cell? ⟨bb,j,none⟩=some hdr:=(World.cell?_of_block (hal _ hlb)).symm.trans hS2
 have hf2:W.frozen? ⟨bb,j,none⟩=false:=(World.frozen?_of_block (hal _ hlb)).symm.trans hS3
 have hbase2:BaseOk (W.alloc (.cells #[.int .i64 z] 3)).drew i3.size nrow hdr olds ob:=by rw[hs3];exact hbase
 have hsrc2:SrcOk (W.alloc (.cells #[.int .i64 z] 3)).drew i3.size 1 (.slice (some ⟨W.heap.size,0,none⟩) 1 1) [.int .i64 z]:=by rw[hs3];exact ja1 W _ 3 rfl
 have hz1:b9<(W.alloc (.cells #[.int .i64 z] 3)).drew.heap.size:=by omega
 have hz2:bb<(W.alloc (.cells #[.int .i64 z] 3)).drew.heap.size:=by omega
 have hmax:nrow+1≤maxLen:=by simp only[maxLen];omega
 have hbyt:(nrow+1)*i3.bytes≤140737488355328:=by rw[hb3];omega
 clear hbase
 unfold PO.reg
 go_region_law
  ((refine PO.step_append rfl _ _ _ rfl 3 i3 _ Tryz.underlying28 hi3 hz3 (by rw[hs3];rfl) hdr _ rfl rfl (n:=nrow) (m:=1) (olds:=olds) (news:=[.int .i64 z]) (ob:=ob) hbase2 hsrc2 hmax hbyt (by omega) ?_;intro gg cp w1 h1 h2 h3 h4 h5 h6 h7;have g1:=(World.cell?_of_block (h3 b9 hz1 (Ne.symm hob9))).trans hS1;have g2:=(World.cell?_of_block (h3 bb hz2 (Ne.symm hobb))).trans hS2;have g3:=(h7 ⟨bb,j,none⟩).trans hS3))
 all_goals (rw[hs3]at h1;exact hend gg cp w1 h1 h2 h3 h4 h5 h6)
theorem PO.lit (f:Nat→Value):((List.range 147).map f).toArray = #[f 0,f 1,f 2,f 3,f 4,f 5,f 6,f 7,f 8,f 9,f 10,f 11,f 12,f 13,f 14,f 15,f 16,f 17,f 18,f 19,f 20,f 21,f 22,f 23,f 24,f 25,f 26,f 27,f 28,f 29,f 30,f 31,f 32,f 33,f 34,f 35,f 36,f 37,f 38,f 39,f 40,f 41,f 42,f 43,f 44,f 45,f 46,f 47,f 48,f 49,f 50,f 51,f 52,f 53,f 54,f 55,f 56,f 57,f 58,f 59,f 60,f 61,f 62,f 63,f 64,f 65,f 66,f 67,f 68,f 69,f 70,f 71,f 72,f 73,f 74,f 75,f 76,f 77,f 78,f 79,f 80,f 81,f 82,f 83,f 84,f 85,f 86,f 87,f 88,f 89,f 90,f 91,f 92,f 93,f 94,f 95,f 96,f 97,f 98,f 99,f 100,f 101,f 102,f 103,f 104,f 105,f 106,f 107,f 108,f 109,f 110,f 111,f 112,f 113,f 114,f 115,f 116,f 117,f 118,f 119,f 120,f 121,f 122,f 123,f 124,f 125,f 126,f 127,f 128,f 129,f 130,f 131,f 132,f 133,f 134,f 135,f 136,f 137,f 138,f 139,f 140,f 141,f 142,f 143,f 144,f 145,f 146]:=by kernel_rfl
theorem PO.put (u0 u1 u2 u3 u4 u5 u6 u7 u8 u9 u10 u11 u12 u13 u14 u15 u16 u17 u18 u19 u20 u21 u22 u23 u24 u25 u26 u27 u28 u29 u30 u31 u32 u33 u34 u35 u36 u37 u38 u39 u40 u41 u42 u43 u44 u45 u46 u47 u48 u49 u50 u51 u52 u53 u54 u55 u56 u57 u58 u59 u60 u61 u62 u63 u64 u65 u66 u67 u68 u69 u70 u71 u72 u73 u74 u75 u76 u77 u78 u79 u80 u81 u82 u83 u84 u85 u86 u87 u88 u89 u90 u91 u92 u93 u94 u95 u96 u97 u98 u99 u100 u101 u102 u103 u104 u105 u106 u107 u108 u109 u110 u111 u112 u113 u114 u115 u116 u117 u118 u119 u120 u121 u122 u123 u124 u125 u126 u127 u128 u129 u130 u131 u132 u133 u134 u135 u136 u137 u138 u139 u140 u141 u142 u143 u144 u145 u146 v101 v102 v103 v104 v105 v106 v107 v108 v109 v110 v111 v112:Value):([(101,v101),(102,v102),(103,v103),(104,v104),(105,v105),(106,v106),(107,v107),(108,v108),(109,v109),(110,v110),(111,v111),(112,v112)]:List (Nat×Value)).foldl (fun(a:Act) p=>a.put (some p.1) p.2) { tmps := #[u0,u1,u2,u3,u4,u5,u6,u7,u8,u9,u10,u11,u12,u13,u14,u15,u16,u17,u18,u19,u20,u21,u22,u23,u24,u25,u26,u27,u28,u29,u30,u31,u32,u33,u34,u35,u36,u37,u38,u39,u40,u41,u42,u43,u44,u45,u46,u47,u48,u49,u50,u51,u52,u53,u54,u55,u56,u57,u58,u59,u60,u61,u62,u63,u64,u65,u66,u67,u68,u69,u70,u71,u72,u73,u74,u75,u76,u77,u78,u79,u80,u81,u82,u83,u84,u85,u86,u87,u88,u89,u90,u91,u92,u93,u94,u95,u96,u97,u98,u99,u100,u101,u102,u103,u104,u105,u106,u107,u108,u109,u110,u111,u112,u113,u114,u115,u116,u117,u118,u119,u120,u121,u122,u123,u124,u125,u126,u127,u128,u129,u130,u131,u132,u133,u134,u135,u136,u137,u138,u139,u140,u141,u142,u143,u144,u145,u146],defers:=[] }={ tmps := #[u0,u1,u2,u3,u4,u5,u6,u7,u8,u9,u10,u11,u12,u13,u14,u15,u16,u17,u18,u19,u20,u21,u22,u23,u24,u25,u26,u27,u28,u29,u30,u31,u32,u33,u34,u35,u36,u37,u38,u39,u40,u41,u42,u43,u44,u45,u46,u47,u48,u49,u50,u51,u52,u53,u54,u55,u56,u57,u58,u59,u60,u61,u62,u63,u64,u65,u66,u67,u68,u69,u70,u71,u72,u73,u74,u75,u76,u77,u78,u79,u80,u81,u82,u83,u84,u85,u86,u87,u88,u89,u90,u91,u92,u93,u94,u95,u96,u97,u98,u99,u100,v101,v102,v103,v104,v105,v106,v107,v108,v109,v110,v111,v112,u113,u114,u115,u116,u117,u118,u119,u120,u121,u122,u123,u124,u125,u126,u127,u128,u129,u130,u131,u132,u133,u134,u135,u136,u137,u138,u139,u140,u141,u142,u143,u144,u145,u146],defers:=[] }:=by kernel_rfl
theorem PO.same {a:Act}{d:Nat}:a.put (some d) (Act.at_ a d)=a:=by
 cases a with
 | mk t ds =>
  simp only[Act.put,Act.at_]
  congr 1
  refine Array.ext_getElem? fun i => ?_
  rw[Array.getElem?_setIfInBounds]
  by_cases hd:d=i
  ·subst hd;by_cases hl:d<t.size<;>simp[hl,Array.getD_eq_getD_getElem?]
  ·simp[hd]
theorem PO.block {w:World}{b o:Nat}{v:Value}(h:w.cell? ⟨b,o,none⟩=some v):∃arr e fr,w.heap[b]? = some (.cells arr e fr):=by
 cases hg:w.heap[b]? with
 | none=>simp[World.cell?,hg]at h
 | some ob=>cases ob<;>simp_all [World.cell?]
def PO.hook:Hook where
 run st k:=match st.get 9,st.get 10,st.get 3 with
  | .val (.ptr (.pair (.sl (.sl (.int .i64))) .unit)) (.o (.p (.o (.o .i)) .i)) p,.val (.int .i64) _ x,.val (.int .i64) _ n =>
   (atI p.1 x).bind fun row=>(appI row [n]).bind fun row2=>if st.length=147 then k (forget [101,102,103,104,105,106,107,108,109,110,111,112] (St.put ((dropRefs 9 st).set 9 .u) 9 (.val (.ptr (.pair (.sl (.sl (.int .i64))) .unit)) (.o (.p (.o (.o .i)) .i)) (p.1.set x.toNat row2,p.2)))) else none
  | _,_,_=>none
theorem PO.int {w:World}{N:Nat→Prop}{st:St}{a:Act}{F:List Nat}{v:Value}{f:Fl}{x:Int}(h:SlotOk w N st a F v (.val (.int .i64) f x)):v = .int .i64 x:=by
 rcases h with⟨cs,h1,h2⟩|⟨u',_,_,e,_⟩
 ·have h1:cs=[v]:=h1
  simp only[Rep]at h2
  rw[h1]at h2
  simpa using h2.1
 ·cases e
set_option maxHeartbeats 0 in
theorem PO.hook_ok:HookOk Tryz.prog PO.reg PO.hook:=by
 intro ρ c own st a w k r Q hfix h hk hQ
 unfold PO.hook at hk
 simp only at hk
 split at hk
 case h_2=>cases hk
 rename_i p f10 x f3 z hs9 hs10 hs3
 obtain⟨row,hrow,hk⟩:=Option.bind_eq_some_iff.1 hk
 obtain⟨row2,hrow2,hk⟩:=Option.bind_eq_some_iff.1 hk
 split at hk
 case isFalse=>cases hk
 rename_i hlen
 have e10:Act.at_ a 10 = .int .i64 x:=PO.int (by have:=h.slot 10;rw[hs10]at this;exact this)
 have e3:Act.at_ a 3 = .int .i64 z:=PO.int (by have:=h.slot 3;rw[hs3]at this;exact this)
 have hsl:=h.slot 9
 rw[hs9]at hsl
 rcases hsl with⟨cs,hh,hr⟩|⟨u',_,_,e,_⟩
 rotate_left
 ·cases e
 have hh:cs=[Act.at_ a 9]:=hh
 subst hh
 simp only[Rep]at hr
 obtain⟨b9,arr,et,G,e9,hb9,eown,F1,F2,eG,harr,hrep,hdrop,hF2⟩:=hr
 simp only[List.cons.injEq,and_true]at e9
 subst eG
 subst hF2
 simp only[Ty.cells]at harr hrep hdrop
 obtain⟨hv,harr'⟩:∃hv,arr.toList=[hv]:=by
  cases hl:arr.toList with
  | nil=>rw[hl]at harr;simp at harr
  | cons y ys =>
   rw[hl]at hdrop
   simp only[List.drop_succ_cons,List.drop_zero]at hdrop
   rw[hdrop]
   exact⟨y,rfl⟩
 rw[harr']at hrep
 have hrep:Rep w (NB c own [] w) (.sl (.sl (.int .i64))) (.o (.o .i)) p.1 [hv] F1:=by simpa only [Rep,Ty.cells,List.take_succ_cons,List.take_zero,Fl.l] using hrep
 have nd9:(b9::F1).Nodup:=by have:=h.nd 9;rw[eown]at this;simpa using this
 obtain⟨hx0,hrow⟩:0≤x∧p.1[x.toNat]? = some row:=by
  unfold atI at hrow
  split at hrow
  ·exact⟨by assumption,hrow⟩
  ·cases hrow
 obtain⟨j,rfl⟩:∃j:Nat,x=(j:Int):=⟨x.toNat,(Int.toNat_of_nonneg hx0).symm⟩
 simp only[Int.toNat_natCast]at hrow hk
 obtain⟨hl2,rfl⟩:row.length+1≤4294967296∧row2=row++[z]:=by
  unfold appI at hrow2
  split at hrow2
  ·rename_i hc
   simp only[Option.some.injEq]at hrow2
   exact⟨by simpa using hc,hrow2.symm⟩
  ·cases hrow2
 have hal:∀b,b<w.heap.size→(w.alloc (.cells #[.int .i64 z] 3)).drew.heap[b]? = w.heap[b]? := fun b hb=>qa w _ b hb
 have hszA:(w.alloc (.cells #[.int .i64 z] 3)).drew.heap.size=w.heap.size+1:=by
  show(w.alloc (.cells #[.int .i64 z] 3)).heap.size=_
  simp
 have hltF:∀b∈F1,b<w.heap.size:=fun b hb=>h.lt 9 b (by rw[eown];simp[hb])
 have hlt9:b9<w.heap.size:=h.lt 9 b9 (by rw[eown];simp)
 have hrepA:Rep (w.alloc (.cells #[.int .i64 z] 3)).drew (fun _=>False) (.sl (.sl (.int .i64))) (.o (.o .i)) p.1 [hv] F1:=(hrep.shut (N2:=fun _=>False) rfl).mono (fun b hb=>hb.elim) fun b hb=>hal b (hltF b hb)
 obtain⟨bb,cap,hdr,ob,olds,rfl,hcell,hbbF,hfr,hbase,hobb,hobF,hfin⟩:=jl2 hrepA (List.nodup_cons.1 nd9).2 hrow
 have hjl:j<p.1.length:=(List.getElem?_eq_some_iff.1 hrow).1
 have hob9:ob≠some b9:=fun e=>(List.nodup_cons.1 nd9).1 (hobF b9 e)
 have h9c:w.cell? ⟨b9,0,none⟩=some (.slice (some ⟨bb,0,none⟩) p.1.length cap):=by
  simp only[World.cell?,hb9]
  have:arr = #[.slice (some ⟨bb,0,none⟩) p.1.length cap]:=by apply Array.ext';rw[harr']
  rw[this];rfl
 have ea:=jeg (n:=147) (a:=a) (by rw[h.size,hlen]) h.defers
 rw[PO.lit]at ea
 rw[e9,e10,e3]at ea
 refine wp_mono (Q:=Exit.then (fun a' w'=>∃own' st',k st'=some r∧Inv c own' [] st' a' w') fun _ _ _=>False) ?_ fun e a' w' hq => ?_
 rotate_left
 ·cases e with
  | normal=>obtain⟨own',st',h1,h2⟩:=hq;exact hQ own' st' a' w' h1 h2
  | _=>exact hq.elim
 have key:PO.reg.wp Tryz.prog (Exit.then (fun a' w'=>∃own' st',k st'=some r∧Inv c own' [] st' a' w') fun _ _ _=>False) { tmps := #[Act.at_ a 0,Act.at_ a 1,Act.at_ a 2,.int .i64 z,Act.at_ a 4,Act.at_ a 5,Act.at_ a 6,Act.at_ a 7,Act.at_ a 8,.pointer (some ⟨b9,0,none⟩),.int .i64 j,Act.at_ a 11,Act.at_ a 12,Act.at_ a 13,Act.at_ a 14,Act.at_ a 15,Act.at_ a 16,Act.at_ a 17,Act.at_ a 18,Act.at_ a 19,Act.at_ a 20,Act.at_ a 21,Act.at_ a 22,Act.at_ a 23,Act.at_ a 24,Act.at_ a 25,Act.at_ a 26,Act.at_ a 27,Act.at_ a 28,Act.at_ a 29,Act.at_ a 30,Act.at_ a 31,Act.at_ a 32,Act.at_ a 33,Act.at_ a 34,Act.at_ a 35,Act.at_ a 36,Act.at_ a 37,Act.at_ a 38,Act.at_ a 39,Act.at_ a 40,Act.at_ a 41,Act.at_ a 42,Act.at_ a 43,Act.at_ a 44,Act.at_ a 45,Act.at_ a 46,Act.at_ a 47,Act.at_ a 48,Act.at_ a 49,Act.at_ a 50,Act.at_ a 51,Act.at_ a 52,Act.at_ a 53,Act.at_ a 54,Act.at_ a 55,Act.at_ a 56,Act.at_ a 57,Act.at_ a 58,Act.at_ a 59,Act.at_ a 60,Act.at_ a 61,Act.at_ a 62,Act.at_ a 63,Act.at_ a 64,Act.at_ a 65,Act.at_ a 66,Act.at_ a 67,Act.at_ a 68,Act.at_ a 69,Act.at_ a 70,Act.at_ a 71,Act.at_ a 72,Act.at_ a 73,Act.at_ a 74,Act.at_ a 75,Act.at_ a 76,Act.at_ a 77,Act.at_ a 78,Act.at_ a 79,Act.at_ a 80,Act.at_ a 81,Act.at_ a 82,Act.at_ a 83,Act.at_ a 84,Act.at_ a 85,Act.at_ a 86,Act.at_ a 87,Act.at_ a 88,Act.at_ a 89,Act.at_ a 90,Act.at_ a 91,Act.at_ a 92,Act.at_ a 93,Act.at_ a 94,Act.at_ a 95,Act.at_ a 96,Act.at_ a 97,Act.at_ a 98,Act.at_ a 99,Act.at_ a 100,Act.at_ a 101,Act.at_ a 102,Act.at_ a 103,Act.at_ a 104,Act.at_ a 105,Act.at_ a 106,Act.at_ a 107,Act.at_ a 108,Act.at_ a 109,Act.at_ a 110,Act.at_ a 111,Act.at_ a 112,Act.at_ a 113,Act.at_ a 114,Act.at_ a 115,Act.at_ a 116,Act.at_ a 117,Act.at_ a 118,Act.at_ a 119,Act.at_ a 120,Act.at_ a 121,Act.at_ a 122,Act.at_ a 123,Act.at_ a 124,Act.at_ a 125,Act.at_ a 126,Act.at_ a 127,Act.at_ a 128,Act.at_ a 129,Act.at_ a 130,Act.at_ a 131,Act.at_ a 132,Act.at_ a 133,Act.at_ a 134,Act.at_ a 135,Act.at_ a 136,Act.at_ a 137,Act.at_ a 138,Act.at_ a 139,Act.at_ a 140,Act.at_ a 141,Act.at_ a 142,Act.at_ a 143,Act.at_ a 144,Act.at_ a 145,Act.at_ a 146],defers:=[] } w:=by
  refine PO.walk (Act.at_ a 0) (Act.at_ a 1) (Act.at_ a 2) (Act.at_ a 4) (Act.at_ a 5) (Act.at_ a 6) (Act.at_ a 7) (Act.at_ a 8) (Act.at_ a 11) (Act.at_ a 12) (Act.at_ a 13) (Act.at_ a 14) (Act.at_ a 15) (Act.at_ a 16) (Act.at_ a 17) (Act.at_ a 18) (Act.at_ a 19) (Act.at_ a 20) (Act.at_ a 21) (Act.at_ a 22) (Act.at_ a 23) (Act.at_ a 24) (Act.at_ a 25) (Act.at_ a 26) (Act.at_ a 27) (Act.at_ a 28) (Act.at_ a 29) (Act.at_ a 30) (Act.at_ a 31) (Act.at_ a 32) (Act.at_ a 33) (Act.at_ a 34) (Act.at_ a 35) (Act.at_ a 36) (Act.at_ a 37) (Act.at_ a 38) (Act.at_ a 39) (Act.at_ a 40) (Act.at_ a 41) (Act.at_ a 42) (Act.at_ a 43) (Act.at_ a 44) (Act.at_ a 45) (Act.at_ a 46) (Act.at_ a 47) (Act.at_ a 48) (Act.at_ a 49) (Act.at_ a 50) (Act.at_ a 51) (Act.at_ a 52) (Act.at_ a 53) (Act.at_ a 54) (Act.at_ a 55) (Act.at_ a 56) (Act.at_ a 57) (Act.at_ a 58) (Act.at_ a 59) (Act.at_ a 60) (Act.at_ a 61) (Act.at_ a 62) (Act.at_ a 63) (Act.at_ a 64) (Act.at_ a 65) (Act.at_ a 66) (Act.at_ a 67) (Act.at_ a 68) (Act.at_ a 69) (Act.at_ a 70) (Act.at_ a 71) (Act.at_ a 72) (Act.at_ a 73) (Act.at_ a 74) (Act.at_ a 75) (Act.at_ a 76) (Act.at_ a 77) (Act.at_ a 78) (Act.at_ a 79) (Act.at_ a 80) (Act.at_ a 81) (Act.at_ a 82) (Act.at_ a 83) (Act.at_ a 84) (Act.at_ a 85) (Act.at_ a 86) (Act.at_ a 87) (Act.at_ a 88) (Act.at_ a 89) (Act.at_ a 90) (Act.at_ a 91) (Act.at_ a 92) (Act.at_ a 93) (Act.at_ a 94) (Act.at_ a 95) (Act.at_ a 96) (Act.at_ a 97) (Act.at_ a 98) (Act.at_ a 99) (Act.at_ a 100) (Act.at_ a 101) (Act.at_ a 102) (Act.at_ a 103) (Act.at_ a 104) (Act.at_ a 105) (Act.at_ a 106) (Act.at_ a 107) (Act.at_ a 108) (Act.at_ a 109) (Act.at_ a 110) (Act.at_ a 111) (Act.at_ a 112) (Act.at_ a 113) (Act.at_ a 114) (Act.at_ a 115) (Act.at_ a 116) (Act.at_ a 117) (Act.at_ a 118) (Act.at_ a 119) (Act.at_ a 120) (Act.at_ a 121) (Act.at_ a 122) (Act.at_ a 123) (Act.at_ a 124) (Act.at_ a 125) (Act.at_ a 126) (Act.at_ a 127) (Act.at_ a 128) (Act.at_ a 129) (Act.at_ a 130) (Act.at_ a 131) (Act.at_ a 132) (Act.at_ a 133) (Act.at_ a 134) (Act.at_ a 135) (Act.at_ a 136) (Act.at_ a 137) (Act.at_ a 138) (Act.at_ a 139) (Act.at_ a 140) (Act.at_ a 141) (Act.at_ a 142) (Act.at_ a 143) (Act.at_ a 144) (Act.at_ a 145) (Act.at_ a 146) w b9 bb cap j row.length p.1.length hdr ob olds z _ h9c hlt9 (hltF bb hbbF) hjl hob9 hobb hcell hfr hbase hl2 fun gg cp w1 k1 k2 k3 k4 k5 k6 => ?_
  obtain⟨F',nd',hF',hrep'⟩:=hfin gg cp z w1 (fun _=>False) k1 (by
   rcases k2 with⟨q,_⟩|⟨q,_⟩
   ·exact .inl q
   ·right;intro hm;have:=hltF gg hm;omega) fun b hb hbo=>k3 b (by have:=hltF b hb;omega) hbo
  have hbbl:=hltF bb hbbF
  have hw1bb:w1.heap[bb]? = w.heap[bb]? := (k3 bb (by omega) (Ne.symm hobb)).trans (hal bb hbbl)
  obtain⟨arrb,eb,frb,hhb⟩:∃arrb eb frb,w1.heap[bb]? = some (.cells arrb eb frb):=by
   have hc:=hcell
   rw[World.cell?_of_block (hal bb hbbl)]at hc
   rw[hw1bb]
   exact PO.block hc
  have hset:=qy (o:=j) (v:=Value.slice (some ⟨gg,0,none⟩) (row.length+1) cp) hhb
  generalize hw2:w1.setCell ⟨bb,j,none⟩ (Value.slice (some ⟨gg,0,none⟩) (row.length+1) cp)=w2 at hset hrep' ⊢
  have hsz2:w2.heap.size=w1.heap.size:=by rw[←hw2];simp[World.setCell]
  have ho2:w2.os=w.os∧w2.tape=w.tape∧w2.output=w.output:=by rw[←hw2];exact⟨k4,k5,k6⟩
  have hown9:(st.get 9).isOwner=true:=by rw[hs9];rfl
  obtain⟨h1,_,_⟩:=h.takeSlot hown9
  have hsame:∀b,b<w.heap.size→b ∉ own 9++[]→w2.heap[b]? = w.heap[b]? := fun b hb hn=>by
   rw[eown]at hn
   simp only[List.append_nil,List.mem_cons,not_or]at hn
   rw[hset b,if_neg (fun e=>hn.2 (by rw[e];exact hbbF)),k3 b (by omega) (fun e=>hn.2 (hobF b e.symm)),hal b hb]
  obtain⟨E',nE,hE1,hE2⟩:∃E':List Nat,E'.Nodup∧(∀b∈E',w.heap.size≤b∧b<w2.heap.size)∧(gg∈F1∨gg∈E'):=by
   rcases k2 with⟨q,_⟩|⟨q,q2⟩
   ·exact⟨[],by simp,by simp,.inl (hobF gg q.symm)⟩
   ·exact⟨[gg],by simp,by simp;omega,.inr (by simp)⟩
  have hszle:w.heap.size≤w2.heap.size:=by rcases k2 with⟨_,q⟩|⟨_,q⟩<;>omega
  have h2:=h1.grown (E':=E') hsame hszle ho2.1 ho2.2.1 ho2.2.2 trivial nE hE1
  have hb9F:b9 ∉ F':=fun hm=>by
   rcases hF' b9 hm with q|q
   ·exact(List.nodup_cons.1 nd9).1 q
   ·rcases k2 with⟨e,_⟩|⟨e,_⟩
    ·exact hob9 (by rw[←e,q])
    ·omega
  have h3:=h2.hand (E':=(b9::F')++[]) (fun b hb=>by
   simp only[List.append_nil,List.mem_cons]at hb
   rw[eown]
   rcases hb with rfl|hb
   ·simp
   ·rcases hF' b hb with q|rfl
    ·simp[q]
    ·rcases hE2 with q|q<;>simp[q]) (by rw[List.append_nil];exact List.nodup_cons.2 ⟨hb9F,nd'⟩)
  have hb9bb:b9≠bb:=fun e=>(List.nodup_cons.1 nd9).1 (by rw[e];exact hbbF)
  have h4:=Inv.put (v := .val (.ptr (.pair (.sl (.sl (.int .i64))) .unit)) (.o (.p (.o (.o .i)) .i)) (p.1.set j (row++[z]),p.2)) (value:=Act.at_ a 9) 9 h3 (by
   refine .inl ⟨[Act.at_ a 9],rfl, ?_⟩
   rw[e9]
   simp only[Rep]
   refine⟨b9,arr,et,F',rfl, ?_,rfl,F',[],by simp,by rw[harr'];simp[Ty.cells], ?_, ?_,rfl⟩
   ·rw[hset b9,if_neg hb9bb,k3 b9 (by omega) (Ne.symm hob9),hal b9 hlt9];exact hb9
   ·rw[harr']
    have:=hrep'.shut (N2:=NB c (fun i=>if i=9 then [] else own i) (b9::F'++[]) w2) rfl
    simpa only [Rep,Ty.cells,List.take_succ_cons,List.take_zero,Fl.l] using this
   ·rw[harr'];rfl) fun u' hu=>(h.fixed 9 u' hu).symm
  obtain⟨own4,h4,_⟩:=h4
  rw[PO.same]at h4
  obtain⟨own5,h5⟩:=jb2 (dv:=[(101,.pointer (some ⟨b9,0,none⟩)),(102,.slice (some ⟨bb,0,none⟩) p.1.length cap),(103,.int .i64 j),(104,.pointer (some ⟨b9,0,none⟩)),(105,.slice (some ⟨bb,0,none⟩) p.1.length cap),(106,.int .i64 j),(107,.pointer (some ⟨bb,j,none⟩)),(108,hdr),(109,.int .i64 z),(110,.slice (some ⟨w.heap.size,0,none⟩) 1 1),(111,.slice (some ⟨gg,0,none⟩) (row.length+1) cp),(112,.pointer (some ⟨bb,j,none⟩))]) h4 (fun q hq=>hfix q.1 (by
   have hm:q.1∈([101,102,103,104,105,106,107,108,109,110,111,112]:List Nat):=by
    have:=List.mem_map_of_mem (f:=Prod.fst) hq
    exact this
   generalize q.1=q1 at hm
   simp only[List.mem_cons,List.not_mem_nil,or_false]at hm
   rcases hm with rfl|rfl|rfl|rfl|rfl|rfl|rfl|rfl|rfl|rfl|rfl|rfl<;>rfl))
  refine⟨own5,_,hk, ?_⟩
  have e2:∀dv:List (Nat×Value),dv.foldl (fun(a:Act) p=>a.put (some p.1) p.2) a=dv.foldl (fun(a:Act) p=>a.put (some p.1) p.2) { tmps := #[Act.at_ a 0,Act.at_ a 1,Act.at_ a 2,.int .i64 z,Act.at_ a 4,Act.at_ a 5,Act.at_ a 6,Act.at_ a 7,Act.at_ a 8,.pointer (some ⟨b9,0,none⟩),.int .i64 j,Act.at_ a 11,Act.at_ a 12,Act.at_ a 13,Act.at_ a 14,Act.at_ a 15,Act.at_ a 16,Act.at_ a 17,Act.at_ a 18,Act.at_ a 19,Act.at_ a 20,Act.at_ a 21,Act.at_ a 22,Act.at_ a 23,Act.at_ a 24,Act.at_ a 25,Act.at_ a 26,Act.at_ a 27,Act.at_ a 28,Act.at_ a 29,Act.at_ a 30,Act.at_ a 31,Act.at_ a 32,Act.at_ a 33,Act.at_ a 34,Act.at_ a 35,Act.at_ a 36,Act.at_ a 37,Act.at_ a 38,Act.at_ a 39,Act.at_ a 40,Act.at_ a 41,Act.at_ a 42,Act.at_ a 43,Act.at_ a 44,Act.at_ a 45,Act.at_ a 46,Act.at_ a 47,Act.at_ a 48,Act.at_ a 49,Act.at_ a 50,Act.at_ a 51,Act.at_ a 52,Act.at_ a 53,Act.at_ a 54,Act.at_ a 55,Act.at_ a 56,Act.at_ a 57,Act.at_ a 58,Act.at_ a 59,Act.at_ a 60,Act.at_ a 61,Act.at_ a 62,Act.at_ a 63,Act.at_ a 64,Act.at_ a 65,Act.at_ a 66,Act.at_ a 67,Act.at_ a 68,Act.at_ a 69,Act.at_ a 70,Act.at_ a 71,Act.at_ a 72,Act.at_ a 73,Act.at_ a 74,Act.at_ a 75,Act.at_ a 76,Act.at_ a 77,Act.at_ a 78,Act.at_ a 79,Act.at_ a 80,Act.at_ a 81,Act.at_ a 82,Act.at_ a 83,Act.at_ a 84,Act.at_ a 85,Act.at_ a 86,Act.at_ a 87,Act.at_ a 88,Act.at_ a 89,Act.at_ a 90,Act.at_ a 91,Act.at_ a 92,Act.at_ a 93,Act.at_ a 94,Act.at_ a 95,Act.at_ a 96,Act.at_ a 97,Act.at_ a 98,Act.at_ a 99,Act.at_ a 100,Act.at_ a 101,Act.at_ a 102,Act.at_ a 103,Act.at_ a 104,Act.at_ a 105,Act.at_ a 106,Act.at_ a 107,Act.at_ a 108,Act.at_ a 109,Act.at_ a 110,Act.at_ a 111,Act.at_ a 112,Act.at_ a 113,Act.at_ a 114,Act.at_ a 115,Act.at_ a 116,Act.at_ a 117,Act.at_ a 118,Act.at_ a 119,Act.at_ a 120,Act.at_ a 121,Act.at_ a 122,Act.at_ a 123,Act.at_ a 124,Act.at_ a 125,Act.at_ a 126,Act.at_ a 127,Act.at_ a 128,Act.at_ a 129,Act.at_ a 130,Act.at_ a 131,Act.at_ a 132,Act.at_ a 133,Act.at_ a 134,Act.at_ a 135,Act.at_ a 136,Act.at_ a 137,Act.at_ a 138,Act.at_ a 139,Act.at_ a 140,Act.at_ a 141,Act.at_ a 142,Act.at_ a 143,Act.at_ a 144,Act.at_ a 145,Act.at_ a 146],defers:=[] }:=fun dv=>by conv=>lhs;rw[ea]
  rw[e2,PO.put]at h5
  exact h5
 rw[ea]
 exact key
theorem PO.hooks_spec_l1Cur_poset (A:Cfg) (hA:A.hook 25=some PO.hook) (code:Code) (hc:Tryz.f116.body=some code) (c:Code) (hm:c∈regsAt [25] code):HooksOk Tryz.prog A c:=by
 have h:Tryz.f116.body.map (regsAt [25])=some [PO.reg]:=by kernel_rfl
 rw[hc,Option.map_some,Option.some.injEq]at h
 rw[h,List.mem_singleton]at hm
 subst hm
 unfold PO.reg HooksOk
 rw[hA]
 exact PO.hook_ok
end Go.Proofs.YtgmapdlhkfajoaaGreat
