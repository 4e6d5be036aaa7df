import Derived.Test.YtgmapdlhkfajoaaGreatGSTp5
import Derived.Test.YtgmapdlhkfajoaaGreatGxRow2
import Derived.KernelRfl
import Derived.WalkKit
import Derived.WalkSpells
import Derived.BigCall
import Derived.Deep.QuietTactic
import Derived.Deep.RegionHeld3
import Derived.Deep.RegionLaw
import Derived.BigRegion
import Derived.RegionTactic
import Derived.Below
import Derived.LoopTactic
import Derived.Deep.DeepCutAuto
set_option linter.unusedVariables false
set_option linter.unusedSimpArgs false
set_option maxRecDepth 100000
namespace Go.Proofs.YtgmapdlhkfajoaaGreat
open Go Go.Gx Go.Proofs Go.RowKit
abbrev PV.reg : Code := Code.region 10 #[{ dst := some 48, op := .fieldAddr 34 (.tmp 4) 1, type := 0, pos := "l29_boolean.go:336", after := #[], guard := none }, { dst := some 49, op := .load 32 (.tmp 48), type := 32, pos := "l29_boolean.go:336", after := #[{ on := 0, ground := .data }], guard := none }, { dst := some 50, op := .slice 32 (.tmp 49) none (some (.const (.int .i64 1))) none, type := 32, pos := "l29_boolean.go:336", after := #[{ on := 1, ground := .data }], guard := none }, { dst := some 51, op := .fieldAddr 34 (.tmp 4) 1, type := 0, pos := "l29_boolean.go:336", after := #[{ on := 0, ground := .phase }, { on := 1, ground := .phase }, { on := 2, ground := .phase }], guard := none }, { dst := none, op := .store 32 (.tmp 51) (.tmp 50), type := 0, pos := "l29_boolean.go:336", after := #[{ on := 3, ground := .data }, { on := 2, ground := .data }, { on := 0, ground := .phase }, { on := 1, ground := .phase }, { on := 2, ground := .phase }], guard := none }] false
set_option maxHeartbeats 0 in
theorem PV.walk (u0 u1 u2 u3 u5 u6 u7 u8 u9 u10 u11 u12 u13 u14 u15 u16 u17 u18 u19 u20 u21 u22 u23 u24 u25 u26 u27 u28 u29 u30 u31 u32 u33 u34 u35 u36 u37 u38 u39 u40 u41 u42 u43 u44 u45 u46 u47 u48 u49 u50 u51 u52:Value) (W:World) (b5 bb cap:Nat) (nbl:Nat) (R:Act→World→Prop)
  (h9:W.cell? ⟨b5,1,none⟩=some (.slice (some ⟨bb,0,none⟩) nbl cap)) (hfz:W.frozen? ⟨b5,1,none⟩=false) (hj:1≤nbl) (hcap:nbl≤cap)
  (hend:R { tmps := #[u0,u1,u2,u3,.pointer (some ⟨b5,0,none⟩),u5,u6,u7,u8,u9,u10,u11,u12,u13,u14,u15,u16,u17,u18,u19,u20,u21,u22,u23,u24,u25,u26,u27,u28,u29,u30,u31,u32,u33,u34,u35,u36,u37,u38,u39,u40,u41,u42,u43,u44,u45,u46,u47,.pointer (some ⟨b5,1,none⟩),.slice (some ⟨bb,0,none⟩) nbl cap,.slice (some ⟨bb,0,none⟩) 1 cap,.pointer (some ⟨b5,1,none⟩),u52],defers:=[] } (W.setCell ⟨b5,1,none⟩ (.slice (some ⟨bb,0,none⟩) 1 cap))) :
  PV.reg.wp Tryz.prog (Exit.then R fun _ _ _=>False) { tmps := #[u0,u1,u2,u3,.pointer (some ⟨b5,0,none⟩),u5,u6,u7,u8,u9,u10,u11,u12,u13,u14,u15,u16,u17,u18,u19,u20,u21,u22,u23,u24,u25,u26,u27,u28,u29,u30,u31,u32,u33,u34,u35,u36,u37,u38,u39,u40,u41,u42,u43,u44,u45,u46,u47,u48,u49,u50,u51,u52],defers:=[] } W:=by
 have hj1:(1:Int)≤(nbl:Int):=by omega
 have hj2:(1:Int)≤(cap:Int):=by omega
 have hj3:(0:Int)≤(1:Int):=by omega
 have hj4:cap≠0:=by omega
 unfold PV.reg
 go_wp2
 exact hend
theorem PV.lit (f:Nat→Value):((List.range 53).map f).toArray = #[f 0,f 1,f 2,f 3,f 4,f 5,f 6,f 7,f 8,f 9,f 10,f 11,f 12,f 13,f 14,f 15,f 16,f 17,f 18,f 19,f 20,f 21,f 22,f 23,f 24,f 25,f 26,f 27,f 28,f 29,f 30,f 31,f 32,f 33,f 34,f 35,f 36,f 37,f 38,f 39,f 40,f 41,f 42,f 43,f 44,f 45,f 46,f 47,f 48,f 49,f 50,f 51,f 52]:=by kernel_rfl
theorem PV.put (u0 u1 u2 u3 u4 u5 u6 u7 u8 u9 u10 u11 u12 u13 u14 u15 u16 u17 u18 u19 u20 u21 u22 u23 u24 u25 u26 u27 u28 u29 u30 u31 u32 u33 u34 u35 u36 u37 u38 u39 u40 u41 u42 u43 u44 u45 u46 u47 u48 u49 u50 u51 u52 v48 v49 v50 v51:Value):([(48,v48),(49,v49),(50,v50),(51,v51)]:List (Nat×Value)).foldl (fun(a:Act) p=>a.put (some p.1) p.2) { tmps := #[u0,u1,u2,u3,u4,u5,u6,u7,u8,u9,u10,u11,u12,u13,u14,u15,u16,u17,u18,u19,u20,u21,u22,u23,u24,u25,u26,u27,u28,u29,u30,u31,u32,u33,u34,u35,u36,u37,u38,u39,u40,u41,u42,u43,u44,u45,u46,u47,u48,u49,u50,u51,u52],defers:=[] }={ tmps := #[u0,u1,u2,u3,u4,u5,u6,u7,u8,u9,u10,u11,u12,u13,u14,u15,u16,u17,u18,u19,u20,u21,u22,u23,u24,u25,u26,u27,u28,u29,u30,u31,u32,u33,u34,u35,u36,u37,u38,u39,u40,u41,u42,u43,u44,u45,u46,u47,v48,v49,v50,v51,u52],defers:=[] }:=by kernel_rfl
def PV.hook:Hook where
 run st k:=match st.get 4 with
  | .val (.ptr (.pair (.int .i64) (.pair (.sl (.pair (.int .i64) (.pair (.sl (.int .i64)) .unit))) .unit))) (.o (.p .i (.p (.o (.p .i (.p (.o .i) .i))) .i))) p =>
   cond (decide ((1:Int)≤(p.2.1.length:Int))) (if st.length=53 then k (forget [48,49,50,51] (St.put ((dropRefs 4 st).set 4 .u) 4 (.val (.ptr (.pair (.int .i64) (.pair (.sl (.pair (.int .i64) (.pair (.sl (.int .i64)) .unit))) .unit))) (.o (.p .i (.p (.o (.p .i (.p (.o .i) .i))) .i))) (p.1,p.2.1.take 1,p.2.2)))) else none) none
  | _=>none
set_option maxHeartbeats 0 in
theorem PV.hook_ok:HookOk Tryz.prog PV.reg PV.hook:=by
 intro ρ c own st a w k r Q hfix h hk hQ
 unfold PV.hook at hk
 simp only at hk
 split at hk
 case h_2=>cases hk
 rename_i p hs9
 by_cases hone:(1:Int)≤(p.2.1.length:Int)
 case neg=>rw[decide_eq_false hone]at hk;cases hk
 rw[decide_eq_true hone,cond_true]at hk
 split at hk
 case isFalse=>cases hk
 rename_i hlen
 have hsl:=h.slot 4
 rw[hs9]at hsl
 rcases hsl with⟨cs,hh,hr⟩|⟨u',_,_,e,_⟩
 rotate_left
 ·cases e
 have hh:cs=[Act.at_ a 4]:=hh
 subst hh
 rw[Rep]at hr
 obtain⟨b5,arr,et,F1,e9,hb9,eown,hrep⟩:=hr
 simp only[List.cons.injEq,and_true]at e9
 obtain⟨hv,harr',hrep⟩:=rep_ix.1 hrep
 have hrep:Rep w (NB c own [] w) (.sl OpT) (.o OpF) p.2.1 [hv] F1:=hrep
 have nd9:(b5::F1).Nodup:=by have:=h.nd 4;rw[eown]at this;simpa using this
 obtain⟨bb,cap,rfl,hcap⟩:∃bb cap,hv = .slice (some ⟨bb,0,none⟩) p.2.1.length cap∧p.2.1.length≤cap:=by
  have hr2:=hrep
  rw[Rep]at hr2
  rcases hr2 with⟨e0,_⟩|⟨bb,cap,arr2,e2,G,q1,_,_,q4,_⟩
  ·rw[e0]at hone;simp at hone
  ·simp only[List.cons.injEq,and_true]at q1
   exact⟨bb,cap,q1,q4⟩
 have h9c:w.cell? ⟨b5,1,none⟩=some (.slice (some ⟨bb,0,none⟩) p.2.1.length cap):=by
  simp only[World.cell?,hb9]
  have:arr = #[.int .i64 p.1,.slice (some ⟨bb,0,none⟩) p.2.1.length cap]:=by apply Array.ext';rw[harr']
  rw[this];rfl
 have hfz:w.frozen? ⟨b5,1,none⟩=false:=by simp[World.frozen?,hb9]
 have hlt9:b5<w.heap.size:=h.lt 4 b5 (by rw[eown];simp)
 have ea:=jeg (n:=53) (a:=a) (by rw[h.size,hlen]) h.defers
 rw[PV.lit]at ea
 rw[e9]at ea
 refine wp_mono (Q:=Exit.then (fun a' w'=>∃own' st',k st'=some r∧Inv c own' [] st' a' w') fun _ _ _=>False) ?_ fun e a' w' hq => ?_
 rotate_left
 ·cases e with
  | normal=>obtain⟨own',st',h1,h2⟩:=hq;exact hQ own' st' a' w' h1 h2
  | _=>exact hq.elim
 have key:PV.reg.wp Tryz.prog (Exit.then (fun a' w'=>∃own' st',k st'=some r∧Inv c own' [] st' a' w') fun _ _ _=>False) { tmps := #[Act.at_ a 0,Act.at_ a 1,Act.at_ a 2,Act.at_ a 3,.pointer (some ⟨b5,0,none⟩),Act.at_ a 5,Act.at_ a 6,Act.at_ a 7,Act.at_ a 8,Act.at_ a 9,Act.at_ a 10,Act.at_ a 11,Act.at_ a 12,Act.at_ a 13,Act.at_ a 14,Act.at_ a 15,Act.at_ a 16,Act.at_ a 17,Act.at_ a 18,Act.at_ a 19,Act.at_ a 20,Act.at_ a 21,Act.at_ a 22,Act.at_ a 23,Act.at_ a 24,Act.at_ a 25,Act.at_ a 26,Act.at_ a 27,Act.at_ a 28,Act.at_ a 29,Act.at_ a 30,Act.at_ a 31,Act.at_ a 32,Act.at_ a 33,Act.at_ a 34,Act.at_ a 35,Act.at_ a 36,Act.at_ a 37,Act.at_ a 38,Act.at_ a 39,Act.at_ a 40,Act.at_ a 41,Act.at_ a 42,Act.at_ a 43,Act.at_ a 44,Act.at_ a 45,Act.at_ a 46,Act.at_ a 47,Act.at_ a 48,Act.at_ a 49,Act.at_ a 50,Act.at_ a 51,Act.at_ a 52],defers:=[] } w:=by
  refine PV.walk (Act.at_ a 0) (Act.at_ a 1) (Act.at_ a 2) (Act.at_ a 3) (Act.at_ a 5) (Act.at_ a 6) (Act.at_ a 7) (Act.at_ a 8) (Act.at_ a 9) (Act.at_ a 10) (Act.at_ a 11) (Act.at_ a 12) (Act.at_ a 13) (Act.at_ a 14) (Act.at_ a 15) (Act.at_ a 16) (Act.at_ a 17) (Act.at_ a 18) (Act.at_ a 19) (Act.at_ a 20) (Act.at_ a 21) (Act.at_ a 22) (Act.at_ a 23) (Act.at_ a 24) (Act.at_ a 25) (Act.at_ a 26) (Act.at_ a 27) (Act.at_ a 28) (Act.at_ a 29) (Act.at_ a 30) (Act.at_ a 31) (Act.at_ a 32) (Act.at_ a 33) (Act.at_ a 34) (Act.at_ a 35) (Act.at_ a 36) (Act.at_ a 37) (Act.at_ a 38) (Act.at_ a 39) (Act.at_ a 40) (Act.at_ a 41) (Act.at_ a 42) (Act.at_ a 43) (Act.at_ a 44) (Act.at_ a 45) (Act.at_ a 46) (Act.at_ a 47) (Act.at_ a 48) (Act.at_ a 49) (Act.at_ a 50) (Act.at_ a 51) (Act.at_ a 52) w b5 bb cap p.2.1.length _ h9c hfz (by omega) hcap ?_
  have hset:=qy (o:=1) (v:=Value.slice (some ⟨bb,0,none⟩) 1 cap) hb9
  have hsize:(w.setCell ⟨b5,1,none⟩ (Value.slice (some ⟨bb,0,none⟩) 1 cap)).heap.size=w.heap.size:=by simp[World.setCell]
  have hos:(w.setCell ⟨b5,1,none⟩ (Value.slice (some ⟨bb,0,none⟩) 1 cap)).os=w.os∧(w.setCell ⟨b5,1,none⟩ (Value.slice (some ⟨bb,0,none⟩) 1 cap)).tape=w.tape∧(w.setCell ⟨b5,1,none⟩ (Value.slice (some ⟨bb,0,none⟩) 1 cap)).output=w.output:=⟨rfl,rfl,rfl⟩
  generalize w.setCell ⟨b5,1,none⟩ (Value.slice (some ⟨bb,0,none⟩) 1 cap)=w2 at hset hsize hos ⊢
  have hb9F1:b5 ∉ F1:=(List.nodup_cons.1 nd9).1
  have hrep0:=hrep.shut (N2:=fun _=>False) rfl
  have hrep2:Rep w2 (fun _=>False) (.sl OpT) (.o OpF) p.2.1 [Value.slice (some ⟨bb,0,none⟩) p.2.1.length cap] F1:=hrep0.mono (fun b hb=>hb.elim) fun b hb=>by
   rw[hset b,if_neg (fun e=>hb9F1 (by rw[←e];exact hb))]
  obtain⟨F',hsub,hrep'⟩:=jha (hi:=1) (value:=Value.slice (some ⟨bb,0,none⟩) 1 cap) hrep2 rfl (by omega) (by
   rw[if_neg (by omega)]
   simp[Addr.add])
  have hown9:(st.get 4).isOwner=true:=by rw[hs9];rfl
  obtain⟨h1,_,_⟩:=h.takeSlot hown9
  have hsame:∀b,b<w.heap.size→b ∉ own 4++[]→w2.heap[b]? = w.heap[b]? := fun b hb hn=>by
   rw[eown]at hn
   simp only[List.append_nil,List.mem_cons,not_or]at hn
   rw[hset b,if_neg hn.1]
  have h2:=h1.grown (E':=[]) hsame (by omega) hos.1 hos.2.1 hos.2.2 trivial (by simp) (by simp)
  have hF':∀b∈F',b∈F1:=fun b hb=>hsub.subset hb
  have nd':F'.Nodup:=(List.nodup_cons.1 nd9).2.sublist hsub
  have h3:=h2.hand (E':=(b5::F')++[]) (fun b hb=>by
   simp only[List.append_nil,List.mem_cons]at hb
   rw[eown]
   rcases hb with rfl|hb
   ·simp
   ·simp[hF' b hb]) (by rw[List.append_nil];exact List.nodup_cons.2 ⟨fun hm=>hb9F1 (hF' _ hm),nd'⟩)
  have h4:=Inv.put (v := .val (.ptr (.pair (.int .i64) (.pair (.sl (.pair (.int .i64) (.pair (.sl (.int .i64)) .unit))) .unit))) (.o (.p .i (.p (.o (.p .i (.p (.o .i) .i))) .i))) (p.1,p.2.1.take 1,p.2.2)) (value:=Act.at_ a 4) 4 h3 (by
   refine .inl ⟨[Act.at_ a 4],rfl, ?_⟩
   rw[e9,Rep]
   refine⟨b5,arr.setIfInBounds 1 (Value.slice (some ⟨bb,0,none⟩) 1 cap),et,F',rfl, ?_,rfl, ?_⟩
   ·rw[hset b5,if_pos rfl]
   ·refine rep_ix.2 ⟨Value.slice (some ⟨bb,0,none⟩) 1 cap, ?_, ?_⟩
    ·rw[Array.toList_setIfInBounds,harr'];rfl
    ·exact hrep'.shut (N2:=NB c (fun i=>if i=4 then [] else own i) (b5::F'++[]) w2) rfl) fun u' hu=>(h.fixed 4 u' hu).symm
  obtain⟨own4,h4,_⟩:=h4
  rw[PO.same]at h4
  obtain⟨own5,h5⟩:=jb2 (dv:=[(48,.pointer (some ⟨b5,1,none⟩)),(49,.slice (some ⟨bb,0,none⟩) p.2.1.length cap),(50,.slice (some ⟨bb,0,none⟩) 1 cap),(51,.pointer (some ⟨b5,1,none⟩))]) h4 (fun q hq=>hfix q.1 (by
   have hm:q.1∈([48,49,50,51]:List Nat):=by
    have:=List.mem_map_of_mem (f:=Prod.fst) hq
    exact this
   generalize q.1=q1 at hm
   simp only[List.mem_cons,List.not_mem_nil,or_false]at hm
   rcases hm with rfl|rfl|rfl|rfl<;>rfl))
  refine⟨own5,_,hk, ?_⟩
  have e2:∀dv:List (Nat×Value),dv.foldl (fun(a:Act) p=>a.put (some p.1) p.2) a=dv.foldl (fun(a:Act) p=>a.put (some p.1) p.2) { tmps := #[Act.at_ a 0,Act.at_ a 1,Act.at_ a 2,Act.at_ a 3,.pointer (some ⟨b5,0,none⟩),Act.at_ a 5,Act.at_ a 6,Act.at_ a 7,Act.at_ a 8,Act.at_ a 9,Act.at_ a 10,Act.at_ a 11,Act.at_ a 12,Act.at_ a 13,Act.at_ a 14,Act.at_ a 15,Act.at_ a 16,Act.at_ a 17,Act.at_ a 18,Act.at_ a 19,Act.at_ a 20,Act.at_ a 21,Act.at_ a 22,Act.at_ a 23,Act.at_ a 24,Act.at_ a 25,Act.at_ a 26,Act.at_ a 27,Act.at_ a 28,Act.at_ a 29,Act.at_ a 30,Act.at_ a 31,Act.at_ a 32,Act.at_ a 33,Act.at_ a 34,Act.at_ a 35,Act.at_ a 36,Act.at_ a 37,Act.at_ a 38,Act.at_ a 39,Act.at_ a 40,Act.at_ a 41,Act.at_ a 42,Act.at_ a 43,Act.at_ a 44,Act.at_ a 45,Act.at_ a 46,Act.at_ a 47,Act.at_ a 48,Act.at_ a 49,Act.at_ a 50,Act.at_ a 51,Act.at_ a 52],defers:=[] }:=fun dv=>by conv=>lhs;rw[ea]
  rw[e2,PV.put]at h5
  exact h5
 rw[ea]
 exact key
theorem PO.hooks_spec_DrawLatticeOfRing (A:Cfg) (hA:A.hook 10=some PV.hook) (code:Code) (hc:Tryz.f22.body=some code) (c:Code) (hm:c∈regsAt [10] code):HooksOk Tryz.prog A c:=by
 have h:Tryz.f22.body.map (regsAt [10])=some [PV.reg]:=by kernel_rfl
 rw[hc,Option.map_some,Option.some.injEq]at h
 rw[h,List.mem_singleton]at hm
 subst hm
 unfold PV.reg HooksOk
 rw[hA]
 exact PV.hook_ok
end Go.Proofs.YtgmapdlhkfajoaaGreat
