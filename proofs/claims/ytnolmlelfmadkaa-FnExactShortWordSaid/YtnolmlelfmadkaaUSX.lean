import Derived.Test.YtnolmlelfmadkaaGSXp2
import Derived.Test.YtnolmlelfmadkaaGxMv
import Derived.KernelRfl
set_option linter.unusedVariables false
set_option linter.unusedSimpArgs false
set_option maxRecDepth 100000
namespace Go.Proofs.Ytnolmlelfmadkaa
open Go Go.Gx Go.Proofs
abbrev SW.p0 : Oper := { dst := some 59, op := .move (.tmp 8), type := 31, pos := "l28_words.go:323", after := #[], guard := none }
abbrev SW.p1 : Oper := { dst := some 60, op := .move (.tmp 5), type := 31, pos := "l28_words.go:323", after := #[], guard := none }
abbrev SW.p2 : Oper := { dst := some 61, op := .move (.tmp 7), type := 3, pos := "l28_words.go:323", after := #[], guard := none }
abbrev SW.p3 : Oper := { dst := some 62, op := .binOp .add 3 (.tmp 61) (.const (.int .i64 1)) 3, type := 3, pos := "l28_words.go:323", after := #[{ on := 2, ground := .data }], guard := none }
abbrev SW.p4 : Oper := { dst := some 63, op := .slice 31 (.tmp 60) (some (.tmp 62)) none none, type := 31, pos := "l28_words.go:323", after := #[{ on := 1, ground := .data }, { on := 3, ground := .data }], guard := none }
abbrev SW.p5 : Oper := { dst := some 64, op := .call { callee := .builtin .append, args := #[(.tmp 59), (.tmp 63)], argTypes := #[31, 31] }, type := 31, pos := "l28_words.go:323", after := #[{ on := 0, ground := .data }, { on := 4, ground := .data }], guard := none }
abbrev SW.p6 : Oper := { dst := some 9, op := .assign (.tmp 64), type := 31, pos := "l28_words.go:323", after := #[{ on := 5, ground := .data }, { on := 5, ground := .chain }, { on := 0, ground := .phase }, { on := 1, ground := .phase }, { on := 2, ground := .phase }, { on := 3, ground := .phase }, { on := 4, ground := .phase }, { on := 5, ground := .phase }], guard := none }
abbrev SW.p7 : Oper := { dst := some 65, op := .move (.tmp 5), type := 31, pos := "l28_words.go:324", after := #[], guard := none }
abbrev SW.p8 : Oper := { dst := some 66, op := .move (.tmp 7), type := 3, pos := "l28_words.go:324", after := #[], guard := none }
abbrev SW.p9 : Oper := { dst := some 67, op := .move (.tmp 7), type := 3, pos := "l28_words.go:324", after := #[], guard := none }
abbrev SW.p10 : Oper := { dst := some 68, op := .slice 31 (.tmp 65) none (some (.tmp 66)) (some (.tmp 67)), type := 31, pos := "l28_words.go:324", after := #[{ on := 0, ground := .data }, { on := 1, ground := .data }, { on := 2, ground := .data }], guard := none }
abbrev SW.p11 : Oper := { dst := some 69, op := .move (.tmp 9), type := 31, pos := "l28_words.go:324", after := #[], guard := none }
abbrev SW.p12 : Oper := { dst := some 70, op := .call { callee := .builtin .append, args := #[(.tmp 68), (.tmp 69)], argTypes := #[31, 31] }, type := 31, pos := "l28_words.go:324", after := #[{ on := 3, ground := .data }, { on := 4, ground := .data }], guard := none }
abbrev SW.p13 : Oper := { dst := some 5, op := .assign (.tmp 70), type := 31, pos := "l28_words.go:324", after := #[{ on := 5, ground := .data }, { on := 5, ground := .chain }, { on := 0, ground := .phase }, { on := 1, ground := .phase }, { on := 2, ground := .phase }, { on := 3, ground := .phase }, { on := 4, ground := .phase }, { on := 5, ground := .phase }], guard := none }
abbrev SW.o14:Array Oper := #[SW.p0,SW.p1,SW.p2,SW.p3,SW.p4,SW.p5,SW.p6]
abbrev SW.o15:Array Oper := #[SW.p7,SW.p8,SW.p9,SW.p10,SW.p11,SW.p12,SW.p13]
abbrev SW.o19 : Array Oper := #[{ dst := some 82, op := .move (.tmp 11), type := 3, pos := "l28_words.go:328", after := #[], guard := none }, { dst := some 83, op := .binOp .geq 3 (.tmp 82) (.const (.int .i64 0)) 3, type := 4, pos := "l28_words.go:328", after := #[{ on := 0, ground := .data }], guard := none }]
abbrev SW.reg:Code := .seq (.region 14 SW.o14 false) (.region 15 SW.o15 false)
abbrev SW.reg19:Code := .region 19 SW.o19 false
theorem SW.el:(mkCfg tab [] []).elem 31=some (.sl (.int .i64),.o .i):=by kernel_rfl
theorem SW.evp (a:Act) (d:Nat) (v:Value) (i:Nat):(a.put (some d) v).eval (.tmp i)=if i=d∧d<a.tmps.size then v else a.eval (.tmp i):=jgo a d v i
theorem SW.walk15 {a:Act}{w:World}{R:Act→World→Prop}{b5:Option Addr}{n cap j L1 L2:Nat}{v64 v68:Value}{olds5 news:List Value}{ob5:Option Nat}
  (hsz:a.tmps.size=93) (e5:a.eval (.tmp 5) = .slice b5 n cap) (e7:a.eval (.tmp 7) = .int .i64 (j:Int)) (e9:a.eval (.tmp 9)=v64) (hj:j≤n) (hnc:n≤cap)
  (h68:v68 = .slice (if j=0 then b5 else b5.map (·.add (0*(Ty.sl (.int .i64)).cells))) (j-0) (j-0))
  (hs:SrcOk w 1 L2 v64 news) (hb5:BaseOk w 1 L1 v68 olds5 ob5) (hl2:L1+L2≤4294967296)
  (hend:∀(v70:Value) (w2:World) (ob2:Option Nat),BaseOk w2 1 (L1+L2) v70 (olds5++news) ob2→((ob2=ob5∧w2.heap.size=w.heap.size)∨(ob2=some w.heap.size∧w2.heap.size=w.heap.size+1))→(∀b,b<w.heap.size→some b≠ob5→w2.heap[b]? = w.heap[b]?) →
   w2.os=w.os→w2.tape=w.tape→w2.output=w.output →
   R (((((((a.put (some 65) (.slice b5 n cap)).put (some 66) (.int .i64 (j:Int))).put (some 67) (.int .i64 (j:Int))).put (some 68) v68).put (some 69) v64).put (some 70) v70).put (some 5) v70) w2) :
  (Code.region 15 SW.o15 false).wp Try.prog (Exit.then R fun _ _ _=>False) a w:=by
 refine wp_region ?_
 show wpOps Try.prog SW.o15 _ [0,1,2,3,4,5,6] a w
 rw[wpOps_cons]
 refine step1 (o:=SW.p7) rfl rfl (jbv (v := .slice b5 n cap) rfl e5 ?_)
 dsimp only [SW.p7]
 rw[wpOps_cons]
 refine step1 (o:=SW.p8) rfl rfl (jbv (v := .int .i64 (j:Int)) rfl (by simp only[SW.evp,qb,hsz,Nat.reduceEqDiff,Nat.reduceLT,and_true,true_and,false_and,and_self,if_true,if_false,reduceIte,e7]) ?_)
 dsimp only [SW.p8]
 rw[wpOps_cons]
 refine step1 (o:=SW.p9) rfl rfl (jbv (v := .int .i64 (j:Int)) rfl (by simp only[SW.evp,qb,hsz,Nat.reduceEqDiff,Nat.reduceLT,and_true,true_and,false_and,and_self,if_true,if_false,reduceIte,e7]) ?_)
 dsimp only [SW.p9]
 rw[wpOps_cons]
 have q1:(((a.put (some 65) (.slice b5 n cap)).put (some 66) (.int .i64 (j:Int))).put (some 67) (.int .i64 (j:Int))).eval (.tmp 65) = .slice b5 n cap:=by simp only[SW.evp,qb,hsz,Nat.reduceEqDiff,Nat.reduceLT,and_true,true_and,false_and,and_self,if_true,if_false,reduceIte]
 have q2:(((a.put (some 65) (.slice b5 n cap)).put (some 66) (.int .i64 (j:Int))).put (some 67) (.int .i64 (j:Int))).eval (.tmp 66) = .int .i64 (j:Int):=by simp only[SW.evp,qb,hsz,Nat.reduceEqDiff,Nat.reduceLT,and_true,true_and,false_and,and_self,if_true,if_false,reduceIte]
 have q3:(((a.put (some 65) (.slice b5 n cap)).put (some 66) (.int .i64 (j:Int))).put (some 67) (.int .i64 (j:Int))).eval (.tmp 67) = .int .i64 (j:Int):=by simp only[SW.evp,qb,hsz,Nat.reduceEqDiff,Nat.reduceLT,and_true,true_and,false_and,and_self,if_true,if_false,reduceIte]
 have q4:(((a.put (some 65) (.slice b5 n cap)).put (some 66) (.int .i64 (j:Int))).put (some 67) (.int .i64 (j:Int))).eval (.tmp 9)=v64:=by simp only[SW.evp,qb,hsz,Nat.reduceEqDiff,Nat.reduceLT,and_true,true_and,false_and,and_self,if_true,if_false,reduceIte,e9]
 have q5:(((a.put (some 65) (.slice b5 n cap)).put (some 66) (.int .i64 (j:Int))).put (some 67) (.int .i64 (j:Int))).tmps.size=93:=by rw[qb,qb,qb,hsz]
 generalize ((a.put (some 65) (.slice b5 n cap)).put (some 66) (.int .i64 (j:Int))).put (some 67) (.int .i64 (j:Int))=a2 at q1 q2 q3 q4 q5 hend ⊢
 have q6:SW.p10.wp Try.prog a2 w (wpOps Try.prog SW.o15 (Exit.then R fun _ _ _=>False) [4,5,6]) (Exit.then R fun _ _ _=>False):=by
  refine jmi (A:=mkCfg tab [] []) (T:=31) (x := .tmp 65) (y := .tmp 66) (z := .tmp 67) (qu tabOk) (ad:=b5) (n:=n) (cap:=cap) (l:=j) (k := .i64) (k2 := .i64) rfl SW.el q1 q2 q3 hj hnc ?_
  dsimp only [SW.p10]
  rw[←h68,wpOps_cons]
  refine step1 (o:=SW.p11) rfl rfl (jbv (v:=v64) rfl (by simp only[SW.evp,Nat.reduceEqDiff,false_and,if_false,q4]) ?_)
  dsimp only [SW.p11]
  rw[wpOps_cons]
  refine step1 (o:=SW.p12) rfl rfl (jkj (qu tabOk) rfl rfl rfl rfl SW.el (by rw[SW.el];rfl) (vs:=v68) (vx:=v64) (by simp only[SW.evp,qb,q5,Nat.reduceEqDiff,Nat.reduceLT,and_true,true_and,false_and,and_self,if_true,if_false,reduceIte]) (by simp only[SW.evp,qb,q5,Nat.reduceEqDiff,Nat.reduceLT,and_true,true_and,false_and,and_self,if_true,if_false,reduceIte]) hb5 hs hl2 fun v70 w2 ob2 m1 m2 m3 m4 m5 m6 => ?_)
  dsimp only [SW.p12]
  rw[wpOps_cons]
  refine step1 (o:=SW.p13) rfl rfl (jd3 (v:=v70) rfl (by simp only[SW.evp,qb,q5,Nat.reduceEqDiff,Nat.reduceLT,and_true,true_and,false_and,and_self,if_true,if_false,reduceIte]) ?_)
  exact hend v70 w2 ob2 m1 m2 m3 m4 m5 m6
 exact step1 (show SW.o15[3]? = some SW.p10 from rfl) rfl q6
set_option maxHeartbeats 0 in
theorem SW.walk {a:Act}{w:World}{R:Act→World→Prop}{b5:Option Addr}{n cap j L1 L2 L8:Nat}{v5 v8 v63 v68:Value}{olds5 olds8 news:List Value}{ob5 ob8:Option Nat}
  (hsz:a.tmps.size=93) (e5:a.eval (.tmp 5)=v5) (hv5:v5 = .slice b5 n cap) (e7:a.eval (.tmp 7) = .int .i64 (j:Int)) (e8:a.eval (.tmp 8)=v8) (hj:j+1≤n) (hnc:n≤cap) (hw:IntKind.i64.wrap ((j:Int)+1)=((j+1:Nat):Int))
  (h63:v63 = .slice (if cap=j+1 then b5 else b5.map (·.add ((j+1)*(Ty.sl (.int .i64)).cells))) (n-(j+1)) (cap-(j+1)))
  (h68:v68 = .slice (if j=0 then b5 else b5.map (·.add (0*(Ty.sl (.int .i64)).cells))) (j-0) (j-0))
  (hb8:BaseOk w 1 L8 v8 olds8 ob8) (hs:SrcOk w 1 L2 v63 news) (hb5:BaseOk w 1 L1 v68 olds5 ob5) (hne:∀b,ob5=some b→b<w.heap.size∧some b≠ob8)
  (hone:∀u∈olds8++news,u.oneCell'=true) (hl1:L8+L2≤4294967296) (hl2:L1+(L8+L2)≤4294967296)
  (hend:∀(v64 v70:Value) (w1 w2:World) (ob2:Option Nat),w.heap.size≤w1.heap.size→(∀b,b<w.heap.size→some b≠ob8→w1.heap[b]? = w.heap[b]?) →
   BaseOk w2 1 (L1+(L8+L2)) v70 (olds5++(olds8++news)) ob2→((ob2=ob5∧w2.heap.size=w1.heap.size)∨(ob2=some w1.heap.size∧w2.heap.size=w1.heap.size+1))→(∀b,b<w1.heap.size→some b≠ob5→w2.heap[b]? = w1.heap[b]?) →
   w2.os=w.os→w2.tape=w.tape→w2.output=w.output →
   R ((((((((((((((a.put (some 59) v8).put (some 60) v5).put (some 61) (.int .i64 (j:Int))).put (some 62) (.int .i64 ((j+1:Nat):Int))).put (some 63) v63).put (some 64) v64).put (some 9) v64).put (some 65) v5).put (some 66) (.int .i64 (j:Int))).put (some 67) (.int .i64 (j:Int))).put (some 68) v68).put (some 69) v64).put (some 70) v70).put (some 5) v70) w2) :
  SW.reg.wp Try.prog (Exit.then R fun _ _ _=>False) a w:=by
 subst hv5
 unfold SW.reg
 refine wp_seq (wp_region ?_)
 show wpOps Try.prog SW.o14 _ [0,1,2,3,4,5,6] a w
 rw[wpOps_cons]
 refine step1 (o:=SW.p0) rfl rfl (jbv (v:=v8) rfl e8 ?_)
 dsimp only [SW.p0]
 rw[wpOps_cons]
 refine step1 (o:=SW.p1) rfl rfl (jbv (v := .slice b5 n cap) rfl (by simp only[SW.evp,qb,hsz,Nat.reduceEqDiff,Nat.reduceLT,and_true,true_and,false_and,and_self,if_true,if_false,reduceIte,e5]) ?_)
 dsimp only [SW.p1]
 rw[wpOps_cons]
 refine step1 (o:=SW.p2) rfl rfl (jbv (v := .int .i64 (j:Int)) rfl (by simp only[SW.evp,qb,hsz,Nat.reduceEqDiff,Nat.reduceLT,and_true,true_and,false_and,and_self,if_true,if_false,reduceIte,e7]) ?_)
 dsimp only [SW.p2]
 rw[wpOps_cons]
 refine step1 (o:=SW.p3) rfl rfl (jmg (n:=(j:Int)) rfl (by simp only[SW.evp,qb,hsz,Nat.reduceEqDiff,Nat.reduceLT,and_true,true_and,false_and,and_self,if_true,if_false,reduceIte];try rfl) ?_)
 dsimp only [SW.p3]
 rw[hw,wpOps_cons]
 refine step1 (o:=SW.p4) rfl rfl (jmh (qu tabOk) (ad:=b5) (n:=n) (cap:=cap) (l:=j+1) (k := .i64) rfl SW.el (by simp only[SW.evp,qb,hsz,Nat.reduceEqDiff,Nat.reduceLT,and_true,true_and,false_and,and_self,if_true,if_false,reduceIte];try rfl) (by simp only[SW.evp,qb,hsz,Nat.reduceEqDiff,Nat.reduceLT,and_true,true_and,false_and,and_self,if_true,if_false,reduceIte];try rfl) hj hnc ?_)
 dsimp only [SW.p4]
 rw[←h63,wpOps_cons]
 refine step1 (o:=SW.p5) rfl rfl (jkj (qu tabOk) rfl rfl rfl rfl SW.el (by rw[SW.el];rfl) (vs:=v8) (vx:=v63) (by simp only[SW.evp,qb,hsz,Nat.reduceEqDiff,Nat.reduceLT,and_true,true_and,false_and,and_self,if_true,if_false,reduceIte];try rfl) (by simp only[SW.evp,qb,hsz,Nat.reduceEqDiff,Nat.reduceLT,and_true,true_and,false_and,and_self,if_true,if_false,reduceIte];try rfl) hb8 hs hl1 fun v64 w1 ob1 k1 k2 k3 k4 k5 k6 => ?_)
 dsimp only [SW.p5]
 rw[wpOps_cons]
 refine step1 (o:=SW.p6) rfl rfl (jd3 (v:=v64) rfl (by simp only[SW.evp,qb,hsz,Nat.reduceEqDiff,Nat.reduceLT,and_true,true_and,false_and,and_self,if_true,if_false,reduceIte];try rfl) ?_)
 show Code.wp Try.prog (Code.region 15 SW.o15 false) _ _ w1
 refine SW.walk15 (b5:=b5) (n:=n) (cap:=cap) (j:=j) (v64:=v64) (L1:=L1) (L2:=L8+L2) (olds5:=olds5) (ob5:=ob5) (news:=olds8++news) (by simp only[qb,hsz]) (by simp only[SW.evp,qb,hsz,Nat.reduceEqDiff,Nat.reduceLT,and_true,true_and,false_and,and_self,if_true,if_false,reduceIte,e5]) (by simp only[SW.evp,qb,hsz,Nat.reduceEqDiff,Nat.reduceLT,and_true,true_and,false_and,and_self,if_true,if_false,reduceIte,e7]) (by simp only[SW.evp,qb,hsz,Nat.reduceEqDiff,Nat.reduceLT,and_true,true_and,false_and,and_self,if_true,if_false,reduceIte]) (by omega) hnc h68 (k1.src hone) (hb5.keep fun b hb=>k3 b (hne b hb).1 (hne b hb).2) hl2 fun v70 w2 ob2 m1 m2 m3 m4 m5 m6 => ?_
 exact hend v64 v70 w1 w2 ob2 (by omega) k3 m1 m2 m3 (m4.trans k4) (m5.trans k5) (m6.trans k6)
def SW.hook14:Hook where
 run st k:=match st.get 8 with
  | .val (.sl (.sl (.int .i64))) (.o (.o .i)) ys=>match st.get 5 with
   | .val (.sl (.sl (.int .i64))) (.o (.o .i)) xs=>match st.get 7 with
    | .val (.int .i64) .i i =>
     cond (decide ((0:Int)≤IntKind.i64.wrap (i+1)∧IntKind.i64.wrap (i+1)≤(xs.length:Int)))
      ((appI ys ((xs.drop (IntKind.i64.wrap (i+1)).toNat).take (xs.length-(IntKind.i64.wrap (i+1)).toNat))).bind fun r =>
       cond (decide ((0:Int)≤i∧i≤(xs.length:Int)∧i=i))
        ((appI (xs.take i.toNat) r).bind fun z=>if st.length=93 then k (St.put (forget [59,60,61,62,63,64,9,65,66,67,68,69,70] ((dropRefs 8 ((dropRefs 5 st).set 5 .u)).set 8 .u)) 5 (.val (.sl (.sl (.int .i64))) (.o (.o .i)) z)) else none) none) none
    | _=>none
   | _=>none
  | _=>none
theorem SW.ones {w:World}{N:Nat→Prop}{t:Ty}{f:Fl}{xs:List t.den}{cs:List Value}{F:List Nat}(h:RepL (Rep w N t f) t.cells xs cs F) (hl:cs.length=xs.length*t.cells):∀u∈cs,u.oneCell'=true:=by
 have:=RepL.one h
 rwa [←hl,List.take_length]at this
set_option maxHeartbeats 0 in
theorem SW.hook14_ok:HookOk Try.prog SW.reg SW.hook14:=by
 intro ρ c own st a w k r Q hfix h hk hQ
 unfold SW.hook14 at hk
 dsimp only at hk
 split at hk
 case h_2=>cases hk
 rename_i ys hs8
 split at hk
 case h_2=>cases hk
 rename_i xs hs5
 split at hk
 case h_2=>cases hk
 rename_i i hs7
 by_cases c1:(0:Int)≤IntKind.i64.wrap (i+1)∧IntKind.i64.wrap (i+1)≤(xs.length:Int)
 case neg=>rw[decide_eq_false c1]at hk;cases hk
 rw[decide_eq_true c1,cond_true]at hk
 obtain⟨r1,hr1,hk⟩:=Option.bind_eq_some_iff.1 hk
 by_cases c2:(0:Int)≤i∧i≤(xs.length:Int)∧i=i
 case neg=>rw[decide_eq_false c2]at hk;cases hk
 rw[decide_eq_true c2,cond_true]at hk
 obtain⟨z,hz,hk⟩:=Option.bind_eq_some_iff.1 hk
 split at hk
 case isFalse=>cases hk
 rename_i hlen
 obtain⟨lim1,rfl⟩:=jad hr1
 obtain⟨lim2,rfl⟩:=jad hz
 obtain⟨j,rfl⟩:∃j:Nat,i=(j:Int):=⟨i.toNat,(Int.toNat_of_nonneg c2.1).symm⟩
 rw[Int.toNat_natCast]at lim2 hk
 have hjx:j≤xs.length:=Int.ofNat_le.1 c2.2.1
 have hjl:(xs.take j).length=j:=by rw[List.length_take];exact Nat.min_eq_left hjx
 have hw:IntKind.i64.wrap ((j:Int)+1)=((j+1:Nat):Int):=by
  rw[hjl]at lim2
  unfold IntKind.wrap
  simp[IntKind.bits,IntKind.signed]
  omega
 rw[hw]at c1 lim1 lim2 hk
 rw[Int.toNat_natCast]at lim1 lim2 hk
 rw[List.length_append]at lim2
 have hj1:j+1≤xs.length:=Int.ofNat_le.1 c1.2
 have e7:Act.at_ a 7 = .int .i64 (j:Int):=by
  have h7:=h.slot 7
  rw[hs7]at h7
  rcases h7 with⟨cs,hh,hr⟩|⟨u',_,_,e,_⟩
  ·simp only[Holds]at hh
   subst hh
   have hr':[Act.at_ a 7]=[Value.int .i64 (j:Int)]∧own 7=[]:=hr
   exact(List.cons.inj hr'.1).1
  ·cases e
 have repOf:∀{n:Nat} {l:List (List Int)},st.get n = .val (.sl (.sl (.int .i64))) (.o (.o .i)) l→Rep w (NB c own [] w) (.sl (.sl (.int .i64))) (.o (.o .i)) l [Act.at_ a n] (own n):=by
  intro n l e
  have hn:=h.slot n
  rw[e]at hn
  rcases hn with⟨cs,hh,hr⟩|⟨u',_,_,e,_⟩
  ·simp only[Holds]at hh
   subst hh
   exact hr
  ·cases e
 have hr5:=(repOf hs5).shut (N2:=fun _=>False) rfl
 have hr8:=(repOf hs8).shut (N2:=fun _=>False) rfl
 obtain⟨ad,cap,hv5,hcap⟩:=jf3 hr5
 obtain⟨ob5,olds5,news,F1,F2,b5,s2,sub5,ol5,row1,row2⟩:=jj8 (m:=j) (lo:=j+1) (hi:=xs.length) (mx1:=j) (mx2:=cap) (v1 := .slice (if j=0 then ad else ad.map (·.add (0*(Ty.sl (.int .i64)).cells))) (j-0) (j-0)) (v2 := .slice (if cap=j+1 then ad else ad.map (·.add ((j+1)*(Ty.sl (.int .i64)).cells))) (xs.length-(j+1)) (cap-(j+1))) hr5 hv5 (by omega) (by omega) hj1 (Nat.le_refl _) (.inl rfl) hcap rfl rfl
 obtain⟨ob8,olds8,G8,b8,row8,own8⟩:=jau hr8
 have ol8:=b8.len
 have d58:∀b,b∈own 5→b ∉ own 8:=fun b hb hb'=>by have:=h.dj 5 8 b hb hb';cases this
 have nd5:=sub5.nodup (h.nd 5)
 have nd8:=h.nd 8
 rw[own8]at nd8
 have lt5:∀b∈own 5,b<w.heap.size:=h.lt 5
 have lt8:∀b∈own 8,b<w.heap.size:=h.lt 8
 have m5:∀b,ob5=some b→b∈own 5:=fun b hb=>sub5.subset (by rw[hb];simp)
 have m8:∀b,ob8=some b→b∈own 8:=fun b hb=>by rw[own8,hb];simp
 have ne58:∀b,ob5=some b→b<w.heap.size∧some b≠ob8:=fun b hb=>⟨lt5 b (m5 b hb),fun e=>d58 b (m5 b hb) (m8 b e.symm)⟩
 have hone:∀u∈olds8++news,u.oneCell'=true:=fun u hu=>by
  rcases List.mem_append.1 hu with hu|hu
  ·exact SW.ones row8 ol8 u hu
  ·obtain⟨_,_,_,_,_,q⟩:=s2;exact q u hu
 refine wp_mono (Q:=Exit.then (fun a' w'=>∃own' st',k st'=some r∧Inv c own' [] st' a' w') fun _ _ _=>False) ?_ fun e a' w' hq => ?_
 rotate_left
 ·cases e with
  | normal=>obtain⟨own',st',h1,h2⟩:=hq;exact hQ own' st' a' w' h1 h2
  | _=>exact hq.elim
 refine SW.walk (hsz:=by rw[h.size,hlen]) (e5:=rfl) (hv5:=hv5) (e7:=e7) (e8:=rfl) (hj:=hj1) (hnc:=hcap) (hw:=hw) (h63:=rfl) (h68:=rfl) (hb8:=b8) (hs:=s2) (hb5:=b5) (hne:=ne58) (hone:=hone) (hl1:=lim1) (hl2:=lim2) (hend := ?_)
 intro v64 v70 w1 w2 ob2 k1 k2 k3 k4 k5 k6 k7 k8
 have far:∀b,b∈F1++(G8++F2)→(b∈own 5∨b∈own 8)∧some b≠ob5∧some b≠ob8:=by
  intro b hb
  rw[List.nodup_append]at nd5 nd8
  have o5:∀b,b∈F1++F2→(b∈own 5∨b∈own 8)∧some b≠ob5∧some b≠ob8:=fun b hb=>by
   have hm:=sub5.subset (List.mem_append_right _ hb)
   exact⟨.inl hm,fun e=>nd5.2.2 b (by rw[←e];simp) b hb rfl,fun e=>d58 b hm (m8 b e.symm)⟩
  simp only[List.mem_append]at hb
  rcases hb with hb|hb|hb
  ·exact o5 b (by simp[hb])
  ·have hm:b∈own 8:=by rw[own8];simp[hb]
   exact⟨.inr hm,fun e=>d58 b (m5 b e.symm) hm,fun e=>nd8.2.2 b (by rw[←e];simp) b hb rfl⟩
  ·exact o5 b (by simp[hb])
 have hkeep:∀b,b∈F1++(G8++F2)→w2.heap[b]? = w.heap[b]? := fun b hb=>by
  obtain⟨q1,q2,q3⟩:=far b hb
  have hl:b<w.heap.size:=by rcases q1 with q1|q1;exact lt5 b q1;exact lt8 b q1
  rw[k5 b (by omega) q2,k2 b hl q3]
 have rows:RepL (Rep w2 (fun _=>False) (.sl (.int .i64)) (.o .i)) (Ty.sl (.int .i64)).cells (xs.take j++(ys++(xs.drop (j+1)).take (xs.length-(j+1)))) (olds5++(olds8++news)) (F1++(G8++F2)) :=
  (RepL.app row1 ol5 (RepL.app row8 ol8 row2)).mono fun x ds G hG hx=>hx.mono (fun b hb=>hb.elim) fun b hb=>hkeep b (hG b hb)
 have hrep:=jan (xs:=xs.take j++(ys++(xs.drop (j+1)).take (xs.length-(j+1)))) (by rw[List.length_append,List.length_append];exact k3) rows
 have o5:(st.get 5).isOwner=true:=by rw[hs5];rfl
 obtain⟨h1,g1,_⟩:=h.takeSlot o5
 have o8:(St.get ((dropRefs 5 st).set 5 .u) 8).isOwner=true:=by rw[g1,hs8];rfl
 obtain⟨h2,_,_⟩:=h1.takeSlot o8
 have hE:∀b,(b∈own 5∨b∈own 8)→b∈(if 8=5 then [] else own 8)++(own 5++[]):=fun b hb=>by
  simp only[List.append_nil,List.mem_append]
  rcases hb with hb|hb
  ·exact .inr hb
  ·exact .inl hb
 obtain⟨E',nE,hE1,hE2⟩:∃E':List Nat,E'.Nodup∧(∀b∈E',w.heap.size≤b∧b<w2.heap.size)∧(∀b,ob2=some b→(ob5=some b)∨b∈E'):=by
  rcases k4 with⟨q,_⟩|⟨q,q2⟩
  ·exact⟨[],by simp,by simp,fun b hb => .inl (by rw[←q,hb])⟩
  ·exact⟨[w1.heap.size],by simp,by simp;omega,fun b hb => .inr (by rw[q]at hb;simp only[Option.some.injEq]at hb;simp[hb])⟩
 have hsz2:w.heap.size≤w2.heap.size:=by rcases k4 with⟨_,q⟩|⟨_,q⟩<;>omega
 have h3:=h2.grown (E':=E') (w':=w2) (fun b hb hn=>by
  have hn5:some b≠ob5:=fun e=>hn (hE b (.inl (m5 b e.symm)))
  have hn8:some b≠ob8:=fun e=>hn (hE b (.inr (m8 b e.symm)))
  rw[k5 b (by omega) hn5,k2 b hb hn8]) hsz2 k6 k7 k8 trivial nE hE1
 have ndF:(ob2.toList++(F1++(G8++F2))).Nodup:=by
  rw[List.nodup_append]at nd5 nd8
  have n12:=nd5.2.1
  rw[List.nodup_append]at n12
  have g8:∀b,b∈G8→b∈own 8:=fun b hb=>by rw[own8];simp[hb]
  have f1:∀b,b∈F1→b∈own 5:=fun b hb=>sub5.subset (by simp[hb])
  have f2:∀b,b∈F2→b∈own 5:=fun b hb=>sub5.subset (by simp[hb])
  rw[List.nodup_append,List.nodup_append,List.nodup_append]
  refine⟨by cases ob2<;>simp,⟨n12.1,⟨nd8.2.1,n12.2.1,fun p hp q hq e=>d58 q (f2 q hq) (e▸g8 p hp)⟩,fun p hp q hq e => ?_⟩,fun p hp q hq e => ?_⟩
  ·rcases List.mem_append.1 hq with hq|hq
   ·exact d58 p (f1 p hp) (e▸g8 q hq)
   ·exact n12.2.2 p hp q hq e
  ·subst e
   have hp':ob2=some p:=by cases ob2 with
    | none=>simp at hp
    | some b=>simp only[Option.toList_some,List.mem_singleton]at hp;rw[hp]
   obtain⟨q1,q2,q3⟩:=far p hq
   rcases hE2 p hp' with q|q
   ·exact q2 q.symm
   ·have:=(hE1 p q).1
    rcases q1 with q1|q1
    ·have:=lt5 p q1;omega
    ·have:=lt8 p q1;omega
 have h4:=h3.hand (E':=ob2.toList++(F1++(G8++F2))) (fun b hb=>by
  rcases List.mem_append.1 hb with hb|hb
  ·have hb':ob2=some b:=by cases ob2 with
    | none=>simp at hb
    | some b'=>simp only[Option.toList_some,List.mem_singleton]at hb;rw[hb]
   rcases hE2 b hb' with q|q
   ·exact List.mem_append_right _ (hE b (.inl (m5 b q)))
   ·exact List.mem_append_left _ q
  ·exact List.mem_append_right _ (hE b (far b hb).1)) ndF
 obtain⟨own5,h5⟩:=jfo (dv:=[(59,Act.at_ a 8),(60,Act.at_ a 5),(61,.int .i64 (j:Int)),(62,.int .i64 ((j+1:Nat):Int)),(63,.slice (if cap=j+1 then ad else ad.map (·.add ((j+1)*(Ty.sl (.int .i64)).cells))) (xs.length-(j+1)) (cap-(j+1))),(64,v64),(9,v64),(65,Act.at_ a 5),(66,.int .i64 (j:Int)),(67,.int .i64 (j:Int)),(68,.slice (if j=0 then ad else ad.map (·.add (0*(Ty.sl (.int .i64)).cells))) (j-0) (j-0)),(69,v64),(70,v70)]) h4 (fun q hq=>hfix q.1 (by
  have hm:q.1∈([59,60,61,62,63,64,9,65,66,67,68,69,70]:List Nat):=by
   have:=List.mem_map_of_mem (f:=Prod.fst) hq
   exact this
  generalize q.1=q1 at hm
  simp only[List.mem_cons,List.not_mem_nil,or_false]at hm
  rcases hm with rfl|rfl|rfl|rfl|rfl|rfl|rfl|rfl|rfl|rfl|rfl|rfl|rfl<;>rfl))
 obtain⟨own6,h6,_⟩:=Inv.put (E:=[]) (F:=ob2.toList++(F1++(G8++F2))) (v := .val (.sl (.sl (.int .i64))) (.o (.o .i)) (xs.take j++(ys++(xs.drop (j+1)).take (xs.length-(j+1))))) (value:=v70) 5 (by rw[List.append_nil];exact h5) (.inl ⟨_,rfl,hrep.shut rfl⟩) fun u' hu=>by
  rw[hfix 5 rfl]at hu;cases hu
 exact⟨own6,_,hk,h6⟩
def SW.hook19:Hook where
 run st k:=runOps (mkCfg tab [] []) SW.o19.toList SW.o19.toList st fun st1=>match st1.get 83 with
  | .val .bool f b=>cond b (k (st1.set 83 (.val .bool f true))) (takeAtK 10 (st1.set 83 (.val .bool f false)) k)
  | _=>none
theorem SW.setSelf {st:St}{d:Nat}{v:V}(h:st.get d=v):st.set d v=st:=by
 apply List.ext_getElem?
 intro i
 rw[List.getElem?_set]
 split
 ·rename_i e
  subst e
  split
  ·rename_i hl
   subst h
   unfold St.get
   rw[List.getD_eq_getElem?_getD,List.getElem?_eq_getElem hl]
   rfl
  ·rename_i hl
   rw[List.getElem?_eq_none (by omega)]
 ·rfl
theorem SW.hook19_ok:HookOk Try.prog SW.reg19 SW.hook19:=by
 intro ρ c own st a w k r Q hfix h hk hQ
 have hk:runOps (mkCfg tab [] []) SW.o19.toList SW.o19.toList st (fun st1=>match st1.get 83 with
  | .val .bool f b=>cond b (k (st1.set 83 (.val .bool f true))) (takeAtK 10 (st1.set 83 (.val .bool f false)) k)
  | _=>none)=some r:=hk
 refine wp_region ?_
 rw[List.range_eq_range']
 have:=jdx (Q:=Q) (qu tabOk) (jc8 (show SigsOk Try.prog [] from trivial)) (ops:=SW.o19) (os:=SW.o19.toList) (n:=0) (fun own' st' a' w' hk' h'=>by
  split at hk'
  case h_2=>cases hk'
  rename_i f b hg
  cases b with
  | true =>
   rw[cond_true,SW.setSelf hg]at hk'
   exact hQ own' st' a' w' hk' h'
  | false =>
   rw[cond_false,SW.setSelf hg]at hk'
   obtain⟨own2,st2,hk2,h2⟩:=jjb h' hk'
   exact hQ own2 st2 a' w' hk2 h2) (fun j o ho=>by simpa using ho) (fun o ho n hn=>hfix n (by
  unfold fillsB
  rw[List.any_eq_true]
  exact⟨o,ho,by rw[hn];simp⟩)) h hk
 simpa using this
theorem PO.hooks_impl_shortWord (A:Cfg) (h1:A.hook 19=some SW.hook19) (h2:A.hook 3000014=some SW.hook14) (code:Code) (hc:Try.f14.body=some code) (c:Code) (hm:c∈regsAt [19,3000014] code):HooksOk Try.prog A c:=by
 have h:Try.f14.body.map (regsAt [19,3000014])=some [SW.reg,SW.reg19]:=by kernel_rfl
 rw[hc,Option.map_some,Option.some.injEq]at h
 rw[h]at hm
 simp only[List.mem_cons,List.not_mem_nil,or_false]at hm
 rcases hm with rfl|rfl
 ·unfold HooksOk
  rw[show 3000000+rid (Code.region 14 SW.o14 false)=3000014 from rfl,h2]
  exact SW.hook14_ok
 ·unfold SW.reg19 HooksOk
  rw[h1]
  exact SW.hook19_ok
end Go.Proofs.Ytnolmlelfmadkaa
