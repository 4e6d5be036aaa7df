import Derived.Test.YtnolmlelfmadkaaGxSet
set_option linter.unusedVariables false
namespace Go.Gx
open Go
theorem Rep.toPlain {w:World}{N N2:Nat→Prop}(hN:∀b,N b→N2 b):∀{t:Ty}{f:Fl}{x:t.den}{cs:List Value}{F:List Nat},
  Rep w N t f x cs F→(∀b∈F,N2 b)→Rep w N2 t .i x cs []
 | .int _,_,_,_,_,h,_=>⟨h.1,rfl⟩
 | .bool,_,_,_,_,h,_=>⟨h.1,rfl⟩
 | .str,_,_,_,_,h,_=>⟨h.1,rfl⟩
 | .unit,_,_,_,_,h,_=>⟨h.1,rfl⟩
 | .any _,_,_,_,_,h,_=>⟨h.1,rfl⟩
 | .sl t,f,_,_,F,h,hF=>by
  simp only[Rep]at h ⊢
  split at h
  ·rename_i g
   rcases h with⟨h1,h2,h3⟩|⟨b,cap,arr,e,G,h1,h2,h3,h4,h5,h6,h7⟩
   ·subst h1
    exact⟨trivial,none,0,h2,Nat.le_refl _,Nat.zero_le _,fun h=>absurd rfl h⟩
   ·refine⟨trivial,_,cap,h1,h4,h5,fun _=>⟨b,0,arr,e,(0,0),rfl,hF b (by simp[h6]),h2, ?_⟩⟩
    simp only[List.drop_zero]
    have key:∀(xs:List t.den) (ds:List Value) (G':List Nat),(∀c∈G',N2 c)→RepL (Rep w N t g) t.cells xs ds G'→RepL (Rep w N2 t .i) t.cells xs ds []:=by
     intro xs
     induction xs with
     | nil=>intro ds G' _ _;rfl
     | cons y ys ih =>
      intro ds G' hG hr
      obtain⟨F1,F2,e0,hl,hx,hr⟩:=hr
      exact⟨[],[],rfl,hl,Rep.toPlain hN hx fun c hc=>hG c (by rw[e0];exact List.mem_append_left _ hc),ih _ _ (fun c hc=>hG c (by rw[e0];exact List.mem_append_right _ hc)) hr⟩
    exact key _ _ G (fun c hc=>hF c (by rw[h6];exact List.mem_cons_of_mem _ hc)) h7
  ·obtain⟨_,a,cap,h1,h2,h3,h4⟩:=h
   refine⟨trivial,a,cap,h1,h2,h3,fun hx => ?_⟩
   obtain⟨b,off,arr,e,fr,g1,g2,g3,g4⟩:=h4 hx
   exact⟨b,off,arr,e,fr,g1,hN b g2,g3,g4.mono fun y ds G hG hr=>Rep.mono (fun c hc=>⟨hN c hc,rfl⟩) hr fun c hc=>absurd (hG c hc) (by simp)⟩
 | .ptr t,f,_,_,F,h,hF=>by
  simp only[Rep]at h ⊢
  split at h
  ·obtain⟨b,arr,e,G,h1,h2,h3,h4⟩:=h
   have hl:=h4.len
   refine⟨trivial,b,0,arr,e,(0,0),h1,hF b (by simp[h3]),h2,by simp only[Array.length_toList]at hl;omega, ?_⟩
   rw[List.drop_zero,List.take_of_length_le (by omega)]
   exact Rep.toPlain hN h4 fun c hc=>hF c (by rw[h3];exact List.mem_cons_of_mem _ hc)
  ·obtain⟨_,b,off,arr,e,fr,g1,g2,g3,g5,g4⟩:=h
   exact⟨trivial,b,off,arr,e,fr,g1,hN b g2,g3,g5,Rep.mono (fun c hc=>⟨hN c hc,rfl⟩) g4 fun c hc=>absurd hc (by simp)⟩
 | .map _ _,f,_,_,F,h,hF=>by
  simp only[Rep]at h ⊢
  split at h
  ·obtain⟨b,es,ck,h1,h2,h3,h4⟩:=h
   exact⟨trivial,b,es,ck,h1,hF b (by simp[h3]),h2,h4⟩
  ·obtain⟨_,b,es,ck,h1,h2,h3,h4⟩:=h
   exact⟨trivial,b,es,ck,h1,hN b h2,h3,h4⟩
 | .opt t,f,x,_,F,h,hF=>by
  simp only[Rep]at h ⊢
  refine⟨trivial, ?_⟩
  split at h
  ·split at h
   ·exact h.1
   ·obtain⟨b,arr,e,G,h1,h2,h3,h4⟩:=h
    have hl:=h4.len
    refine⟨b,0,arr,e,(0,0),h1,hF b (by simp[h3]),h2,by simp only[Array.length_toList]at hl;omega, ?_⟩
    rw[List.drop_zero,List.take_of_length_le (by omega)]
    exact Rep.toPlain hN h4 fun c hc=>hF c (by rw[h3];exact List.mem_cons_of_mem _ hc)
  ·obtain⟨_,h⟩:=h
   split at h
   ·exact h
   ·obtain⟨b,off,arr,e,fr,g1,g2,g3,g5,g4⟩:=h
    exact⟨b,off,arr,e,fr,g1,hN b g2,g3,g5,Rep.mono (fun c hc=>⟨hN c hc,rfl⟩) g4 fun c hc=>absurd hc (by simp)⟩
 | .pair a b,_,_,_,F,h,hF=>by
  simp only[Rep,Fl.l,Fl.r]at h ⊢
  obtain⟨F1,F2,h0,hl,h1,h2⟩:=h
  subst h0
  exact⟨[],[],rfl,hl,Rep.toPlain hN h1 fun c hc=>hF c (List.mem_append_left _ hc),Rep.toPlain hN h2 fun c hc=>hF c (List.mem_append_right _ hc)⟩
 | .tup _,_,_,_,_,h,_=>h.elim
 | .ns t,f,x,_,F,h,hF=>by
  simp only[Rep]at h ⊢
  refine⟨trivial, ?_⟩
  split at h
  ·rename_i g
   split at h
   ·exact h.1
   ·obtain⟨hne,b,cap,arr,e,G,h1,h2,h3,h4,h5,h6,h7⟩:=h
    refine⟨hne,b,0,cap,arr,e,(0,0),h1,h4,h5,hF b (by simp[h6]),h2, ?_⟩
    simp only[List.drop_zero]
    have key:∀(xs:List t.den) (ds:List Value) (G':List Nat),(∀c∈G',N2 c)→RepL (Rep w N t g) t.cells xs ds G'→RepL (Rep w N2 t .i) t.cells xs ds []:=by
     intro xs
     induction xs with
     | nil=>intro ds G' _ _;rfl
     | cons y ys ih =>
      intro ds G' hG hr
      obtain⟨F1,F2,e0,hl,hx,hr⟩:=hr
      exact⟨[],[],rfl,hl,Rep.toPlain hN hx fun c hc=>hG c (by rw[e0];exact List.mem_append_left _ hc),ih _ _ (fun c hc=>hG c (by rw[e0];exact List.mem_append_right _ hc)) hr⟩
    exact key _ _ G (fun c hc=>hF c (by rw[h6];exact List.mem_cons_of_mem _ hc)) h7
  ·obtain⟨_,h⟩:=h
   split at h
   ·exact h
   ·obtain⟨hne,b,off,cap,arr,e,fr,g1,g2,g3,g4,g5,g6⟩:=h
    exact⟨hne,b,off,cap,arr,e,fr,g1,g2,g3,hN b g4,g5,g6.mono fun y ds G hG hr=>Rep.mono (fun c hc=>⟨hN c hc,rfl⟩) hr fun c hc=>absurd (hG c hc) (by simp)⟩
 | .clo _ _ _,_,_,_,F,h,hF=>by
  simp only[Rep]at h ⊢
  obtain⟨_,vs,h1,h2⟩:=h
  exact⟨trivial,vs,h1,Rep.mono (fun c hc=>⟨hN c hc,rfl⟩) h2 fun c hc=>absurd hc (by simp)⟩
theorem RepL.toPlain {w:World}{N N2:Nat→Prop}(hN:∀b,N b→N2 b){t:Ty}{f:Fl}:∀{xs:List t.den}{ds:List Value}{G:List Nat},(∀c∈G,N2 c)→RepL (Rep w N t f) t.cells xs ds G→RepL (Rep w N2 t .i) t.cells xs ds []
 | [],_,_,_,_=>rfl
 | _::_,_,_,hG,⟨F1,F2,e0,hl,hx,hr⟩ =>
  ⟨[],[],rfl,hl,hx.toPlain hN fun c hc=>hG c (by rw[e0];exact List.mem_append_left _ hc),RepL.toPlain hN (fun c hc=>hG c (by rw[e0];exact List.mem_append_right _ hc)) hr⟩
theorem Rep.weaken {w:World}{N:Nat→Prop}:∀{t:Ty}{f g:Fl}{x:t.den}{cs:List Value}{F:List Nat},Rep w N t f x cs F→F.Nodup→f.le g=true →
  ∃F',F'.Sublist F∧∀N2:Nat→Prop,(∀b,N b→N2 b)→(∀b∈F,b ∉ F'→N2 b)→Rep w N2 t g x cs F'
 | .int _,_,_,_,_,_,h,_,_=>⟨[],List.nil_sublist _,fun _ _ _=>⟨h.1,rfl⟩⟩
 | .bool,_,_,_,_,_,h,_,_=>⟨[],List.nil_sublist _,fun _ _ _=>⟨h.1,rfl⟩⟩
 | .str,_,_,_,_,_,h,_,_=>⟨[],List.nil_sublist _,fun _ _ _=>⟨h.1,rfl⟩⟩
 | .unit,_,_,_,_,_,h,_,_=>⟨[],List.nil_sublist _,fun _ _ _=>⟨h.1,rfl⟩⟩
 | .any _,_,_,_,_,_,h,_,_=>⟨[],List.nil_sublist _,fun _ _ _=>⟨h.1,rfl⟩⟩
 | .tup _,_,_,_,_,_,h,_,_=>h.elim
 | .clo _ _ _,_,_,_,_,_,h,_,_=>⟨[],List.nil_sublist _,fun N2 h1 h2=>by
   have:=Rep.toPlain (t := .clo _ _ _) h1 h (by simp only[Rep]at h;simp[h.1])
   simpa only [Rep] using this⟩
 | .ns t,f,.i,x,cs,F,h,_,_=>⟨[],List.nil_sublist _,fun N2 h1 h2=>Rep.toPlain h1 h fun b hb=>h2 b hb (by simp)⟩
 | .ns t,f,.o g,x,cs,F,h,hnd,hle=>by
  cases f with
  | i=>simp[Fl.le]at hle
  | p _ _=>simp[Fl.le]at hle
  | o f =>
   simp only[Fl.le]at hle
   simp only[Rep]at h
   split at h
   ·exact⟨[],List.nil_sublist _,fun _ _ _=>by simp only[Rep];exact⟨h.1,trivial⟩⟩
   ·obtain⟨hne,b,cap,arr,e,G,h1,h2,h3,h4,h5,h6,h7⟩:=h
    subst h6
    rw[List.nodup_cons]at hnd
    have key:∀(xs:List t.den) (ds:List Value) (G:List Nat),G.Nodup→RepL (Rep w N t f) t.cells xs ds G →
      ∃G',G'.Sublist G∧∀N2:Nat→Prop,(∀b,N b→N2 b)→(∀b∈G,b ∉ G'→N2 b)→RepL (Rep w N2 t g) t.cells xs ds G':=by
     intro xs
     induction xs with
     | nil=>intro ds G _ _;exact⟨[],List.nil_sublist _,fun _ _ _=>rfl⟩
     | cons y ys ih =>
      intro ds G hG hr
      obtain⟨F1,F2,e0,hl,hx,hr⟩:=hr
      subst e0
      rw[List.nodup_append]at hG
      obtain⟨n1,n2,n12⟩:=hG
      obtain⟨F1',s1,k1⟩:=Rep.weaken hx n1 hle
      obtain⟨F2',s2,k2⟩:=ih _ _ n2 hr
      refine⟨F1'++F2',s1.append s2,fun N2 a1 a2=>⟨F1',F2',rfl,hl,k1 N2 a1 fun b hb hb'=>a2 b (by simp[hb]) ?_,k2 N2 a1 fun b hb hb'=>a2 b (by simp[hb]) ?_⟩⟩
      ·simp only[List.mem_append,not_or];exact⟨hb',fun h=>n12 b hb b (s2.subset h) rfl⟩
      ·simp only[List.mem_append,not_or];exact⟨fun h=>n12 b (s1.subset h) b hb rfl,hb'⟩
    obtain⟨G',s,k⟩:=key _ _ G hnd.2 h7
    refine⟨b::G',s.cons_cons b,fun N2 a1 a2 => ?_⟩
    simp only[Rep]
    refine⟨hne,b,cap,arr,e,G',h1,h2,h3,h4,h5,rfl,k N2 a1 fun c hc hc'=>a2 c (by simp[hc]) ?_⟩
    simp only[List.mem_cons,not_or]
    exact⟨fun h=>hnd.1 (h▸hc),hc'⟩
 | .ns _,.i,.p _ _,_,_,_,_,_,hle=>by simp[Fl.le]at hle
 | .ns _,.o _,.p _ _,_,_,_,_,_,hle=>by simp[Fl.le]at hle
 | .ns t,.p _ _,.p _ _,x,cs,F,h,_,_=>⟨[],List.nil_sublist _,fun N2 h1 h2=>by
   have:=Rep.toPlain h1 h fun b hb=>h2 b hb (by simp)
   simpa only [Rep] using this⟩
 | .opt t,f,.i,x,cs,F,h,_,_=>⟨[],List.nil_sublist _,fun N2 h1 h2=>Rep.toPlain h1 h fun b hb=>h2 b hb (by simp)⟩
 | .map _ _,f,.i,x,cs,F,h,_,_=>⟨[],List.nil_sublist _,fun N2 h1 h2=>Rep.toPlain h1 h fun b hb=>h2 b hb (by simp)⟩
 | .map _ _,f,.o g,x,cs,F,h,_,hle=>by
  cases f with
  | i=>simp[Fl.le]at hle
  | p _ _=>simp[Fl.le]at hle
  | o f=>exact⟨F,List.Sublist.refl _,fun N2 _ _=>by simpa only [Rep] using h⟩
 | .opt t,f,.o g,x,cs,F,h,hnd,hle=>by
  cases f with
  | i=>simp[Fl.le]at hle
  | p _ _=>simp[Fl.le]at hle
  | o f =>
   simp only[Fl.le]at hle
   simp only[Rep]at h
   split at h
   ·exact⟨[],List.nil_sublist _,fun _ _ _=>by simp only[Rep];exact⟨h.1,trivial⟩⟩
   ·obtain⟨b,arr,e,G,h1,h2,h3,h4⟩:=h
    subst h3
    rw[List.nodup_cons]at hnd
    obtain⟨G',s,k⟩:=Rep.weaken h4 hnd.2 hle
    refine⟨b::G',s.cons_cons b,fun N2 a1 a2 => ?_⟩
    simp only[Rep]
    refine⟨b,arr,e,G',h1,h2,rfl,k N2 a1 fun c hc hc'=>a2 c (by simp[hc]) ?_⟩
    simp only[List.mem_cons,not_or]
    exact⟨fun h=>hnd.1 (h▸hc),hc'⟩
 | .sl t,f,.i,x,cs,F,h,_,_=>⟨[],List.nil_sublist _,fun N2 h1 h2=>Rep.toPlain h1 h fun b hb=>h2 b hb (by simp)⟩
 | .ptr t,f,.i,x,cs,F,h,_,_=>⟨[],List.nil_sublist _,fun N2 h1 h2=>Rep.toPlain h1 h fun b hb=>h2 b hb (by simp)⟩
 | .pair _ _,f,.i,x,cs,F,h,_,_=>⟨[],List.nil_sublist _,fun N2 h1 h2=>Rep.toPlain h1 h fun b hb=>h2 b hb (by simp)⟩
 | .sl t,f,.o g,x,cs,F,h,hnd,hle=>by
  cases f with
  | i=>simp[Fl.le]at hle
  | p _ _=>simp[Fl.le]at hle
  | o f =>
   simp only[Fl.le]at hle
   simp only[Rep]at h
   rcases h with⟨h1,h2,h3⟩|⟨b,cap,arr,e,G,h1,h2,h3,h4,h5,h6,h7⟩
   ·exact⟨[],List.nil_sublist _,fun _ _ _=>by simp only[Rep];exact .inl ⟨h1,h2,trivial⟩⟩
   ·subst h6
    rw[List.nodup_cons]at hnd
    have key:∀(xs:List t.den) (ds:List Value) (G:List Nat),G.Nodup→RepL (Rep w N t f) t.cells xs ds G →
      ∃G',G'.Sublist G∧∀N2:Nat→Prop,(∀b,N b→N2 b)→(∀b∈G,b ∉ G'→N2 b)→RepL (Rep w N2 t g) t.cells xs ds G':=by
     intro xs
     induction xs with
     | nil=>intro ds G _ _;exact⟨[],List.nil_sublist _,fun _ _ _=>rfl⟩
     | cons y ys ih =>
      intro ds G hG hr
      obtain⟨F1,F2,e0,hl,hx,hr⟩:=hr
      subst e0
      rw[List.nodup_append]at hG
      obtain⟨n1,n2,n12⟩:=hG
      obtain⟨F1',s1,k1⟩:=Rep.weaken hx n1 hle
      obtain⟨F2',s2,k2⟩:=ih _ _ n2 hr
      refine⟨F1'++F2',s1.append s2,fun N2 a1 a2=>⟨F1',F2',rfl,hl,k1 N2 a1 fun b hb hb'=>a2 b (by simp[hb]) ?_,k2 N2 a1 fun b hb hb'=>a2 b (by simp[hb]) ?_⟩⟩
      ·simp only[List.mem_append,not_or];exact⟨hb',fun h=>n12 b hb b (s2.subset h) rfl⟩
      ·simp only[List.mem_append,not_or];exact⟨fun h=>n12 b (s1.subset h) b hb rfl,hb'⟩
    obtain⟨G',s,k⟩:=key _ _ G hnd.2 h7
    refine⟨b::G',s.cons_cons b,fun N2 a1 a2 => ?_⟩
    simp only[Rep]
    refine .inr ⟨b,cap,arr,e,G',h1,h2,h3,h4,h5,rfl,k N2 a1 fun c hc hc'=>a2 c (by simp[hc]) ?_⟩
    simp only[List.mem_cons,not_or]
    exact⟨fun h=>hnd.1 (h▸hc),hc'⟩
 | .ptr t,f,.o g,x,cs,F,h,hnd,hle=>by
  cases f with
  | i=>simp[Fl.le]at hle
  | p _ _=>simp[Fl.le]at hle
  | o f =>
   simp only[Fl.le]at hle
   simp only[Rep]at h
   obtain⟨b,arr,e,G,h1,h2,h3,h4⟩:=h
   subst h3
   rw[List.nodup_cons]at hnd
   obtain⟨G',s,k⟩:=Rep.weaken h4 hnd.2 hle
   refine⟨b::G',s.cons_cons b,fun N2 a1 a2 => ?_⟩
   simp only[Rep]
   refine⟨b,arr,e,G',h1,h2,rfl,k N2 a1 fun c hc hc'=>a2 c (by simp[hc]) ?_⟩
   simp only[List.mem_cons,not_or]
   exact⟨fun h=>hnd.1 (h▸hc),hc'⟩
 | .pair a b,f,.p g1 g2,x,cs,F,h,hnd,hle=>by
  cases f with
  | i=>simp[Fl.le]at hle
  | o _=>simp[Fl.le]at hle
  | p f1 f2 =>
   simp only[Fl.le,Bool.and_eq_true]at hle
   simp only[Rep,Fl.l,Fl.r]at h
   obtain⟨F1,F2,h0,hl,h1,h2⟩:=h
   subst h0
   rw[List.nodup_append]at hnd
   obtain⟨n1,n2,n12⟩:=hnd
   obtain⟨F1',s1,k1⟩:=Rep.weaken h1 n1 hle.1
   obtain⟨F2',s2,k2⟩:=Rep.weaken h2 n2 hle.2
   refine⟨F1'++F2',s1.append s2,fun N2 a1 a2 => ?_⟩
   simp only[Rep,Fl.l,Fl.r]
   refine⟨F1',F2',rfl,hl,k1 N2 a1 fun b hb hb'=>a2 b (by simp[hb]) ?_,k2 N2 a1 fun b hb hb'=>a2 b (by simp[hb]) ?_⟩
   ·simp only[List.mem_append,not_or];exact⟨hb',fun h=>n12 b hb b (s2.subset h) rfl⟩
   ·simp only[List.mem_append,not_or];exact⟨fun h=>n12 b (s1.subset h) b hb rfl,hb'⟩
 | .sl _,.i,.p _ _,_,_,_,_,_,hle=>by simp[Fl.le]at hle
 | .sl _,.o _,.p _ _,_,_,_,_,_,hle=>by simp[Fl.le]at hle
 | .sl t,.p _ _,.p _ _,x,cs,F,h,_,_=>⟨[],List.nil_sublist _,fun N2 h1 h2=>by
   have:=Rep.toPlain h1 h fun b hb=>h2 b hb (by simp)
   simpa only [Rep] using this⟩
 | .ptr _,.i,.p _ _,_,_,_,_,_,hle=>by simp[Fl.le]at hle
 | .opt _,.i,.p _ _,_,_,_,_,_,hle=>by simp[Fl.le]at hle
 | .opt _,.o _,.p _ _,_,_,_,_,_,hle=>by simp[Fl.le]at hle
 | .opt t,.p _ _,.p _ _,x,cs,F,h,_,_=>⟨[],List.nil_sublist _,fun N2 h1 h2=>by
   have:=Rep.toPlain h1 h fun b hb=>h2 b hb (by simp)
   simpa only [Rep] using this⟩
 | .map _ _,.i,.p _ _,_,_,_,_,_,hle=>by simp[Fl.le]at hle
 | .map _ _,.o _,.p _ _,_,_,_,_,_,hle=>by simp[Fl.le]at hle
 | .map _ _,.p _ _,.p _ _,x,cs,F,h,_,_=>⟨[],List.nil_sublist _,fun N2 h1 h2=>by
   have:=Rep.toPlain h1 h fun b hb=>h2 b hb (by simp)
   simpa only [Rep] using this⟩
 | .ptr _,.o _,.p _ _,_,_,_,_,_,hle=>by simp[Fl.le]at hle
 | .ptr t,.p _ _,.p _ _,x,cs,F,h,_,_=>⟨[],List.nil_sublist _,fun N2 h1 h2=>by
   have:=Rep.toPlain h1 h fun b hb=>h2 b hb (by simp)
   simpa only [Rep] using this⟩
 | .pair _ _,.i,.o _,_,_,_,_,_,hle=>by simp[Fl.le]at hle
 | .pair _ _,.p _ _,.o _,_,_,_,_,_,hle=>by simp[Fl.le]at hle
 | .pair _ _,.o _,.o _,x,cs,F,h,_,_=>⟨[],List.nil_sublist _,fun N2 h1 h2=>by
   have:=Rep.toPlain h1 h fun b hb=>h2 b hb (by simp)
   simpa only [Rep,Fl.l,Fl.r] using this⟩
theorem jao {ρ:Type}{w:World}{N:Nat→Prop}:∀{s:Ty}{f:Fl}{x:s.den}{cs:List Value}{F:List Nat}{t:Ty}{g:Fl}{k:t.den→Option ρ}{r:ρ},
  coerceTy s f x t g k=some r→Rep w N s f x cs F→F.Nodup→∃y F',k y=some r∧F'.Sublist F∧∀N2:Nat→Prop,(∀b,N b→N2 b)→(∀b∈F,b ∉ F'→N2 b)→Rep w N2 t g y cs F':=by
 intro s f x cs F t g k r h hr hnd
 have base:∀{s t:Ty} {f g:Fl} {x:s.den} {k:t.den→Option ρ} {cs:List Value} {F:List Nat},(if h:s=t then if f.le g then k (cast (congrArg Ty.den h) x) else none else none)=some r→Rep w N s f x cs F→F.Nodup →
   ∃y F',k y=some r∧F'.Sublist F∧∀N2:Nat→Prop,(∀b,N b→N2 b)→(∀b∈F,b ∉ F'→N2 b)→Rep w N2 t g y cs F':=by
  intro s t f g x k cs F h hr hnd
  split at h
  ·rename_i e
   subst e
   split at h
   ·rename_i hle
    obtain⟨F',s,k'⟩:=hr.weaken hnd hle
    exact⟨x,F',by simpa using h,s,k'⟩
   ·cases h
  ·cases h
 induction s generalizing f t g cs F with
 | ptr s _ =>
  cases t with
  | opt t =>
   simp only[coerceTy]at h
   split at h
   case isFalse=>cases h
   rename_i e
   subst e
   split at h
   case isFalse=>cases h
   rename_i hle
   obtain⟨F',s,k'⟩:=hr.weaken hnd hle
   refine⟨some x,F',by simpa using h,s,fun N2 h1 h2 => ?_⟩
   have:=k' N2 h1 h2
   cases g<;>simpa only [Rep] using this
  | _=>simp only[coerceTy]at h;exact base h hr hnd
 | pair a b iha ihb =>
  cases t with
  | pair c d =>
   simp only[coerceTy]at h
   simp only[Rep]at hr
   obtain⟨F1,F2,h0,hl,r1,r2⟩:=hr
   subst h0
   rw[List.nodup_append]at hnd
   obtain⟨n1,n2,n12⟩:=hnd
   obtain⟨y,F1',h,s1,k1⟩:=iha h r1 n1
   obtain⟨z,F2',h,s2,k2⟩:=ihb h r2 n2
   refine⟨(y,z),F1'++F2',h,s1.append s2,fun N2 a1 a2 => ?_⟩
   have e1:=k1 N2 a1 fun b hb hb'=>a2 b (by simp[hb]) (by simp only[List.mem_append,not_or];exact⟨hb',fun h=>n12 b hb b (s2.subset h) rfl⟩)
   have e2:=k2 N2 a1 fun b hb hb'=>a2 b (by simp[hb]) (by simp only[List.mem_append,not_or];exact⟨fun h=>n12 b (s1.subset h) b hb rfl,hb'⟩)
   have l1:=r1.len
   have l2:=e1.len
   have l3:=e2.len
   simp only[List.length_take]at l1 l2
   have hc:a.cells=c.cells:=by omega
   simp only[Rep]
   exact⟨F1',F2',rfl,by omega,by rw[←hc];exact e1,by rw[←hc];exact e2⟩
  | _=>simp only[coerceTy]at h;exact base h hr hnd
 | sl s _ =>
  cases t with
  | ns t =>
   simp only[coerceTy]at h
   split at h
   case isFalse=>cases h
   rename_i e
   subst e
   split at h
   case isFalse=>cases h
   rename_i hle
   cases x with
   | nil=>simp[neL]at h
   | cons a l =>
    simp only[neL,Option.bind_some]at h
    obtain⟨F',s,k'⟩:=hr.weaken hnd hle
    refine⟨some (a::l),F',by simpa using h,s,fun N2 h1 h2 => ?_⟩
    have:=k' N2 h1 h2
    cases g with
    | o g =>
     simp only[Rep]at this ⊢
     rcases this with⟨e,_⟩|⟨b,cap,arr,e,G,g1,g2,g3,g4,g5,g6,g7⟩
     ·cases e
     ·exact⟨by simp,b,cap,arr,e,G,g1,g2,g3,g4,g5,g6,g7⟩
    | i =>
     simp only[Rep]at this ⊢
     obtain⟨e0,p,cap,q1,q2,q3,q4⟩:=this
     obtain⟨b,off,arr,e,fr,g1,g2,g3,g4⟩:=q4 (by simp)
     subst g1
     exact⟨e0,by simp,b,off,cap,arr,e,fr,q1,q2,q3,g2,g3,g4⟩
    | p _ _ =>
     simp only[Rep]at this ⊢
     obtain⟨e0,p,cap,q1,q2,q3,q4⟩:=this
     obtain⟨b,off,arr,e,fr,g1,g2,g3,g4⟩:=q4 (by simp)
     subst g1
     exact⟨e0,by simp,b,off,cap,arr,e,fr,q1,q2,q3,g2,g3,g4⟩
  | _=>simp only[coerceTy]at h;exact base h hr hnd
 | ns s _ =>
  cases t with
  | sl t =>
   cases g with
   | i =>
    simp only[coerceTy]at h
    split at h
    ·rename_i e
     subst e
     refine⟨Option.getD x [],[],by simpa using h,List.nil_sublist _,fun N2 h1 h2 => ?_⟩
     have:=Rep.toPlain h1 hr fun b hb=>h2 b hb (by simp)
     simp only[Rep]at this ⊢
     obtain⟨_,this⟩:=this
     cases x with
     | none=>simp only at this;exact⟨trivial,none,0,this,by simp,by simp[maxLen],by simp⟩
     | some xs =>
      simp only at this
      obtain⟨hne,b,off,cap,arr,e,fr,g1,g2,g3,g4,g5,g6⟩:=this
      exact⟨trivial,_,cap,g1,g2,g3,fun _=>⟨b,off,arr,e,fr,rfl,g4,g5,g6⟩⟩
    ·cases h
   | o g =>
    simp only[coerceTy]at h
    split at h
    ·rename_i e
     subst e
     split at h
     ·rename_i hle
      obtain⟨F',hs,k'⟩:=hr.weaken hnd hle
      refine⟨Option.getD x [],F',by simpa using h,hs,fun N2 h1 h2 => ?_⟩
      have:=k' N2 h1 h2
      simp only[Rep]at this ⊢
      cases x with
      | none=>exact .inl ⟨rfl,this.1,this.2⟩
      | some xs =>
       obtain⟨_,b,cap,arr,e,G,g1,g2,g3,g4,g5,g6,g7⟩:=this
       exact .inr ⟨b,cap,arr,e,G,g1,g2,g3,g4,g5,g6,g7⟩
     ·cases h
    ·cases h
   | p _ _=>simp only[coerceTy]at h;exact base h hr hnd
  | _=>simp only[coerceTy]at h;exact base h hr hnd
 | tup _ _=>exact hr.elim
 | _=>simp only[coerceTy]at h;exact base h hr hnd
end Go.Gx
