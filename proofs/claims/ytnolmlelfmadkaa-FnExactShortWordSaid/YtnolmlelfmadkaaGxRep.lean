import Derived.Test.YtnolmlelfmadkaaGxRun
namespace Go.Gx
open Go
def RepL {α:Type}(f:α→List Value→List Nat→Prop) (sz:Nat):List α→List Value→List Nat→Prop
 | [],_,F=>F=[]
 | x::xs,cs,F=>∃F1 F2,F=F1++F2∧sz≤cs.length∧f x (cs.take sz) F1∧RepL f sz xs (cs.drop sz) F2
def flatV:(t:Ty)→t.den→List Value
 | .int k,x=>[.int k x]
 | .bool,x=>[.bool x]
 | .str,x=>[.string ⟨List.toArray x⟩]
 | .pair a b,x=>flatV a x.1++flatV b x.2
 | _,_=>[]
def one:(t:Ty)→t.den→Value
 | .int k,x => .int k x
 | .bool,x => .bool x
 | .str,x => .string ⟨List.toArray x⟩
 | .pair a b,x => .agg (flatV (.pair a b) x).toArray
 | t,x => .agg (flatV t x).toArray
def MapR (k v:Ty) (es:Array MapEntry) (m:List (k.den×v.den)):Prop:=es.toList.map (fun e=>(e.key,e.val))=m.map fun p=>(one k p.1,one v p.2)
def Rep (w:World) (N:Nat→Prop):(t:Ty)→Fl→t.den→List Value→List Nat→Prop
 | .int k,_,x,cs,F=>cs=[.int k x]∧F=[]
 | .bool,_,x,cs,F=>cs=[.bool x]∧F=[]
 | .str,_,x,cs,F=>cs=[.string ⟨x.toArray⟩]∧F=[]
 | .unit,_,_,cs,F=>cs=[]∧F=[]
 | .any n,_,_,cs,F=>(cs.length=n∧∀v∈cs,v.oneCell'=true)∧F=[]
 | .sl t,f,xs,cs,F=>match f with
  | .o g=>(xs=[]∧cs=[.slice none 0 0]∧F=[])∨(∃b cap arr e G,cs=[.slice (some ⟨b,0,none⟩) xs.length cap]∧w.heap[b]? = some (.cells arr e (0,0))∧cap*t.cells≤arr.size∧xs.length≤cap∧cap≤maxLen∧F=b::G∧RepL (Rep w N t g) t.cells xs arr.toList G)
  | _=>F=[]∧∃a cap,cs=[.slice a xs.length cap]∧xs.length≤cap∧cap≤maxLen∧(xs≠[]→∃b off arr e fr,a=some ⟨b,off,none⟩∧N b∧w.heap[b]? = some (.cells arr e fr)∧RepL (Rep w N t .i) t.cells xs (arr.toList.drop off) [])
 | .ptr t,f,x,cs,F=>match f with
  | .o g=>∃b arr e G,cs=[.pointer (some ⟨b,0,none⟩)]∧w.heap[b]? = some (.cells arr e (0,0))∧F=b::G∧Rep w N t g x arr.toList G
  | _=>F=[]∧∃b off arr e fr,cs=[.pointer (some ⟨b,off,none⟩)]∧N b∧w.heap[b]? = some (.cells arr e fr)∧off+t.cells≤arr.size∧Rep w N t .i x ((arr.toList.drop off).take t.cells) []
 | .map k v,f,m,cs,F=>match f with
  | .o _=>∃b es ck,cs=[.map (some b)]∧w.heap[b]? = some (.map es ck)∧F=[b]∧MapR k v es m
  | _=>F=[]∧∃b es ck,cs=[.map (some b)]∧N b∧w.heap[b]? = some (.map es ck)∧MapR k v es m
 | .opt t,f,o,cs,F=>match f with
  | .o g=>match o with
   | none=>cs=[.pointer none]∧F=[]
   | some x=>∃b arr e G,cs=[.pointer (some ⟨b,0,none⟩)]∧w.heap[b]? = some (.cells arr e (0,0))∧F=b::G∧Rep w N t g x arr.toList G
  | _=>F=[]∧match o with
  | none=>cs=[.pointer none]
  | some x=>∃b off arr e fr,cs=[.pointer (some ⟨b,off,none⟩)]∧N b∧w.heap[b]? = some (.cells arr e fr)∧off+t.cells≤arr.size∧Rep w N t .i x ((arr.toList.drop off).take t.cells) []
 | .pair a b,f,x,cs,F=>∃F1 F2,F=F1++F2∧a.cells≤cs.length∧Rep w N a f.l x.1 (cs.take a.cells) F1∧Rep w N b f.r x.2 (cs.drop a.cells) F2
 | .tup _,_,_,_,_=>False
 | .ns t,f,o,cs,F=>match f with
  | .o g=>match o with
   | none=>cs=[.slice none 0 0]∧F=[]
   | some xs=>xs≠[]∧∃b cap arr e G,cs=[.slice (some ⟨b,0,none⟩) xs.length cap]∧w.heap[b]? = some (.cells arr e (0,0))∧cap*t.cells≤arr.size∧xs.length≤cap∧cap≤maxLen∧F=b::G∧RepL (Rep w N t g) t.cells xs arr.toList G
  | _=>F=[]∧match o with
  | none=>cs=[.slice none 0 0]
  | some xs=>xs≠[]∧∃b off cap arr e fr,cs=[.slice (some ⟨b,off,none⟩) xs.length cap]∧xs.length≤cap∧cap≤maxLen∧N b∧w.heap[b]? = some (.cells arr e fr)∧RepL (Rep w N t .i) t.cells xs (arr.toList.drop off) []
 | .clo f nf u,_,x,cs,F=>F=[]∧∃vs,cs=[.func (.func f) (vs.take nf).toArray (vs.drop nf).toArray]∧Rep w N u .i x vs []
theorem RepL.mono {α:Type}{f g:α→List Value→List Nat→Prop}{sz:Nat}:∀{xs:List α}{cs:List Value}{F:List Nat},RepL f sz xs cs F →
  (∀x ds G,(∀b∈G,b∈F)→f x ds G→g x ds G)→RepL g sz xs cs F
 | [],_,_,h,_=>h
 | _::_,_,_,⟨F1,F2,hF,hl,hx,hr⟩,k=>by
  subst hF
  exact⟨F1,F2,rfl,hl,k _ _ _ (fun b hb=>List.mem_append_left _ hb) hx,hr.mono fun x ds G hG hf=>k x ds G (fun b hb=>List.mem_append_right _ (hG b hb)) hf⟩
theorem RepL.len {α:Type}{f:α→List Value→List Nat→Prop}{sz:Nat}:∀{xs:List α}{cs:List Value}{F:List Nat},RepL f sz xs cs F→xs.length*sz≤cs.length
 | [],_,_,_=>by simp
 | _::xs,cs,_,⟨_,_,_,hl,_,hr⟩=>by
  have:=hr.len
  simp only[List.length_drop,List.length_cons,Nat.succ_mul]at *
  omega
theorem Rep.len {w:World}{N:Nat→Prop}:∀{t:Ty}{f:Fl}{x:t.den}{cs:List Value}{F:List Nat},Rep w N t f x cs F→cs.length=t.cells
 | .int _,_,_,_,_,h=>by simp[Rep]at h;simp[h,Ty.cells]
 | .bool,_,_,_,_,h=>by simp[Rep]at h;simp[h,Ty.cells]
 | .str,_,_,_,_,h=>by simp[Rep]at h;simp[h,Ty.cells]
 | .unit,_,_,_,_,h=>by simp[Rep]at h;simp[h,Ty.cells]
 | .any _,_,_,_,_,h=>by simp only[Rep]at h;simp[h.1.1,Ty.cells]
 | .sl _,f,_,_,_,h=>by
  simp only[Rep]at h
  split at h
  ·rcases h with⟨_,h,_⟩|⟨_,_,_,_,_,h,_⟩<;>simp[h,Ty.cells]
  ·obtain⟨_,_,_,h,_⟩:=h;simp[h,Ty.cells]
 | .ptr _,f,_,_,_,h=>by
  simp only[Rep]at h
  split at h
  ·obtain⟨_,_,_,_,h,_⟩:=h;simp[h,Ty.cells]
  ·obtain⟨_,_,_,_,_,_,h,_⟩:=h;simp[h,Ty.cells]
 | .map _ _,f,_,_,_,h=>by
  simp only[Rep]at h
  split at h
  ·obtain⟨_,_,_,h,_⟩:=h;simp[h,Ty.cells]
  ·obtain⟨_,_,_,_,h,_⟩:=h;simp[h,Ty.cells]
 | .opt _,f,x,_,_,h=>by
  simp only[Rep]at h
  split at h
  ·split at h
   ·simp[h.1,Ty.cells]
   ·obtain⟨_,_,_,_,h,_⟩:=h;simp[h,Ty.cells]
  ·obtain⟨_,h⟩:=h
   split at h
   ·simp[h,Ty.cells]
   ·obtain⟨_,_,_,_,_,h,_⟩:=h;simp[h,Ty.cells]
 | .pair a b,_,_,cs,_,h=>by
  simp only[Rep]at h
  obtain⟨_,_,_,hl,_,hr⟩:=h
  have:=hr.len
  simp only[List.length_drop,Ty.cells]at *
  omega
 | .tup _,_,_,_,_,h=>h.elim
 | .ns _,f,x,_,_,h=>by
  simp only[Rep]at h
  split at h
  ·split at h
   ·simp[h.1,Ty.cells]
   ·obtain⟨_,_,_,_,_,_,h,_⟩:=h;simp[h,Ty.cells]
  ·obtain⟨_,h⟩:=h
   split at h
   ·simp[h,Ty.cells]
   ·obtain⟨_,_,_,_,_,_,_,h,_⟩:=h;simp[h,Ty.cells]
 | .clo _ _ _,_,_,_,_,h=>by
  simp only[Rep]at h
  obtain⟨_,_,h,_⟩:=h;simp[h,Ty.cells]
theorem Rep.mono {w w':World}{N N':Nat→Prop}(hN:∀b,N b→N' b∧w'.heap[b]? = w.heap[b]?):∀{t:Ty}{f:Fl}{x:t.den}{cs:List Value}{F:List Nat},
  Rep w N t f x cs F→(∀b∈F,w'.heap[b]? = w.heap[b]?)→Rep w' N' t f x cs F
 | .int _,_,_,_,_,h,_=>h
 | .bool,_,_,_,_,h,_=>h
 | .str,_,_,_,_,h,_=>h
 | .unit,_,_,_,_,h,_=>h
 | .any _,_,_,_,_,h,_=>h
 | .sl t,f,_,_,F,h,hF=>by
  simp only[Rep]at h ⊢
  split at h
  ·rcases h with h|⟨b,cap,arr,e,G,h1,h2,h3,h4,h5,h6,h7⟩
   ·exact .inl h
   ·refine .inr ⟨b,cap,arr,e,G,h1, ?_,h3,h4,h5,h6, ?_⟩
    ·rw[hF b (by simp[h6])];exact h2
    ·exact h7.mono fun x ds G' hG hr=>Rep.mono hN hr fun c hc=>hF c (by rw[h6];exact List.mem_cons_of_mem _ (hG c hc))
  ·obtain⟨h0,a,cap,h1,h2,h3,h4⟩:=h
   refine⟨h0,a,cap,h1,h2,h3,fun hx => ?_⟩
   obtain⟨b,off,arr,e,fr,g1,g2,g3,g4⟩:=h4 hx
   refine⟨b,off,arr,e,fr,g1,(hN b g2).1, ?_, ?_⟩
   ·rw[(hN b g2).2];exact g3
   ·exact g4.mono fun x ds G' hG hr=>Rep.mono hN hr fun c hc=>absurd (hG c hc) (by simp)
 | .ptr t,f,_,_,F,h,hF=>by
  simp only[Rep]at h ⊢
  split at h
  ·obtain⟨b,arr,e,G,h1,h2,h3,h4⟩:=h
   refine⟨b,arr,e,G,h1, ?_,h3,Rep.mono hN h4 fun c hc=>hF c (by rw[h3];exact List.mem_cons_of_mem _ hc)⟩
   rw[hF b (by simp[h3])];exact h2
  ·obtain⟨h0,b,off,arr,e,fr,g1,g2,g3,g5,g4⟩:=h
   refine⟨h0,b,off,arr,e,fr,g1,(hN b g2).1, ?_,g5,Rep.mono hN g4 fun c hc=>absurd hc (by simp)⟩
   rw[(hN b g2).2];exact g3
 | .map _ _,f,_,_,F,h,hF=>by
  simp only[Rep]at h ⊢
  split at h
  ·obtain⟨b,es,ck,h1,h2,h3,h4⟩:=h
   exact⟨b,es,ck,h1,by rw[hF b (by simp[h3])];exact h2,h3,h4⟩
  ·obtain⟨h0,b,es,ck,h1,h2,h3,h4⟩:=h
   exact⟨h0,b,es,ck,h1,(hN b h2).1,by rw[(hN b h2).2];exact h3,h4⟩
 | .opt t,f,x,_,F,h,hF=>by
  simp only[Rep]at h ⊢
  split at h
  ·split at h
   ·exact h
   ·obtain⟨b,arr,e,G,h1,h2,h3,h4⟩:=h
    refine⟨b,arr,e,G,h1, ?_,h3,Rep.mono hN h4 fun c hc=>hF c (by rw[h3];exact List.mem_cons_of_mem _ hc)⟩
    rw[hF b (by simp[h3])];exact h2
  ·obtain⟨h0,h⟩:=h
   refine⟨h0, ?_⟩
   split at h
   ·exact h
   ·obtain⟨b,off,arr,e,fr,g1,g2,g3,g5,g4⟩:=h
    refine⟨b,off,arr,e,fr,g1,(hN b g2).1, ?_,g5,Rep.mono hN g4 fun c hc=>absurd hc (by simp)⟩
    rw[(hN b g2).2];exact g3
 | .pair a b,_,_,_,F,h,hF=>by
  simp only[Rep]at h ⊢
  obtain⟨F1,F2,h0,hl,h1,h2⟩:=h
  subst h0
  exact⟨F1,F2,rfl,hl,Rep.mono hN h1 fun c hc=>hF c (List.mem_append_left _ hc),Rep.mono hN h2 fun c hc=>hF c (List.mem_append_right _ hc)⟩
 | .tup _,_,_,_,_,h,_=>h.elim
 | .ns t,f,x,_,F,h,hF=>by
  simp only[Rep]at h ⊢
  split at h
  ·split at h
   ·exact h
   ·obtain⟨hne,b,cap,arr,e,G,h1,h2,h3,h4,h5,h6,h7⟩:=h
    refine⟨hne,b,cap,arr,e,G,h1, ?_,h3,h4,h5,h6, ?_⟩
    ·rw[hF b (by simp[h6])];exact h2
    ·exact h7.mono fun x ds G' hG hr=>Rep.mono hN hr fun c hc=>hF c (by rw[h6];exact List.mem_cons_of_mem _ (hG c hc))
  ·obtain⟨h0,h⟩:=h
   refine⟨h0, ?_⟩
   split at h
   ·exact h
   ·obtain⟨hne,b,off,cap,arr,e,fr,g1,g2,g3,g4,g5,g6⟩:=h
    refine⟨hne,b,off,cap,arr,e,fr,g1,g2,g3,(hN b g4).1, ?_, ?_⟩
    ·rw[(hN b g4).2];exact g5
    ·exact g6.mono fun x ds G' hG hr=>Rep.mono hN hr fun c hc=>absurd (hG c hc) (by simp)
 | .clo _ _ u,_,_,_,_,h,_=>by
  simp only[Rep]at h ⊢
  obtain⟨h0,vs,h1,h2⟩:=h
  exact⟨h0,vs,h1,Rep.mono hN h2 fun c hc=>absurd hc (by simp)⟩
theorem RepL.mem {α:Type}{f:α→List Value→List Nat→Prop}{sz:Nat}{p:Nat→Prop}:∀{xs:List α}{cs:List Value}{F:List Nat},RepL f sz xs cs F →
  (∀x ds G,f x ds G→∀b∈G,p b)→∀b∈F,p b
 | [],_,_,h,_,b,hb=>by simp[RepL]at h;simp[h]at hb
 | _::_,_,_,⟨F1,F2,hF,_,hx,hr⟩,k,b,hb=>by
  subst hF
  rcases List.mem_append.1 hb with hb|hb
  ·exact k _ _ _ hx b hb
  ·exact hr.mem k b hb
theorem um {w:World}{b:Nat}{o:Obj}(h:w.heap[b]? = some o):b<w.heap.size:=by
 rcases Nat.lt_or_ge b w.heap.size with hlt|hge
 ·exact hlt
 ·rw[Array.getElem?_eq_none hge]at h;cases h
theorem Rep.lt {w:World}{N:Nat→Prop}:∀{t:Ty}{f:Fl}{x:t.den}{cs:List Value}{F:List Nat},Rep w N t f x cs F→∀b∈F,b<w.heap.size
 | .int _,_,_,_,_,h=>by simp[Rep]at h;simp[h]
 | .bool,_,_,_,_,h=>by simp[Rep]at h;simp[h]
 | .str,_,_,_,_,h=>by simp[Rep]at h;simp[h]
 | .unit,_,_,_,_,h=>by simp[Rep]at h;simp[h]
 | .any _,_,_,_,_,h=>by simp only[Rep]at h;simp[h.2]
 | .sl t,f,_,_,F,h=>by
  simp only[Rep]at h
  split at h
  ·rcases h with h|⟨b,cap,arr,e,G,h1,h2,h3,h4,h5,h6,h7⟩
   ·simp[h.2.2]
   ·intro c hc
    rw[h6]at hc
    rcases List.mem_cons.1 hc with rfl|hc
    ·exact um h2
    ·exact h7.mem (fun _ _ _ hr=>Rep.lt hr) c hc
  ·simp[h.1]
 | .ptr t,f,_,_,F,h=>by
  simp only[Rep]at h
  split at h
  ·obtain⟨b,arr,e,G,h1,h2,h3,h4⟩:=h
   intro c hc
   rw[h3]at hc
   rcases List.mem_cons.1 hc with rfl|hc
   ·exact um h2
   ·exact Rep.lt h4 c hc
  ·simp[h.1]
 | .map _ _,f,_,_,F,h=>by
  simp only[Rep]at h
  split at h
  ·obtain⟨b,es,ck,h1,h2,h3,h4⟩:=h
   intro c hc
   rw[h3,List.mem_singleton]at hc
   rw[hc];exact um h2
  ·simp[h.1]
 | .opt t,f,x,_,F,h=>by
  simp only[Rep]at h
  split at h
  ·split at h
   ·simp[h.2]
   ·obtain⟨b,arr,e,G,h1,h2,h3,h4⟩:=h
    intro c hc
    rw[h3]at hc
    rcases List.mem_cons.1 hc with rfl|hc
    ·exact um h2
    ·exact Rep.lt h4 c hc
  ·simp[h.1]
 | .ns t,f,x,_,F,h=>by
  simp only[Rep]at h
  split at h
  ·split at h
   ·simp[h.2]
   ·obtain⟨hne,b,cap,arr,e,G,h1,h2,h3,h4,h5,h6,h7⟩:=h
    intro c hc
    rw[h6]at hc
    rcases List.mem_cons.1 hc with rfl|hc
    ·exact um h2
    ·exact h7.mem (fun _ _ _ hr=>Rep.lt hr) c hc
  ·simp[h.1]
 | .pair a b,_,_,_,F,h=>by
  simp only[Rep]at h
  obtain⟨F1,F2,h0,hl,h1,h2⟩:=h
  subst h0
  intro c hc
  rcases List.mem_append.1 hc with hc|hc
  ·exact Rep.lt h1 c hc
  ·exact Rep.lt h2 c hc
 | .tup _,_,_,_,_,h=>h.elim
 | .clo _ _ _,_,_,_,_,h=>by
  simp only[Rep]at h
  simp[h.1]
theorem Rep.plain {w:World}{N:Nat→Prop}:∀{t:Ty}{x:t.den}{cs:List Value}{F:List Nat},Rep w N t .i x cs F→F=[]
 | .int _,_,_,_,h=>h.2
 | .bool,_,_,_,h=>h.2
 | .str,_,_,_,h=>h.2
 | .unit,_,_,_,h=>h.2
 | .any _,_,_,_,h=>h.2
 | .sl t,_,_,_,h=>by simp only[Rep]at h;exact h.1
 | .ptr t,_,_,_,h=>by simp only[Rep]at h;exact h.1
 | .opt t,_,_,_,h=>by simp only[Rep]at h;exact h.1
 | .map _ _,_,_,_,h=>by simp only[Rep]at h;exact h.1
 | .ns t,_,_,_,h=>by simp only[Rep]at h;exact h.1
 | .pair a b,_,_,_,h=>by
  simp only[Rep,Fl.l,Fl.r]at h
  obtain⟨F1,F2,h0,hl,h1,h2⟩:=h
  rw[h0,Rep.plain h1,Rep.plain h2];rfl
 | .tup _,_,_,_,h=>h.elim
 | .clo _ _ _,_,_,_,h=>by simp only[Rep]at h;exact h.1
theorem Rep.one {w:World}{N:Nat→Prop}:∀{t:Ty}{f:Fl}{x:t.den}{cs:List Value}{F:List Nat},Rep w N t f x cs F→∀v∈cs,v.oneCell'=true
 | .int _,_,_,_,_,h=>by simp only[Rep]at h;simp[h.1,Value.oneCell']
 | .bool,_,_,_,_,h=>by simp only[Rep]at h;simp[h.1,Value.oneCell']
 | .str,_,_,_,_,h=>by simp only[Rep]at h;simp[h.1,Value.oneCell']
 | .unit,_,_,_,_,h=>by simp only[Rep]at h;simp[h.1]
 | .any _,_,_,_,_,h=>by simp only[Rep]at h;exact h.1.2
 | .sl t,f,_,_,F,h=>by
  simp only[Rep]at h
  split at h
  ·rcases h with h|⟨b,cap,arr,e,G,h1,_⟩
   ·simp[h.2.1,Value.oneCell']
   ·simp[h1,Value.oneCell']
  ·obtain⟨_,_,_,h1,_⟩:=h
   simp[h1,Value.oneCell']
 | .ptr t,f,_,_,F,h=>by
  simp only[Rep]at h
  split at h
  ·obtain⟨_,_,_,_,h1,_⟩:=h
   simp[h1,Value.oneCell']
  ·obtain⟨_,_,_,_,_,_,h1,_⟩:=h
   simp[h1,Value.oneCell']
 | .map _ _,f,_,_,_,h=>by
  simp only[Rep]at h
  split at h
  ·obtain⟨_,_,_,h1,_⟩:=h;simp[h1,Value.oneCell']
  ·obtain⟨_,_,_,_,h1,_⟩:=h;simp[h1,Value.oneCell']
 | .opt _,f,x,_,_,h=>by
  simp only[Rep]at h
  split at h
  ·split at h
   ·simp[h.1,Value.oneCell']
   ·obtain⟨_,_,_,_,h1,_⟩:=h
    simp[h1,Value.oneCell']
  ·obtain⟨_,h⟩:=h
   split at h
   ·simp[h,Value.oneCell']
   ·obtain⟨_,_,_,_,_,h1,_⟩:=h
    simp[h1,Value.oneCell']
 | .pair a b,_,_,cs,F,h=>by
  simp only[Rep]at h
  obtain⟨F1,F2,h0,hl,h1,h2⟩:=h
  intro v hv
  rw[←List.take_append_drop a.cells cs]at hv
  rcases List.mem_append.1 hv with hv|hv
  ·exact Rep.one h1 v hv
  ·exact Rep.one h2 v hv
 | .ns t,f,x,_,F,h=>by
  simp only[Rep]at h
  split at h
  ·split at h
   ·simp[h.1,Value.oneCell']
   ·obtain⟨_,_,_,_,_,_,h1,_⟩:=h
    simp[h1,Value.oneCell']
  ·obtain⟨_,h⟩:=h
   split at h
   ·simp[h,Value.oneCell']
   ·obtain⟨_,_,_,_,_,_,_,h1,_⟩:=h
    simp[h1,Value.oneCell']
 | .tup _,_,_,_,_,h=>h.elim
 | .clo _ _ _,_,_,_,_,h=>by
  simp only[Rep]at h
  obtain⟨_,_,h,_⟩:=h
  simp[h,Value.oneCell']
end Go.Gx
