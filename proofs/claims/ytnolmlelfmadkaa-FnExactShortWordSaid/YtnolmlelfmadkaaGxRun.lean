import Derived.Test.YtnolmlelfmadkaaGxCore
namespace Go.Gx
open Go
def constV:Value→V
  | .int k n => .val (.int k) .i n
  | .bool b => .val .bool .i b
  | .string s => .val .str .i s.data.toList
  | .slice none 0 0 => .nilS
  | .pointer none => .nilP
  | _ => .u
def opd (st:St):Operand→V
  | .tmp t=>match st.get t with
    | .val τ f x=>match f with
      | .i => .val τ .i x
      | _ => .ref t [] .val
    | v=>v
  | .const v=>constV v
  | .func f => .val (.clo f 0 .unit) .i ()
  | _ => .u
def atI {α:Type}(xs:List α) (i:Int):Option α:=if 0≤i then xs[i.toNat]? else none
def slI {α:Type}(xs:List α) (lo hi:Int):Option (List α) :=
  if 0≤lo∧lo≤hi∧hi≤xs.length then some ((xs.drop lo.toNat).take (hi-lo).toNat) else none
def appI {α:Type}(xs ys:List α):Option (List α):=if xs.length+ys.length≤4294967296 then some (xs++ys) else none
def mkI {α:Type}(x:α) (n:Int):Option (List α):=if 0≤n∧n≤4294967296 then some (List.replicate n.toNat x) else none
def quoI (k:IntKind) (a b:Int):Option Int:=if b=0 then none else some (k.wrap (a.tdiv b))
def shlI (k:IntKind) (a b:Int):Option Int:=if b<0 then none else some (k.wrap (a*2 ^ min b.toNat k.bits))
def shrI (k:IntKind) (a b:Int):Option Int:=if b<0 then none else some (a.fdiv (2 ^ min b.toNat k.bits))
def remI (a b:Int):Option Int:=if b=0 then none else some (a.tmod b)
def bitI (op:BinOp) (k:IntKind) (a b:Int):Int:=match op with
  | .and=>k.wrap (BitVec.ofInt k.bits a &&& BitVec.ofInt k.bits b).toNat
  | .or=>k.wrap (BitVec.ofInt k.bits a ||| BitVec.ofInt k.bits b).toNat
  | _=>k.wrap (BitVec.ofInt k.bits a ^^^ BitVec.ofInt k.bits b).toNat
def zeroTy:(t:Ty)→t.den
  | .int _=>(0:Int) | .bool=>false | .str=>[] | .unit=>() | .any _=>()
  | .sl t=>([]:List t.den) | .ptr t=>zeroTy t | .opt t=>(none:Option t.den) | .pair a b=>(zeroTy a,zeroTy b) | .tup t=>zeroTy t | .clo _ _ t=>zeroTy t | .ns t=>(none:Option (List t.den)) | .map k v=>([]:List (k.den×v.den))
def Ty.hasZero:Ty→Bool
  | .ptr _=>false | .tup _=>false | .any _=>false | .clo _ _ _=>false | .ns _=>false | .map _ _=>false | .pair a b=>a.hasZero&&b.hasZero|_=>true
def Ty.flat:Ty→Bool
  | .sl _=>false | .ptr _=>false | .opt _=>false | .tup _=>false | .any _=>false | .clo _ _ _=>false | .ns _=>false | .map _ _=>false | .pair a b=>a.flat&&b.flat|_=>true
def eqD:(t:Ty)→t.den→t.den→Bool
  | .int _,a,b=>decide ((show Int from a)=b)
  | .bool,a,b=>(show Bool from a)==b
  | .str,a,b=>decide ((show List UInt8 from a)=b)
  | .unit,_,_=>true
  | .pair s t,a,b=>eqD s a.1 b.1&&eqD t a.2 b.2
  | _,_,_=>false
def mget (k v:Ty):List (k.den×v.den)→k.den→Option v.den
  | [],_=>none
  | (a,b)::m,x=>cond (eqD k x a) (some b) (mget k v m x)
def mput (k v:Ty):List (k.den×v.den)→k.den→v.den→List (k.den×v.den)
  | [],x,y=>[(x,y)]
  | (a,b)::m,x,y=>cond (eqD k x a) ((x,y)::m) ((a,b)::mput k v m x y)
inductive Ex where
  | normal|exit (id:Nat)|ret
inductive Sh where
  | drop|keep|as (t:Ty) (f:Fl)
structure Hook where
  run:{ρ:Type}→St→(St→Option ρ)→Option ρ
structure Cfg where
  elem:Nat→Option (Ty×Fl)
  flds:Nat→Option (List (Ty×Fl))
  arrs:Nat→Option (Ty×Fl×Nat)
  maps:Nat→Option (Ty×Ty)
  ty:Nat→Option (Ty×Fl)
  sig:Nat→Option Sig
  shape:Nat→Option (List Sh)
  wins:Bool:=false
  hook:Nat→Option Hook:=fun _=>none
section
variable {ρ:Type}
def fetch (st:St) (v:V) (k:(t:Ty)→Fl→t.den→Option ρ):Option ρ:=match v with
  | .val t f x=>k t f x
  | .ref s p .val=>match st.get s with
    | .val τ f y=>getP τ f y p k
    | _=>none
  | _=>none
def emptyOf:(t:Ty)→(t.den→Option ρ)→Option ρ
  | .sl _,k=>k []
  | .ns _,k=>k none
  | _,_=>none
def noneOf:(t:Ty)→(t.den→Option ρ)→Option ρ
  | .opt _,k=>k none
  | _,_=>none
def Ty.isTup:Ty→Bool
  | .tup _=>true
  | _=>false
def fetchAs (st:St) (v:V) (t:Ty) (k:t.den→Option ρ):Option ρ:=match v with
  | .nilS=>emptyOf t k
  | .nilP=>noneOf t k
  | v=>fetch st v fun s f x=>if s.isTup then none else coerceTy s f x t .i k
def okMut:Ty→Bool
  | .sl _=>true
  | .ptr _=>true
  | .pair a b=>decide (0<(Ty.pair a b).cells)
  | _=>false
def pathOk:List Stp→Bool
  | []=>true
  | .idx _::_=>true
  | .deref::_=>true
  | _=>false
def V.reIn (s:Nat) (nv:V):V→V
  | .ref r p k=>if r=s then(match p,k with|[],.val=>(if nv.isOwner then .ref r [] .val else nv)|_,_ => .u) else .ref r p k
  | .win r a b t=>if r=s then .u else .win r a b t
  | .val t f x => .val t f x | .u => .u | .nilS => .nilS | .nilP => .nilP
def reput (st:St) (s:Nat) (nv:V):St:=(st.map (V.reIn s nv)).set s nv
def Stp.static:Stp→Bool
  | .idx _=>false
  | _=>true
def consume (st:St) (v:V) (k:St→(t:Ty)→Fl→t.den→Option ρ):Option ρ:=match v with
  | .val t f x=>k st t f x
  | .ref s [] .val=>match st.get s with
    | .val t f x=>k ((dropRefs s st).set s .u) t f x
    | _=>none
  | .ref s (q::p) .val=>match st.get s with
    | .val τ g y=>getP τ g y (q::p) fun t f x=>if okMut t&&pathOk (q::p) then setP τ g y (q::p) (.any t.cells) .i () fun τ' g' y'=>k (reput st s (.val τ' g' y')) t f x else none
    | _=>none
  | _=>none
def into (s:Ty) (g:Fl) (x:s.den):(t:Ty)→(Fl→t.den→Option ρ)→Option ρ
  | .opt t,k=>coerceTy s g x (.opt t) .i fun y=>k .i y
  | t,k=>if h:s=t then k g (cast (congrArg Ty.den h) x) else none
def consumeAs (st:St) (v:V) (t:Ty) (f:Fl) (k:St→Fl→t.den→Option ρ):Option ρ:=if t.flat then fetchAs st v t (k st .i) else match v with
  | .nilS=>emptyOf t (k st f)
  | .nilP=>noneOf t (k st .i)
  | v=>consume st v fun st' s g x=>into s g x t (k st')
def asAddr (st:St):V→Option (Nat×List Stp)
  | .ref s p .addr=>some (s,p)
  | .ref s [] .val=>match st.get s with
    | .val (.ptr _) (.o _) _=>some (s,[.deref])
    | _=>none
  | _=>none
def fldP:(t:Ty)→Fl→t.den→Nat→((t:Ty)→Fl→t.den→Option ρ)→Option ρ
  | .pair a _,f,x,0,k=>k a f.l x.1
  | .pair _ b,f,x,n+1,k=>fldP b f.r x.2 n k
  | _,_,_,_,_=>none
def fldSteps:Nat→List Stp
  | 0=>[.fst]
  | n+1 => .snd::fldSteps n
def lenK (A:Cfg) (T:Nat):(t:Ty)→t.den→(Int→Option ρ)→Option ρ
  | .sl _,xs,k=>if(A.elem T).isSome then k (xs.length:Nat) else none
  | .str,xs,k=>match A.ty T with
    | some (.str,_)=>k (xs.length:Nat)
    | _=>none
  | _,_,_=>none
def binI (op:BinOp) (k:IntKind) (a b:Int) (c:V→Option ρ):Option ρ:=match op with
  | .add=>c (.val (.int k) .i (k.wrap (a+b)))
  | .sub=>c (.val (.int k) .i (k.wrap (a-b)))
  | .mul=>c (.val (.int k) .i (k.wrap (a*b)))
  | .quo=>(quoI k a b).bind fun x=>c (.val (.int k) .i x)
  | .rem=>(remI a b).bind fun x=>c (.val (.int k) .i x)
  | .eql=>c (.val .bool .i (decide (a=b)))
  | .neq=>c (.val .bool .i (decide (a≠b)))
  | .lss=>c (.val .bool .i (decide (a<b)))
  | .leq=>c (.val .bool .i (decide (a≤b)))
  | .gtr=>c (.val .bool .i (decide (b<a)))
  | .geq=>c (.val .bool .i (decide (b≤a)))
  | .and=>c (.val (.int k) .i (bitI .and k a b))
  | .or=>c (.val (.int k) .i (bitI .or k a b))
  | .xor=>c (.val (.int k) .i (bitI .xor k a b))
  | _=>none
def rowTy (t:Ty):Nat→Ty
  | 0 => .unit
  | n+1 => .pair t (rowTy t n)
def arrT:Option (Ty×Fl×Nat)→Option Ty
  | some (.int k,_,n)=>some (rowTy (.int k) n)
  | _=>none
def binV (tb ts:Bool) (ta:Option Ty) (op:BinOp) (x y:V) (c:V→Option ρ):Option ρ:=match x,y with
  | .val (.int j) _ a,.val (.int k) _ b=>match op with
    | .shl=>(shlI j a b).bind fun x=>c (.val (.int j) .i x)
    | .shr=>(shrI j a b).bind fun x=>c (.val (.int j) .i x)
    | op=>if j=k then binI op j a b c else none
  | .val .bool _ a,.val .bool _ b=>if tb then match op with
    | .eql=>c (.val .bool .i (a==b))
    | .neq=>c (.val .bool .i (a != b))
    | _=>none else none
  | .val .str _ a,.val .str _ b=>match op with
    | .eql=>c (.val .bool .i (decide (a=b)))
    | .neq=>c (.val .bool .i (decide (a≠b)))
    | .add=>(appI a b).bind fun z=>c (.val .str .i z)
    | _=>none
  | .val (.pair t u) _ a,.val (.pair t' u') _ b=>if h:Ty.pair t' u'=Ty.pair t u then if ta=some (.pair t u) then match op with
    | .eql=>c (.val .bool .i (eqD (.pair t u) a (cast (congrArg Ty.den h) b)))
    | .neq=>c (.val .bool .i (!eqD (.pair t u) a (cast (congrArg Ty.den h) b)))
    | _=>none else none else none
  | .val (.ns _) _ o,.nilS=>if ts then match op with
    | .eql=>c (.val .bool .i (Option.isNone o))
    | .neq=>c (.val .bool .i (Option.isSome o))
    | _=>none else none
  | _,_=>none
def isBoolTy:Option (Ty×Fl)→Bool
  | some (.bool,_)=>true
  | _=>false
def unV (op:UnOp) (x:V) (c:V→Option ρ):Option ρ:=match x with
  | .val .bool _ a=>match op with
    | .not=>c (.val .bool .i (!a))
    | _=>none
  | .val (.int k) _ a=>match op with
    | .neg=>c (.val (.int k) .i (k.wrap (0-a)))
    | _=>none
  | _=>none
def pickV (c x y:V) (k:V→Option ρ):Option ρ:=match c with
  | .val .bool _ b=>match x,y with
    | .val .bool _ p,.val .bool _ q=>k (.val .bool .i (cond b p q))
    | .val .bool _ p,_=>cond b (k (.val .bool .i p)) none
    | _,.val .bool _ q=>cond b none (k (.val .bool .i q))
    | _,_=>none
  | _=>none
def argsK (st:St):(a:Ty)→List Nat→List Fl→List V→(a.den→Option ρ)→Option ρ
  | .unit,[],_,[],k=>k ()
  | .pair t b,0::ms,fs,v::vs,k=>fetchAs st v t fun x=>argsK st b ms fs vs fun y=>k (x,y)
  | .pair t b,1::ms,f::fs,.ref s p .val::vs,k=>match st.get s with
    | .val τ g y=>if okMut t then getP τ g y p fun t' f' x=>if h:t'=t then if f'=f then argsK st b ms fs vs fun z=>k (cast (congrArg Ty.den h) x,z) else none else none else none
    | _=>none
  | _,_,_,_,_=>none
def V.namesB (s:Nat):V→Bool
  | .ref q _ _=>q==s
  | .win q _ _ _=>q==s
  | _=>false
def V.noRef:V→Bool
  | .ref _ _ _=>false
  | .win _ _ _ _=>false
  | _=>true
def mutSlots:List Nat→List V→List Nat
  | 1::ms,.ref s _ _::vs=>s::mutSlots ms vs
  | _::ms,_::vs=>mutSlots ms vs
  | _,_=>[]
def readVs:List Nat→List V→List V
  | 0::ms,v::vs=>v::readVs ms vs
  | _::ms,_::vs=>readVs ms vs
  | _,_=>[]
def mutShape:List Nat→List V→Bool
  | 0::ms,_::vs=>mutShape ms vs
  | 1::ms,.ref _ p .val::vs=>pathOk p&&mutShape ms vs
  | [],[]=>true
  | _,_=>false
def nodupB:List Nat→Bool
  | []=>true
  | s::l => !l.contains s&&nodupB l
def mutClosed:Ty→List Fl→Bool
  | .pair t b,f::fs=>closed t f&&mutClosed b fs
  | .unit,_=>true
  | _,_=>false
def mutSep (ms:List Nat) (vs:List V):Bool :=
  mutShape ms vs&&nodupB (mutSlots ms vs)&&(readVs ms vs).all fun v=>(mutSlots ms vs).all fun s => !v.namesB s
def takeMut:List Nat→List V→St→St
  | 1::ms,.ref s _ _::vs,st=>takeMut ms vs ((dropRefs s st).set s .u)
  | _::ms,_::vs,st=>takeMut ms vs st
  | _,_,st=>st
def outsK (st0:St):(m:Ty)→m.den→List Nat→List Fl→List V→St→(St→Option ρ)→Option ρ
  | .unit,_,[],[],[],st,k=>k st
  | m,x,0::ms,fs,_::vs,st,k=>outsK st0 m x ms fs vs st k
  | .pair t b,x,1::ms,f::fs,.ref s p .val::vs,st,k=>if t = .any 1 then outsK st0 b x.2 ms fs vs st k else match st0.get s with
    | .val τ g y=>if okMut t then getP τ g y p fun t' _ _=>if t'=t then setP τ g y p t f x.1 fun τ' g' y'=>outsK st0 b x.2 ms fs vs (st.set s (.val τ' g' y')) k else none else none
    | _=>none
  | _,_,_,_,_,_,_=>none
def V.plain (s:Nat) (t:Ty) (x:t.den):V→V
  | .ref r p k=>if r=s then(match p,k with|[],.val => .val t .i x|_,_ => .u) else .ref r p k
  | .win r a b t=>if r=s then .u else .win r a b t
  | .val t f x => .val t f x | .u => .u | .nilS => .nilS | .nilP => .nilP
def freeze (st:St) (s:Nat):St:=match st.get s with
  | .val t _ x=>(st.map (V.plain s t x)).set s (.val t .i x)
  | _=>st
def freezeAll (st:St):List V→St
  | []=>st
  | .ref s _ _::vs=>freezeAll (freeze st s) vs
  | .win s _ _ _::vs=>freezeAll (freeze st s) vs
  | _::vs=>freezeAll st vs
def realias (st:St) (ss:List Nat) (st1:St):St:=st1.mapIdx fun i v=>match v,st.get i with
  | .u,.ref s [] .val=>if ss.contains s&&(st1.get s).isOwner then .ref s [] .val else .u
  | v,_=>v
def callK (A:Cfg) (f:Nat) (vs:List V) (dst:Option Nat) (st:St) (k:St→Option ρ):Option ρ :=
  match A.sig f with
  | some S=>if S.md.any (· != 0) then
      if mutSep S.md vs&&((closed S.r S.rf&&mutClosed S.m S.mf)||(readVs S.md vs).all V.noRef) then argsK st S.a S.md S.mf vs fun x=>(S.f x).bind fun r =>
        outsK st S.m r.2 S.md S.mf vs (takeMut S.md vs st) fun st1=>k ((realias st (mutSlots S.md vs) st1).putO dst (.val S.r S.rf r.1))
      else none
    else argsK st S.a S.md S.mf vs fun x=>(S.f x).bind fun r =>
      k ((if closed S.r S.rf then st else freezeAll st vs).putO dst (.val S.r S.rf r.1))
  | none=>none
def preK (A:Cfg) (f:Nat) (vs:List V) (st:St):St:=match A.sig f with
  | some S=>if S.md.any (· != 0) && !(closed S.r S.rf&&mutClosed S.m S.mf) then freezeAll st (readVs S.md vs) else st
  | none=>st
def Ty.oneB:Ty→Bool
  | .int _=>true | .bool=>true | .str=>true | .sl _=>true | .ptr _=>true | .opt _=>true | .clo _ _ _=>true|_=>false
def capsK:List V→((t:Ty)→t.den→Option ρ)→Option ρ
  | [],k=>k .unit ()
  | .val t .i x::vs,k=>if t.oneB then capsK vs fun u y=>k (.pair t u) (x,y) else none
  | _::_,_=>none
def capsV:(t:Ty)→t.den→Option (List V)
  | .unit,_=>some []
  | .pair a b,x=>if a.oneB then(capsV b x.2).map fun l => .val a .i x.1::l else none
  | _,_=>none
def closK (A:Cfg) (f:Nat) (vs:List V) (dst:Option Nat) (st:St) (k:St→Option ρ):Option ρ:=match A.sig f with
  | some S=>if S.md.any (· != 0) then none else if closed S.r S.rf then argsK st S.a S.md S.mf vs fun x=>(S.f x).bind fun r=>k (st.putO dst (.val S.r S.rf r.1)) else none
  | none=>none
def partsK (t:Ty) (f:Fl):St→List (Nat×Operand)→Nat→(St→List Fl→List t.den→Option ρ)→Option ρ
  | st,[],_,k=>k st [] []
  | st,(i,o)::ps,n,k=>if i=n then consumeAs st (opd st o) t f fun st' g x=>partsK t f st' ps (n+1) fun st'' gs l=>k st'' (g::gs) (x::l) else none
def oneFl (f:Fl):List Fl→Fl
  | []=>f
  | g::gs=>if gs.all (·==g) then g else .i
def fieldsK:St→List (Nat×Operand)→List (Ty×Fl)→Nat→(St→(t:Ty)→Fl→t.den→Option ρ)→Option ρ
  | st,[],[],_,k=>k st .unit .i ()
  | st,[],(t,f)::ts,n,k=>if t.hasZero then fieldsK st [] ts (n+1) fun st'' u h y=>k st'' (.pair t u) (Fl.mkP f h) (zeroTy t,y) else none
  | st,(i,o)::ps,(t,f)::ts,n,k=>if i=n then consumeAs st (opd st o) t f fun st' g x=>fieldsK st' ps ts (n+1) fun st'' u h y=>k st'' (.pair t u) (Fl.mkP g h) (x,y)
    else if t.hasZero then fieldsK st ((i,o)::ps) ts (n+1) fun st'' u h y=>k st'' (.pair t u) (Fl.mkP f h) (zeroTy t,y) else none
  | _,_,_,_,_=>none
def baseK (st:St) (s:V) (t:Ty) (f:Fl) (k:St→Fl→List t.den→Option ρ):Option ρ:=match s with
  | .nilS=>k st f []
  | .ref q p .val=>consume st (.ref q p .val) fun st' t' g xs=>match t',g,xs with
    | .sl t',.o g,xs=>if h:t'=t then k st' g (cast (congrArg (fun t=>List (Ty.den t)) h) xs) else none
    | _,_,_=>none
  | .win q 0 hi _=>match st.get q with
    | .val (.sl t') (.o g) xs=>if h:t'=t then k ((dropRefs q st).set q .u) g ((cast (congrArg (fun t=>List (Ty.den t)) h) xs).take hi) else none
    | _=>none
  | _=>none
def winSrc (st:St) (x:V) (t:Ty):Option (Nat×Nat×Nat×List t.den):=match x with
  | .win q lo hi _=>match st.get q with
    | .val (.sl t') (.o g) ys=>if h:t'=t then if g = .i||t.flat then some (q,lo,hi,cast (congrArg (fun t=>List (Ty.den t)) h) ys) else none else none
    | _=>none
  | _=>none
def winMv (st:St) (s x:V) (t:Ty):Option (Nat×Nat×Nat×Nat×Fl×List t.den):=match s,x with
  | .win q 0 m _,.win q2 lo hi _=>if q2=q then match st.get q with
    | .val (.sl t') (.o g) ys=>if h:t'=t then some (q,m,lo,hi,g,cast (congrArg (fun t=>List (Ty.den t)) h) ys) else none
    | _=>none
    else none
  | _,_=>none
def appendK (st:St) (s x:Operand) (t:Ty) (f:Fl) (k:St→V→Option ρ):Option ρ:=match winSrc st (opd st x) t with
  | some (_,lo,hi,ys)=>baseK st (opd st s) t f fun st1 _ xs=>(appI xs ((ys.drop lo).take (hi-lo))).bind fun zs=>k st1 (.val (.sl t) (.o .i) zs)
  | none=>match winMv st (opd st s) (opd st x) t with
  | some (q,m,lo,hi,g,ys)=>cond (decide (m≤lo)) ((appI (ys.take m) ((ys.drop lo).take (hi-lo))).bind fun zs=>k ((dropRefs q st).set q .u) (.val (.sl t) (.o g) zs)) none
  | none=>baseK st (opd st s) t f fun st1 g xs=>match opd st1 x with
  | .nilS=>none
  | .val t2 _ ys=>match t2,ys with
    | .sl t2,ys=>if h:t2=t then(appI xs (cast (congrArg (fun t=>List (Ty.den t)) h) ys)).bind fun zs=>k st1 (.val (.sl t) (.o .i) zs) else none
    | _,_=>none
  | x=>if t.flat then fetch st1 x fun t2 _ ys=>match t2,ys with
      | .sl t2,ys=>if h:t2=t then(appI xs (cast (congrArg (fun t=>List (Ty.den t)) h) ys)).bind fun zs=>k st1 (.val (.sl t) (.o .i) zs) else none
      | _,_=>none
    else consumeAs st1 x (.sl t) .i fun st2 g2 ys=>match g2 with
      | .o g2=>(appI xs ys).bind fun zs=>k st2 (.val (.sl t) (.o (if g2=g then g else .i)) zs)
      | _=>none
def sliceK (T:Option Ty) (x:V) (lo hi:Option V) (k:V→Option ρ):Option ρ :=
  (fun(go:(n:Int)→(Int→Int→Option ρ)→Option ρ)=>match x with
    | .val (.sl t) _ xs=>if T=some t then go xs.length fun a b=>(slI xs a b).bind fun ys=>k (.val (.sl t) .i ys) else none
    | .val .str _ xs=>if T=none then go xs.length fun a b=>(slI xs a b).bind fun ys=>k (.val .str .i ys) else none
    | _=>none) fun n f =>
  match lo,hi with
  | none,none=>f 0 n
  | some (.val (.int _) _ a),none=>f a n
  | none,some (.val (.int _) _ b)=>f 0 b
  | some (.val (.int _) _ a),some (.val (.int _) _ b)=>f a b
  | _,_=>none
def winK (n s:Nat) (lo hi mx:Option V) (k:V→Option ρ):Option ρ:=match lo,hi,mx with
  | none,some (.val (.int _) _ b),some (.val (.int _) _ m)=>cond (decide (0≤b∧b≤(n:Int)∧m=b)) (k (.win s 0 b.toNat true)) none
  | some (.val (.int _) _ a),none,none=>cond (decide (0≤a∧a≤(n:Int))) (k (.win s a.toNat n false)) none
  | none,some (.val (.int _) _ b),none=>cond (decide (0≤b∧b≤(n:Int))) (k (.win s 0 b.toNat false)) none
  | _,_,_=>none
def indexAddrK (T:Ty) (st:St) (x i:V) (k:V→Option ρ):Option ρ:=match i with
  | .val (.int _) _ n=>match x with
    | .val (.sl t) _ xs=>if t=T then(atI xs n).bind fun e=>k (.val (.ptr t) .i e) else none
    | .ref s p .val=>match st.get s with
      | .val τ g y=>getP τ g y p fun t f xs=>match t,f,xs with
        | .sl t,.o _,xs=>if t=T then(atI xs n).bind fun _=>k (.ref s (p++[.idx n.toNat]) .addr) else none
        | _,_,_=>none
      | _=>none
    | _=>none
  | _=>none
def V.ofNode (s:Nat) (p:List Stp) (t:Ty):(f:Fl)→t.den→V
  | .i,e => .val t .i e
  | _,_ => .ref s p .val
def loadK (T:Ty) (st:St) (x:V) (k:V→Option ρ):Option ρ:=match x with
  | .val (.ptr t) _ e=>if t=T then k (.val t .i e) else none
  | .val (.opt t) _ o=>if t=T then o.bind fun e=>k (.val t .i e) else none
  | x=>match asAddr st x with
    | some (s,p)=>match st.get s with
      | .val τ g y=>getP τ g y p fun t f e=>if t=T then k (V.ofNode s p t f e) else none
      | _=>none
    | none=>none
def storeK (A:Cfg) (T:Nat) (st:St) (a v:Operand) (k:St→Option ρ):Option ρ:=match A.ty T with
  | some (t,f)=>consumeAs st (opd st v) t f fun st1 g x=>match asAddr st1 (opd st1 a) with
    | some (s,p)=>match st1.get s with
      | .val τ h y=>setP τ h y p t g x fun τ' h' y'=>if(V.val τ' h' y').isOwner&&decide (0<t.cells) then k ((dropInner s st1).set s (.val τ' h' y')) else none
      | _=>none
    | none=>none
  | none=>none
def offOf:Ty→Nat→Option Nat
  | .pair _ _,0=>some 0
  | .pair a b,n+1=>(offOf b n).map (a.cells+·)
  | _,_=>none
def fldT:Ty→Nat→Option Ty
  | .pair a _,0=>some a
  | .pair _ b,n+1=>fldT b n
  | _,_=>none
def offL:List (Ty×Fl)→Nat→Option Nat
  | _::_,0=>some 0
  | (t,_)::l,n+1=>(offL l n).map (t.cells+·)
  | _,_=>none
def fieldAddrK (fts:List (Ty×Fl)) (st:St) (x:V) (f:Nat) (k:V→Option ρ):Option ρ:=match x with
  | .val (.ptr t) _ e=>if(offOf t f).isSome&&decide (offOf t f=offL fts f) then fldP t .i e f fun t _ e=>k (.val (.ptr t) .i e) else none
  | x=>match asAddr st x with
    | some (s,p)=>match st.get s with
      | .val τ g y=>getP τ g y p fun t _ _=>if(offOf t f).isSome&&decide (offOf t f=offL fts f) then k (.ref s (p++fldSteps f) .addr) else none
      | _=>none
    | none=>none
def convK (A:Cfg) (st:St) (s d:Nat) (x:V) (k:V→Option ρ):Option ρ:=match x with
  | .val (.int _) _ n=>match A.ty d with
    | some (.int j,_)=>k (.val (.int j) .i (j.wrap n))
    | _=>none
  | x=>match A.elem s,A.ty d with
    | some (.int .u8,_),some (.str,_)=>fetch st x fun t _ e=>if h:t = .sl (.int .u8) then k (.val .str .i ((show List Int from cast (congrArg Ty.den h) e).map fun n=>UInt8.ofNat n.toNat)) else none
    | _,_=>none
def mapSetK (A:Cfg) (T:Nat) (st:St) (m x y:Operand) (k:St→Option ρ):Option ρ:=match A.maps T with
  | some (kt,vt)=>fetchAs st (opd st x) kt fun a=>fetchAs st (opd st y) vt fun b=>match opd st m with
    | .ref s p .val=>match st.get s with
      | .val τ h z=>getP τ h z p fun t f e=>if hm:t = .map kt vt then if f = .o .i then if p.all Stp.static then setP τ h z p (.map kt vt) (.o .i) (mput kt vt (cast (congrArg Ty.den hm) e) a b) fun τ' h' z'=>if(V.val τ' h' z').isOwner then k ((dropInner s st).set s (.val τ' h' z')) else none else none else none else none
      | _=>none
    | _=>none
  | none=>none
def lookupK (A:Cfg) (T:Nat) (st:St) (x i:Operand) (ok:Bool) (k:V→Option ρ):Option ρ:=match A.maps T with
  | some (kt,vt)=>fetch st (opd st x) fun t _ m=>if h:t = .map kt vt then fetchAs st (opd st i) kt fun a =>
      (fun r:Option vt.den=>if ok then k (.val (.tup (.pair vt (.pair .bool .unit))) .i (r.getD (zeroTy vt),(r.isSome,()))) else k (.val vt .i (r.getD (zeroTy vt)))) (mget kt vt (cast (congrArg Ty.den h) m) a)
    else none
  | none=>none
def tupTake:(t:Ty)→Fl→t.den→Nat→((t:Ty)→Fl→t.den→(t':Ty)→Fl→t'.den→Option ρ)→Option ρ
  | .pair a b,f,x,0,k=>k a f.l x.1 (.pair (.any a.cells) b) (Fl.mkP .i f.r) ((),x.2)
  | .pair a b,f,x,n+1,k=>tupTake b f.r x.2 n fun t g y b' h z=>k t g y (.pair a b') (Fl.mkP f.l h) (x.1,z)
  | _,_,_,_,_=>none
def extractK (st:St) (x:V) (i:Nat) (k:St→V→Option ρ):Option ρ:=match x with
  | .val (.tup t) _ e=>fldP t .i e i fun t _ e=>k st (.val t .i e)
  | .ref s [] .val=>match st.get s with
    | .val (.tup t) f y=>tupTake t f y i fun t g e t' h y'=>match g with
      | .i=>k st (.val t .i e)
      | g=>k (reput st s (.val (.tup t') h y')) (.val t g e)
    | _=>none
  | _=>none
def assignK (st:St) (d:Nat) (x:V) (k:St→Option ρ):Option ρ:=match x with
  | .ref s [] .val=>if s=d then k st else if d<st.length then match st.get s with
      | .val t f x=>k (((moveRefs s d (st.put d .u)).set s (.ref d [] .val)).set d (.val t f x))
      | _=>none
    else none
  | v=>k (st.put d v)
def arrBr:Nat→Nat→Int→(Nat→Option ρ)→Option ρ
  | 0,_,_,_=>none
  | n+1,m,j,b=>cond (decide (j=(m:Int))) (b m) (arrBr n (m+1) j b)
def step (A:Cfg) (o:Oper) (st:St) (k:St→Option ρ):Option ρ:=match o.op with
  | .move x=>k (st.putO o.dst (opd st x))
  | .assign x=>match o.dst with
    | some d=>assignK st d (opd st x) k
    | none=>none
  | .pick c a b=>pickV (opd st c) (opd st a) (opd st b) fun v=>k (st.putO o.dst v)
  | .alloc e=>match A.ty e with
    | some (t,f)=>if t.hasZero then k (st.putO o.dst (.val (.ptr t) (.o f) (zeroTy t))) else none
    | none=>none
  | .box e v=>match A.ty e with
    | some (t,f)=>consumeAs st (opd st v) t f fun st' g x=>k (st'.putO o.dst (.val (.ptr t) (.o g) x))
    | none=>none
  | .buildSlice T n ps=>match A.elem T with
    | some (t,f)=>if ps.toList.length=n∧n≤65536 then partsK t f st ps.toList 0 fun st' gs xs=>k (st'.putO o.dst (.val (.sl t) (.o (oneFl f gs)) xs)) else none
    | none=>none
  | .build T ps=>match A.flds T with
    | some fts=>fieldsK st ps.toList fts 0 fun st' t f x=>k (st'.putO o.dst (.val t f x))
    | none=>match A.arrs T with
      | some (t,f,n)=>fieldsK st ps.toList (List.replicate n (t,f)) 0 fun st' t f x=>k (st'.putO o.dst (.val t f x))
      | none=>none
  | .store T x v=>storeK A T st x v fun st'=>k (st'.putO o.dst .u)
  | .fieldAddr S x f=>match A.flds S with
    | some fts=>fieldAddrK fts st (opd st x) f fun v=>k (st.putO o.dst v)
    | none=>none
  | .convert s d x=>if(A.ty s).isSome then convK A st s d (opd st x) fun v=>k (st.putO o.dst v) else none
  | .load T a=>match A.ty T with
    | some (t,_)=>loadK t st (opd st a) fun v=>k (st.putO o.dst v)
    | none=>none
  | .nilCheck x=>match opd st x with
    | .val (.opt t) _ y=>y.bind fun e=>k (st.putO o.dst (.val (.ptr t) .i e))
    | .val (.ptr t) _ e=>k (st.putO o.dst (.val (.ptr t) .i e))
    | .ref s p c=>if(asAddr st (.ref s p c)).isSome then k (st.putO o.dst (.ref s p c)) else none
    | _=>none
  | .binOp op T x y _=>binV (isBoolTy (A.ty T)) (A.elem T).isSome (arrT (A.arrs T)) op (opd st x) (opd st y) fun v=>k (st.putO o.dst v)
  | .unOp op _ x=>unV op (opd st x) fun v=>k (st.putO o.dst v)
  | .makeSlice T l c=>match A.elem T with
    | some (t,f)=>if t.hasZero then match opd st l,opd st c with
        | .val (.int _) _ a,.val (.int _) _ b=>(mkI (zeroTy t) b).bind fun _=>(mkI (zeroTy t) a).bind fun xs=>cond (decide (a≤b)) (k (st.putO o.dst (.val (.sl t) (.o f) xs))) none
        | _,_=>none
      else none
    | none=>none
  | .slice T x lo hi mx=>match mx,A.elem T,A.ty T with
    | none,some (t,_),_=>sliceK (some t) (opd st x) (lo.map (opd st)) (hi.map (opd st)) fun v=>k (st.putO o.dst v)
    | none,none,some (.str,_)=>sliceK none (opd st x) (lo.map (opd st)) (hi.map (opd st)) fun v=>k (st.putO o.dst v)
    | _,_,_=>none
  | .indexAddr T x i=>match A.elem T with
    | some (t,_)=>indexAddrK t st (opd st x) (opd st i) fun v=>k (st.putO o.dst v)
    | none=>match A.arrs T with
      | some (t,f,n)=>match opd st i with
        | .val (.int _) _ j=>arrBr n 0 j fun m=>fieldAddrK (List.replicate n (t,f)) st (opd st x) m fun v=>k (st.putO o.dst v)
        | _=>none
      | none=>none
  | .index T x i=>match A.ty T with
    | some (.str,_)=>match opd st x,opd st i with
      | .val .str _ xs,.val (.int _) _ n=>(atI xs n).bind fun b=>k (st.putO o.dst (.val (.int .u8) .i (b.toNat:Int)))
      | _,_=>none
    | _=>none
  | .makeMap T none=>match A.maps T with
    | some (kt,vt)=>k (st.putO o.dst (.val (.map kt vt) (.o .i) []))
    | none=>none
  | .mapUpdate T m x y=>mapSetK A T st m x y fun st'=>k (st'.putO o.dst .u)
  | .insert T m x y=>mapSetK A T st m x y fun st'=>k (st'.putO o.dst .u)
  | .lookup T x i ok=>lookupK A T st x i ok fun v=>k (st.putO o.dst v)
  | .makeFunc (.func f) first captured=>capsK ((first.toList++captured.toList).map (opd st)) fun u x=>k (st.putO o.dst (.val (.clo f first.size u) .i x))
  | .extract x i=>extractK st (opd st x) i fun st' v=>k (st'.putO o.dst v)
  | .call c=>match c.callee with
    | .value (.func f)=>callK A f (c.args.toList.map (opd (preK A f (c.args.toList.map (opd st)) st))) o.dst (preK A f (c.args.toList.map (opd st)) st) k
    | .value (.tmp t)=>match opd st (.tmp t) with
      | .val (.clo f nf u) .i x=>(capsV u x).bind fun l=>closK A f (l.take nf++c.args.toList.map (opd st)++l.drop nf) o.dst st k
      | _=>none
    | .builtin .len=>match c.args.toList,c.argTypes.toList with
      | [x],[T]=>match opd st x with
        | .nilS=>if(A.elem T).isSome then k (st.putO o.dst (.val (.int .i64) .i (0:Int))) else none
        | v=>fetch st v fun t _ e=>lenK A T t e fun n=>k (st.putO o.dst (.val (.int .i64) .i n))
      | _,_=>none
    | .builtin .append=>match c.args.toList,c.argTypes.toList with
      | [s,x],[T,T2]=>match A.elem T,A.elem T2 with
        | some (t,f),some _=>appendK st s x t f fun st' v=>k (st'.putO o.dst v)
        | _,_=>none
      | _,_=>none
    | _=>none
  | _=>none
def dstOf (ops:List Oper) (j:Nat):Option Nat:=(ops[j]?).bind (·.dst)
def uV:V := .val (.tup .unit) .i ()
def prepK (o:Oper) (st:St) (k:St→Option ρ):Option ρ:=match o.op with
  | .slice _ x _ _ _=>match opd st x with
    | .ref s [] .val=>k (freeze st s)
    | _=>k st
  | .nilCheck x=>match opd st x with
    | .ref s [] .val=>match st.get s with
      | .val (.opt t) (.o g) y=>Option.bind y fun e=>k ((dropInner s st).set s (.val (.ptr t) (.o g) e))
      | _=>k st
    | _=>k st
  | .binOp _ _ x _ _=>match opd st x with
    | .ref s [] .val=>match st.get s with
      | .val (.ns _) _ _=>k (freeze st s)
      | _=>k st
    | _=>k st
  | _=>k st
def nsCmp (A:Cfg) (o:Oper) (st:St):Option Bool:=match o.op with
  | .binOp op T x y _=>match opd st x with
    | .ref s [] .val=>match st.get s with
      | .val (.ns _) (.o _) v=>match opd st y with
        | .nilS=>if(A.elem T).isSome then(match op with
          | .eql=>some (Option.isNone v)
          | .neq=>some (Option.isSome v)
          | _=>none) else none
        | _=>none
      | _=>none
    | _=>none
  | _=>none
def isWin (A:Cfg) (o:Oper) (st:St):Option (Nat×Nat):=if A.wins then match o.op with
  | .slice T x _ _ _=>match opd st x with
    | .ref s [] .val=>match st.get s with
      | .val (.sl t) (.o _) xs=>match A.elem T with
        | some (t',_)=>if t=t' then some (s,xs.length) else none
        | none=>none
      | _=>none
    | _=>none
  | _=>none else none
def stepW (o:Oper) (st:St) (s n:Nat) (k:St→Option ρ):Option ρ:=match o.op with
  | .slice _ _ lo hi mx=>winK n s (lo.map (opd st)) (hi.map (opd st)) (mx.map (opd st)) fun v=>k (st.putO o.dst v)
  | _=>none
def stepX (A:Cfg) (o:Oper) (st:St) (k:St→Option ρ):Option ρ:=match nsCmp A o st with
  | some b=>k (st.putO o.dst (.val .bool .i b))
  | none=>match isWin A o st with
    | some (s,n)=>stepW o st s n k
    | none=>prepK o st fun st'=>step A o st' k
def stepG (A:Cfg) (all:List Oper) (o:Oper) (st:St) (k:St→Option ρ):Option ρ:=match o.guard with
  | none=>stepX A o st k
  | some (j,want)=>match dstOf all j with
    | none=>none
    | some d=>match st.get d with
      | .val .bool f b=>cond b
          (if want then stepX A o (st.set d (.val .bool f true)) k else k (St.putO (st.set d (.val .bool f true)) o.dst uV))
          (if want then k (St.putO (st.set d (.val .bool f false)) o.dst uV) else stepX A o (st.set d (.val .bool f false)) k)
      | .val (.tup _) _ _=>k (st.putO o.dst uV)
      | _=>none
def runOps (A:Cfg) (all:List Oper):List Oper→St→(St→Option ρ)→Option ρ
  | [],st,k=>k st
  | o::os,st,k=>stepG A all o st fun st'=>runOps A all os st' k
def V.dropL (l:List Nat):V→V
  | .ref r p k=>if l.contains r then .u else .ref r p k
  | .win r a b t => .win r a b t
  | .val t f x => .val t f x | .u => .u | .nilS => .nilS | .nilP => .nilP
def V.unwin:V→V
  | .win _ _ _ _ => .u
  | v=>v
def maskK:List Sh→St→Nat→(St→List Nat→Option ρ)→Option ρ
  | _,[],_,k=>k [] []
  | [],v::st,n,k=>maskK [] st (n+1) fun st' l=>k (.u::st') (if v.isOwner then n::l else l)
  | .drop::ss,v::st,n,k=>maskK ss st (n+1) fun st' l=>k (.u::st') (if v.isOwner then n::l else l)
  | .keep::ss,v::st,n,k=>maskK ss st (n+1) fun st' l=>k (v.unwin::st') l
  | .as t f::ss,v::st,n,k=>if t.isTup then none else match v with
    | .val s g x=>coerceTy s g x t f fun y=>maskK ss st (n+1) fun st' l=>k (.val t f y::st') (if s=t∧g=f then l else n::l)
    | .nilS=>match t with
      | .sl s=>maskK ss st (n+1) fun st' l=>k (.val (.sl s) f []::st') l
      | _=>none
    | .nilP=>match t with
      | .opt s=>maskK ss st (n+1) fun st' l=>k (.val (.opt s) .i none::st') l
      | _=>none
    | _=>none
def maskO (S:Option (List Sh)) (st:St) (k:St→Option ρ):Option ρ:=match S with
  | some S=>maskK S st 0 fun st' l=>match l with
    | []=>k st'
    | l=>k (st'.map (V.dropL l))
  | none=>k st
def iter (S:Option (List Sh)) (f:St→(Ex→St→Option ρ)→Option ρ):Nat→St→(Ex→St→Option ρ)→Option ρ
  | 0,_,_=>none
  | n+1,st,k=>f st fun e st2=>match e with
    | .normal=>maskO S st2 fun st3=>iter S f n st3 k
    | .exit i=>k (.exit i) st2
    | .ret=>k .ret st2
def rid:Code→Nat
  | .region i _ _=>i
  | .seq a b=>min (rid a) (rid b)
  | .cond _ a b=>min (rid a) (rid b)
  | .block _ c=>rid c
  | .loop c=>rid c
  | _=>1000000000
def looks (all:List Oper) (o:Oper):List Nat :=
  (o.op.operands.toList.filterMap fun | .tmp t=>some t|_=>none)++(match o.guard with|some (j,_)=>(dstOf all j).toList|none=>[])
def cleanOp (A:Cfg) (o:Oper):Bool:=match o.op with
  | .move _ | .pick .. | .load .. | .binOp .. | .unOp .. | .indexAddr .. | .fieldAddr .. | .nilCheck _ | .slice .. | .index .. | .alloc _ | .makeSlice .. | .convert .. | .makeFunc .. | .lookup .. => true
  | .buildSlice T _ _=>match A.elem T with
    | some (t,_)=>t.flat
    | none=>true
  | .call c=>match c.callee with
    | .builtin .len=>true
    | .value (.tmp _)=>true
    | .value (.func f)=>match A.sig f with
      | some S=>closed S.r S.rf && !S.md.any (· != 0)
      | none=>true
    | _=>false
  | _=>false
def okV (PV:List Nat) (st:St) (x:Operand):Bool:=(opd st x).noRef||(match x with
  | .tmp q=>PV.contains q&&(st.get q).isOwner
  | _=>false)
def V.isWhole:V→Bool
  | .ref _ [] .val=>true
  | _=>false
def isCons (o:Oper):Bool:=match o.op with
  | .box _ _=>true
  | .buildSlice .. => true
  | .build .. => true
  | .assign _=>true
  | .call c=>match c.callee with
    | .builtin .append=>true
    | _=>false
  | _=>false
def okS (A:Cfg) (PV:List Nat) (o:Oper) (st:St):Bool:=cleanOp A o||match o.op with
  | .assign x=>(!(opd st x).isWhole||okV PV st x)&&o.dst.isSome
  | .extract x _=>(opd st x).noRef
  | .box _ x=>okV PV st x
  | .buildSlice _ _ ps=>ps.toList.all fun p=>okV PV st p.2
  | .build _ ps=>ps.toList.all fun p=>okV PV st p.2
  | .call c=>match c.callee with
    | .value (.func f)=>match A.sig f with
      | some S => !S.md.any (· != 0)&&(closed S.r S.rf||c.args.toList.all fun x=>(opd st x).noRef)
      | none=>false
    | .builtin .append=>c.args.toList.all fun x=>okV PV st x
    | _=>false
  | _=>false
def moveS (st:St) (x:V) (d:Option Nat) (k:St→Option ρ):Option ρ:=consume st x fun st' t f y=>k (St.putO st' d (.val t f y))
def isAsg (o:Oper):Option Operand:=match o.op with
  | .assign x=>some x
  | _=>none
def stepF (A:Cfg) (o:Oper) (st:St) (k:St→Option ρ):Option ρ:=match isAsg o with
  | some x=>if(opd st x).isWhole then moveS st (opd st x) o.dst k else step A o st k
  | none=>match isWin A o st with
    | some (s,n)=>stepW o st s n k
    | none=>step A o st k
def stepS (A:Cfg) (PV:List Nat) (o:Oper) (st:St) (k:St→Option ρ):Option ρ:=if okS A PV o st then stepF A o st k else none
def stepGF (F:St→(St→Option ρ)→Option ρ) (all:List Oper) (o:Oper) (st:St) (k:St→Option ρ):Option ρ:=match o.guard with
  | none=>F st k
  | some (j,want)=>match dstOf all j with
    | none=>none
    | some d=>match st.get d with
      | .val .bool f b=>cond b
          (if want then F (st.set d (.val .bool f true)) k else k (St.putO (st.set d (.val .bool f true)) o.dst uV))
          (if want then k (St.putO (st.set d (.val .bool f false)) o.dst uV) else F (st.set d (.val .bool f false)) k)
      | .val (.tup _) _ _=>k (st.putO o.dst uV)
      | _=>none
def stepGS (A:Cfg) (PV:List Nat) (all:List Oper) (o:Oper) (st:St) (k:St→Option ρ):Option ρ:=match o.guard with
  | none=>stepS A PV o st k
  | some (j,want)=>match dstOf all j with
    | none=>none
    | some d=>match st.get d with
      | .val .bool f b=>cond b
          (if want then stepS A PV o (st.set d (.val .bool f true)) k else k (St.putO (st.set d (.val .bool f true)) o.dst uV))
          (if want then k (St.putO (st.set d (.val .bool f false)) o.dst uV) else stepS A PV o (st.set d (.val .bool f false)) k)
      | .val (.tup _) _ _=>k (st.putO o.dst uV)
      | _=>none
def aftL (all:List Oper) (i:Nat):List Nat:=match all[i]? with
  | some o=>o.after.toList.filterMap fun e=>if Region.binds .any e then some e.on else none
  | none=>[]
def topo (all:List Oper):Nat→List Nat→List Nat→List Nat
  | 0,_,_=>[]
  | n+1,rem,done=>match rem.find? fun i=>(aftL all i).all fun e=>done.contains e with
    | none=>[]
    | some i=>i::topo all n (rem.filter (· != i)) (i::done)
def tabOf:List (Nat×List Nat)→Nat→List Nat
  | [],_=>[]
  | (j,l)::t,i=>if i=j then l else tabOf t i
def ancTab (all:List Oper):List Nat→List (Nat×List Nat)→List (Nat×List Nat)
  | [],t=>t
  | i::is,t=>ancTab all is ((i,(aftL all i++((aftL all i).map (tabOf t)).flatten).eraseDups)::t)
def dstB (x y:Oper):Bool:=match x.dst with
  | some d=>y.dst != some d
  | none=>true
def apartB (all:List Oper) (x y:Oper):Bool :=
  (match x.dst with
   | some d => !(looks all y).contains d
   | none=>true) &&
  (match y.dst with
   | some d => !(looks all x).contains d
   | none=>true)
def oneM (S:Sig):Bool:=match S.m,S.mf with
  | .pair _ .unit,[f]=>decide (f ≠ .i)
  | _,_=>false
def conB (S:Sig):Bool:=match S.m with
  | .pair t .unit=>decide (t = .any 1)
  | _=>false
def wrSig (A:Cfg) (o:Oper):Option (Sig×List Operand):=match o.op with
  | .call c=>match c.callee with
    | .value (.func f)=>match A.sig f with
      | some S=>if S.md.any (· != 0)&&oneM S&&o.guard.isNone then some (S,c.args.toList) else none
      | none=>none
    | _=>none
  | _=>none
def privB (A:Cfg) (all:List Oper) (PV:List Nat) (o:Oper):Bool:=PV.isEmpty||(isCons o && !cleanOp A o)||PV.all fun q => !(looks all o).contains q
def isSto (o:Oper):Bool:=match o.op with
  | .store _ _ _=>o.guard.isNone
  | _=>false
def isWrO (A:Cfg) (o:Oper):Bool:=(wrSig A o).isSome||isSto o
def privB2 (A:Cfg) (all:List Oper) (PV:List Nat) (o:Oper):Bool:=isWrO A o||privB A all PV o
def pairOk (all:List Oper) (t:List (Nat×List Nat)) (fr PV:List Nat) (i j:Nat):Bool:=match all[i]?,all[j]? with
  | some x,some y=>(i != j) && !(aftL all i).contains j&&(dstB x y || !(fr.contains i&&fr.contains j)) &&
    ((tabOf t j).contains i||(fr.contains i&&fr.contains j&&apartB all x y&&PV.all fun q => !((looks all x).contains q&&(looks all y).contains q)))
  | _,_=>false
def pairsOk (all:List Oper) (t:List (Nat×List Nat)) (fr PV:List Nat):List Nat→Bool
  | []=>true
  | i::is=>is.all (pairOk all t fr PV i)&&pairsOk all t fr PV is
def orderOk (A:Cfg) (all:List Oper) (ord:List Nat) (t:List (Nat×List Nat)) (fr PV:List Nat):Bool :=
  decide (ord.length≤all.length)&&ord.all (·<all.length)&&(List.range all.length).all (fun i=>ord.contains i&&(aftL all i).all (fun e=>(e<all.length)&&(e != i))&&(tabOf t i).all fun x=>(aftL all i).contains x||(aftL all i).any fun e=>(tabOf t e).contains x)&&pairsOk all t fr PV ord&&all.all (privB2 A all PV)
def freeOf (t:List (Nat×List Nat)):List Nat→List Nat→List Nat
  | _,[]=>[]
  | pre,i::is=>if(pre.all fun j=>(tabOf t i).contains j)&&(is.all fun j=>(tabOf t j).contains i) then freeOf t (i::pre) is else i::freeOf t (i::pre) is
def privCand (all:List Oper) (o:Oper):List Nat:=match o.op with
  | .store _ _ (.tmp q)=>[q]
  | .store _ _ _=>[]
  | _=>looks all o
def privsOf (A:Cfg) (all:List Oper) (fr:List Nat):List Nat :=
  (fr.map fun i=>match all[i]? with
    | some o=>if isWrO A o||(isCons o && !cleanOp A o) then(privCand all o).filter fun q=>all.all fun y=>((isWrO A y||(isCons y && !cleanOp A y))&&(y.dst==o.dst)) || !(looks all y).contains q else []
    | none=>[]).flatten
def fzN {β:Type}(n:Nat) (k:Nat→β):β:=match n with
  | 0=>k 0
  | m+1=>k (m+1)
def fzL {β:Type}:List Nat→(List Nat→β)→β
  | [],k=>k []
  | x::xs,k=>fzN x fun x'=>fzL xs fun xs'=>k (x'::xs')
def fzT {β:Type}:List (Nat×List Nat)→(List (Nat×List Nat)→β)→β
  | [],k=>k []
  | p::t,k=>fzN p.1 fun a=>fzL p.2 fun l=>fzT t fun t'=>k ((a,l)::t')
def fzP {β:Type}:List (Nat×Nat)→(List (Nat×Nat)→β)→β
  | [],k=>k []
  | p::t,k=>fzN p.1 fun a=>fzN p.2 fun b=>fzP t fun t'=>k ((a,b)::t')
def drawOrder (A:Cfg) (all:List Oper):Option (List Nat×List Nat×List Nat) :=
  fzL (topo all all.length (List.range all.length) []) fun ord=>fzT (ancTab all ord []) fun t=>fzL (freeOf t [] ord) fun fr=>fzL (privsOf A all fr) fun PV =>
    if orderOk A all ord t fr PV then some (ord,fr,PV) else none
def freeD (all:List Oper) (fr PV:List Nat) (is:List Nat) (st:St):Bool:=(is.all fun i=>match all[i]? with
  | some o => !fr.contains i||(match o.dst with|some d => !(st.get d).isOwner|none=>true)
  | none=>false)&&PV.all fun q=>st.all fun v => !v.namesB q
def isExt (o:Oper):Bool:=match o.op with
  | .extract .. => true
  | _=>false
def frzD (all:List Oper) (fr:List Nat) (o:Oper) (st:St):St :=
  if fr.any fun i=>(match all[i]? with|some o'=>isExt o'|none=>false) then(match o.dst with
    | some d=>(match st.get d with | .val (.tup _) _ _=>freeze st d|_=>st)
    | none=>st) else st
structure Wr where
  ws:List Nat
  sl:Nat→Nat
  sr:Nat→List Nat
  cs:List Nat
def mutW:List Nat→List V→Option Nat
  | 1::ms,.ref s [] .val::vs=>if ms.any (· != 0)||ms.length != vs.length then none else some s
  | 0::ms,_::vs=>mutW ms vs
  | _,_=>none
def mutArg:List Nat→List Operand→Option Operand
  | 1::_,o::_=>some o
  | _::ms,_::os=>mutArg ms os
  | _,_=>none
def readsOk (PV:List Nat) (st:St):List Nat→List Operand→Bool
  | 0::ms,x::xs=>okV PV st x&&readsOk PV st ms xs
  | _::ms,_::xs=>readsOk PV st ms xs
  | _,_=>true
def okW (A:Cfg) (PV:List Nat) (s:Nat) (c:Bool) (o:Oper) (st:St):Bool:=match wrSig A o with
  | some (S,xs)=>(!conB S||c)&&mutW S.md (xs.map (opd st))==some s&&((closed S.r S.rf&&mutClosed S.m S.mf)||readsOk PV st S.md xs)
  | none=>match o.op with
    | .store _ a v=>o.guard.isNone&&okV PV st v&&o.dst.isNone&&(match asAddr st (opd st a) with
      | some (q,_)=>decide (q=s)
      | none=>false)
    | _=>false
def stepWr (A:Cfg) (PV:List Nat) (s:Nat) (c:Bool) (o:Oper) (st:St) (k:St→Option ρ):Option ρ:=if okW A PV s c o st then step A o st k else none
def wrRoot (all:List Oper) (st:St):Nat→Operand→Option Nat
  | 0,_=>none
  | n+1,.tmp t=>match all.find? (fun o=>o.dst==some t) with
    | some o=>(match o.op with
      | .move y=>wrRoot all st n y
      | .load _ y=>wrRoot all st n y
      | .fieldAddr _ y _=>wrRoot all st n y
      | .indexAddr _ y _=>wrRoot all st n y
      | .assign _=>(match opd st (.tmp t) with
        | .ref s _ _=>some s
        | _=>none)
      | _=>none)
    | none=>match opd st (.tmp t) with
      | .ref s _ _=>some s
      | _=>none
  | _,_=>none
def wrSlot (A:Cfg) (all:List Oper) (st:St) (o:Oper):Option Nat:=match wrSig A o with
  | some (S,xs)=>(mutArg S.md xs).bind (wrRoot all st 20)
  | none=>if isSto o then(match o.op with
    | .store _ a _=>wrRoot all st 20 a
    | _=>none) else none
def wrClose (all:List Oper) (ws:List Nat):List Nat→List Nat→List Nat
  | [],sr=>sr
  | i::is,sr=>wrClose all ws is (match all[i]? with
    | some o=>(match o.op,o.dst with
      | .assign (.tmp t),some d=>if sr.contains d then [t] else []
      | _,_=>[])++if !ws.contains i&&(looks all o).any (fun t=>sr.contains t) then(match o.dst with|some d=>d::sr|none=>sr) else sr
    | none=>sr)
def namesAt (s:Nat):St→Nat→List Nat
  | [],_=>[]
  | v::st,n=>if v.namesB s then n::namesAt s st (n+1) else namesAt s st (n+1)
def lookN:List (Nat×Nat)→Nat→Nat
  | [],_=>0
  | (a,b)::l,i=>if a=i then b else lookN l i
def wrInfo {β:Type}(A:Cfg) (all:List Oper) (ord fr:List Nat) (st:St) (k:Wr→β):β :=
  fzP (fr.filterMap fun i=>((all[i]?).bind (wrSlot A all st)).map fun s=>(i,s)) fun ps=>fzL (ps.map (·.1)) fun ws =>
    fzT ((ps.map (·.2)).eraseDups.map fun s=>(s,wrClose all ws ord (s::namesAt s st 0))) fun tb =>
    fzL (fr.filter fun i=>match (all[i]?).bind (wrSig A) with|some p=>conB p.1|none=>false) fun cs=>k ⟨ws,lookN ps,tabOf tb,cs⟩
def srOk (W:Wr) (st:St):Bool:=W.ws.all fun i=>(namesAt (W.sl i) st 0).all fun j=>(W.sr (W.sl i)).contains j
def isMv (s:Nat) (o:Oper):Bool:=match o.op with
  | .move (.tmp t)=>decide (t=s)&&o.guard.isNone
  | _=>false
def wrBy (all:List Oper) (W:Wr) (i:Nat) (y:Oper):Bool:=(isMv (W.sl i) y && !W.cs.contains i)||(looks all y).all fun q => !(W.sr (W.sl i)).contains q
def wrPair (all:List Oper) (t:List (Nat×List Nat)) (W:Wr) (i j:Nat):Bool:=match all[i]?,all[j]? with
  | some x,some y=>((!W.ws.contains i||wrBy all W i y)&&(!W.ws.contains j||wrBy all W j x))||(tabOf t j).contains i
  | _,_=>false
def wrPairs (all:List Oper) (t:List (Nat×List Nat)) (W:Wr):List Nat→Bool
  | []=>true
  | i::is=>is.all (wrPair all t W i)&&wrPairs all t W is
def wrKeep (all:List Oper) (W:Wr) (s:Nat):List Oper→Nat→Bool
  | [],_=>true
  | o::os,i=>(W.ws.contains i||(looks all o).all (fun q => !(W.sr s).contains q)||(match o.dst with|some d=>(W.sr s).contains d|none=>true))&&wrKeep all W s os (i+1)
def wrStat (all:List Oper) (t:List (Nat×List Nat)) (PV ord:List Nat) (W:Wr):Bool :=
  W.ws.all (fun i=>(W.sr (W.sl i)).contains (W.sl i) && !PV.contains (W.sl i)&&wrKeep all W (W.sl i) all 0)&&wrPairs all t W ord
def stepU (A:Cfg) (PV:List Nat) (W:Wr) (all:List Oper) (i:Nat) (o:Oper) (st:St) (k:St→Option ρ):Option ρ:=if W.ws.contains i then stepWr A PV (W.sl i) (W.cs.contains i) o st k else stepGS A PV all o st k
def runD (A:Cfg) (all:List Oper) (fr PV:List Nat) (W:Wr):List Nat→St→(St→Option ρ)→Option ρ
  | [],st,k=>k st
  | i::is,st,k=>match all[i]? with
    | none=>none
    | some o=>if fr.contains i then stepU A PV W all i o st fun st'=>runD A all fr PV W is st' k
      else stepG A all o st fun st'=>if freeD all fr PV is (frzD all fr o st')&&srOk W (frzD all fr o st') then runD A all fr PV W is (frzD all fr o st') k else none
def runDraw (A:Cfg) (all:List Oper) (st:St) (k:St→Option ρ):Option ρ:=match drawOrder A all with
  | some (ord,fr,PV)=>fzT (ancTab all ord []) fun t=>wrInfo A all ord fr st fun W=>if wrStat all t PV ord W then if freeD all fr PV ord st&&srOk W st then runD A all fr PV W ord st k else none else none
  | none=>none
def pureX (o:Oper):Bool:=match o.op with
  | .extract _ _=>o.guard.isNone
  | _=>false
def tailOk (all:List Oper) (t:List (Nat×List Nat)):List Nat→Bool
  | []=>true
  | i::is=>(match all[i]? with
    | some x=>(pureX x&&is.all fun j=>match all[j]? with
        | some y=>(aftL all j).contains i||(dstB x y&&apartB all x y)
        | none=>false)||is.all fun j=>(tabOf t j).contains i
    | none=>false)&&(is.all fun j => !(aftL all i).contains j) && !is.contains i&&tailOk all t is
def runT (A:Cfg) (all:List Oper):List Nat→St→(St→Option ρ)→Option ρ
  | [],st,k=>k st
  | i::is,st,k=>match all[i]? with
    | none=>none
    | some o=>if pureX o then step A o st fun st'=>runT A all is st' k else stepG A all o st fun st'=>runT A all is st' k
def noSel (o:Oper):Bool:=match o.op with
  | .select _ _=>false
  | _=>true
def orderX (A:Cfg) (all:List Oper) (ord T:List Nat) (t:List (Nat×List Nat)) (fr PV:List Nat):Bool :=
  decide ((ord++T).length≤all.length)&&(ord++T).all (·<all.length)&&(List.range all.length).all (fun i=>(ord++T).contains i&&(aftL all i).all (fun e=>(e<all.length)&&(e != i))&&(tabOf t i).all fun x=>(aftL all i).contains x||(aftL all i).any fun e=>(tabOf t e).contains x)&&pairsOk all t fr PV ord&&all.all (privB2 A all PV) &&
    (ord.all fun i=>(T.all fun j=>(tabOf t j).contains i && !(aftL all i).contains j && !(tabOf t i).contains j) && !T.contains i)&&tailOk all t T&&all.all noSel
def isX (all:List Oper) (i:Nat):Bool:=match all[i]? with
  | some o=>isExt o
  | none=>false
def runDrawX (A:Cfg) (all:List Oper) (st:St) (k:St→Option ρ):Option ρ :=
  fzL (topo all all.length (List.range all.length) []) fun o0=>fzT (ancTab all o0 []) fun t=>fzL (o0.takeWhile fun i => !isX all i) fun ord=>fzL (o0.dropWhile fun i => !isX all i) fun T=>fzL (freeOf t [] ord) fun fr=>fzL (privsOf A all fr) fun PV =>
    if orderX A all ord T t fr PV then wrInfo A all ord fr st fun W=>if wrStat all t PV ord W then if freeD all fr PV ord st&&srOk W st then runD A all fr PV W ord st fun st'=>runT A all T st' k else none else none else none
def blockK (i:Nat) (k:Ex→St→Option ρ) (e:Ex) (st:St):Option ρ:=match e with
  | .exit j=>if j=i then k .normal st else k (.exit j) st
  | .normal=>k .normal st
  | .ret=>k .ret st
abbrev gate:Bool→Nat→Option ρ→Option ρ
  | true,0,_=>none
  | _,_,x=>x
abbrev gated (g:Bool) (n:Nat) (f:St→(Ex→St→Option ρ)→Option ρ) (st:St) (k:Ex→St→Option ρ):Option ρ:=gate g n (f st k)
def seqK (S:Option (List Sh)) (f:St→(Ex→St→Option ρ)→Option ρ) (k:Ex→St→Option ρ) (e:Ex) (st:St):Option ρ:=match e with
  | .normal=>maskO S st fun st'=>f st' k
  | .exit i=>k (.exit i) st
  | .ret=>k .ret st
def run (A:Cfg) (n:Nat):Code→St→(Ex→St→Option ρ)→Option ρ
  | .skip,st,k=>k .normal st
  | .region i ops d,st,k=>match A.hook i with
    | some h=>h.run st fun st'=>k .normal st'
    | none=>if d then(if(A.shape (2000000+i)).isSome then runDrawX A ops.toList st fun st'=>k .normal st' else runDraw A ops.toList st fun st'=>k .normal st') else runOps A ops.toList ops.toList st fun st'=>k .normal st'
  | .seq a b,st,k=>match A.hook (3000000+rid a) with
    | some h=>h.run st fun st'=>k .normal st'
    | none=>run A n a st (seqK (A.shape (2*rid b+1)) (gated (A.shape (500000+rid b)).isSome n (run A n b)) k)
  | .cond c a b,st,k=>match opd st c with
    | .val .bool _ t=>cond t (maskO (A.shape (1000000+rid a)) st fun st'=>run A n a st' k) (run A n b st k)
    | _=>none
  | .block i c,st,k=>run A n c st (blockK i k)
  | .loop c,st,k=>match A.shape (5000000+rid c) with
    | some _=>iter (A.shape (2*rid c)) (run A n c) (n+1) st k
    | none=>maskO (A.shape (2*rid c)) st fun st'=>iter (A.shape (2*rid c)) (run A n c) n st' k
  | .exit i,st,k=>k (.exit i) st
  | .ret,st,k=>k .ret st
  | _,_,_=>none
def keepsB (fx:List Nat):Code→Bool
  | .skip=>true
  | .region _ ops _=>ops.toList.all fun o=>match o.dst with|some d => !fx.contains d|none=>true
  | .seq a b=>keepsB fx a&&keepsB fx b
  | .cond _ a b=>keepsB fx a&&keepsB fx b
  | .block _ c=>keepsB fx c
  | .loop c=>keepsB fx c
  | .exit _=>true
  | .ret=>true
  | _=>false
def mutIdx:Nat→List Nat→List Nat
  | _,[]=>[]
  | i,m::ms=>if m=0 then mutIdx (i+1) ms else i::mutIdx (i+1) ms
def initV:(a:Ty)→a.den→List Nat→List Fl→List V
  | .pair t b,x,0::ms,fs => .val t .i x.1::initV b x.2 ms fs
  | .pair t b,x,1::ms,f::fs => .val t f x.1::initV b x.2 ms fs
  | _,_,_,_=>[]
def initSt (S:Sig) (x:S.a.den) (n:Nat):St:=initV S.a x S.md S.mf++List.replicate (n-S.md.length) .u
def resOne (st:St) (v:V) (a:Ty) (g:Fl) (k:St→a.den→Option ρ):Option ρ:=match v with
  | .nilS=>emptyOf a (k st)
  | .nilP=>noneOf a (k st)
  | v=>consume st v fun st' s f x=>if a.isTup then none else coerceTy s f x a g fun y=>k st' y
def resK (A:Cfg):St→List ResultVar→(r:Ty)→Fl→(St→r.den→Option ρ)→Option ρ
  | st,[],.unit,_,k=>k st ()
  | st,.tmp t::rs,.pair a b,g,k=>resOne st (opd st (.tmp t)) a g.l fun st' x=>resK A st' rs b g.r fun st'' y=>k st'' (x,y)
  | st,.cell s T::rs,.pair a b,g,k=>match A.ty T,st.get s with
    | some (t',_),.val (.ptr t) (.o f) x=>if t'=t && !t.isTup && !a.isTup then coerceTy t f x a g.l fun y=>resK A ((dropRefs s st).set s .u) rs b g.r fun st'' z=>k st'' (y,z) else none
    | _,_=>none
  | _,_,_,_,_=>none
def mutsK (st:St):Nat→List Nat→List Fl→(m:Ty)→(m.den→Option ρ)→Option ρ
  | _,[],_,.unit,k=>k ()
  | i,1::ms,f::fs,.pair t b,k=>if ha:Ty.any 1=t then mutsK st (i+1) ms fs b fun y=>k (cast (congrArg Ty.den ha) (),y) else match st.get i with
    | .val s g x=>if okMut t then if h:s=t then if g=f then mutsK st (i+1) ms fs b fun y=>k (cast (congrArg Ty.den h) x,y) else none else none else none
    | _=>none
  | i,0::ms,fs,m,k=>mutsK st (i+1) ms fs m k
  | _,_,_,_,_=>none
def finR (A:Cfg) (md:List Nat) (mf:List Fl) (m:Ty) (rf:Fl) (rs:List ResultVar) (st:St):(r:Ty)→Option (r.den×m.den)
  | .tup r=>if rs.length=1 then none else resK A st rs r rf fun st' x=>mutsK st' 0 md mf m fun y=>some (x,y)
  | r=>match rs with
    | [_]=>resK A st rs (.pair r .unit) (.p rf .i) fun st' x=>mutsK st' 0 md mf m fun y=>some (x.1,y)
    | _=>none
def finish (A:Cfg) (S:Sig) (rs:List ResultVar) (e:Ex) (st:St):Option (S.r.den×S.m.den):=match e with
  | .exit _=>none
  | _=>finR A S.md S.mf S.m S.rf rs st S.r
def runF (A:Cfg) (n:Nat) (fn:Func) (S:Sig) (x:S.a.den):Option (S.r.den×S.m.den):=match fn.body with
  | some c=>if keepsB (mutIdx 0 S.md) c then run A n c (initSt S x fn.ntmps) (finish A S fn.results.toList) else none
  | none=>none
end
end Go.Gx
