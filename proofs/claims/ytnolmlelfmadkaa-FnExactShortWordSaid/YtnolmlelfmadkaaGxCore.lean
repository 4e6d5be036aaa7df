import Derived.WalkKit
namespace Go.Gx
open Go
inductive Ty where
 | int (k:IntKind)|bool|str|unit
 | any (n:Nat)
 | sl (t:Ty)
 | ptr (t:Ty)
 | opt (t:Ty)
 | pair (a b:Ty)
 | tup (t:Ty)
 | clo (fid nf:Nat) (t:Ty)
 | ns (t:Ty)
 | map (k v:Ty)
 deriving DecidableEq
inductive Fl where
 | i
 | o (f:Fl)
 | p (a b:Fl)
 deriving DecidableEq
@[reducible] def Ty.den:Ty→Type
 | .int _=>Int | .bool=>Bool | .str=>List UInt8 | .unit=>Unit | .any _=>Unit
 | .sl t=>List t.den | .ptr t=>t.den | .opt t=>Option t.den | .pair a b=>a.den×b.den | .tup t=>t.den | .clo _ _ t=>t.den | .ns t=>Option (List t.den) | .map k v=>List (k.den×v.den)
def Ty.cells:Ty→Nat
 | .unit=>0 | .pair a b=>a.cells+b.cells | .any n=>n|_=>1
def Fl.l:Fl→Fl | .p a _=>a|_ => .i
def Fl.r:Fl→Fl | .p _ b=>b|_ => .i
def Fl.inn:Fl→Fl | .o f=>f|_ => .i
def Fl.isO:Fl→Bool | .o _=>true|_=>false
def Fl.mkP:Fl→Fl→Fl | .i,.i => .i|a,b => .p a b
def closed:Ty→Fl→Bool
 | .sl t,f=>f.isO&&closed t f.inn
 | .ptr t,f=>f.isO&&closed t f.inn
 | .opt t,f=>f.isO&&closed t f.inn
 | .map _ _,f=>f.isO
 | .pair a b,f=>closed a f.l&&closed b f.r
 | .tup t,f=>closed t f
 | .clo _ _ _,_=>false
 | .ns t,f=>f.isO&&closed t f.inn
 | _,_=>true
def Fl.le:Fl→Fl→Bool
 | _,.i=>true
 | .o f,.o g=>f.le g
 | .p a b,.p c d=>a.le c&&b.le d
 | _,_=>false
inductive Stp where
 | idx (i:Nat)|fst|snd|deref
 deriving DecidableEq
inductive RK where
 | val|addr
 deriving DecidableEq
inductive V where
 | u
 | val (t:Ty) (f:Fl) (x:t.den)
 | ref (s:Nat) (p:List Stp) (k:RK)
 | win (s:Nat) (lo hi:Nat) (tight:Bool)
 | nilS
 | nilP
abbrev St:=List V
def neL {α:Type}:List α→Option (List α)
 | []=>none
 | x::xs=>some (x::xs)
def V.isOwner:V→Bool
 | .val _ .i _=>false
 | .val _ _ _=>true
 | _=>false
def V.drop (s:Nat):V→V
 | .ref r p k=>if r=s then .u else .ref r p k
 | .win r a b t=>if r=s then .u else .win r a b t
 | .val t f x => .val t f x | .u => .u | .nilS => .nilS | .nilP => .nilP
def V.dropIn (s:Nat):V→V
 | .ref r p k=>if r=s then(match p,k with|[],.val => .ref r [] .val|_,_ => .u) else .ref r p k
 | .win r a b t=>if r=s then .u else .win r a b t
 | .val t f x => .val t f x | .u => .u | .nilS => .nilS | .nilP => .nilP
def V.rename (s d:Nat):V→V
 | .ref r p k=>if r=s then .ref d p k else .ref r p k
 | .win r a b t=>if r=s then .win d a b t else .win r a b t
 | .val t f x => .val t f x | .u => .u | .nilS => .nilS | .nilP => .nilP
def dropRefs (s:Nat) (st:St):St:=st.map (V.drop s)
def dropInner (s:Nat) (st:St):St:=st.map (V.dropIn s)
def moveRefs (s d:Nat) (st:St):St:=st.map (V.rename s d)
def St.get (st:St) (i:Nat):V:=st.getD i .u
def St.put (st:St) (d:Nat) (v:V):St :=
 if(st.get d).isOwner then(dropRefs d st).set d (v.drop d) else st.set d v
def St.putO (st:St) (d:Option Nat) (v:V):St:=match d with
 | some d=>st.put d v
 | none=>st
section
variable {ρ:Type}
def getP:(t:Ty)→Fl→t.den→List Stp→((t:Ty)→Fl→t.den→Option ρ)→Option ρ
 | t,f,x,[],k=>k t f x
 | .sl t,f,xs,.idx i::p,k=>(xs[i]?).bind fun x=>getP t f.inn x p k
 | .pair a _,f,x,.fst::p,k=>getP a f.l x.1 p k
 | .pair _ b,f,x,.snd::p,k=>getP b f.r x.2 p k
 | .ptr t,f,x,.deref::p,k=>getP t f.inn x p k
 | _,_,_,_::_,_=>none
def setP:(t:Ty)→Fl→t.den→List Stp→(t':Ty)→Fl→t'.den→((t:Ty)→Fl→t.den→Option ρ)→Option ρ
 | t,_,_,[],t',f',y,k=>if t'.cells=t.cells then k t' f' y else none
 | .sl t,.o f,xs,.idx i::p,t',f',y,k=>(xs[i]?).bind fun x=>setP t f x p t' f' y fun t'' f'' z=>if h:t''=t then if f''=f then k (.sl t) (.o f) (xs.set i (cast (congrArg Ty.den h) z)) else none else none
 | .pair a b,f,x,.fst::p,t',f',y,k=>setP a f.l x.1 p t' f' y fun a' g z=>k (.pair a' b) (Fl.mkP g f.r) (z,x.2)
 | .pair a b,f,x,.snd::p,t',f',y,k=>setP b f.r x.2 p t' f' y fun b' g z=>k (.pair a b') (Fl.mkP f.l g) (x.1,z)
 | .ptr t,.o f,x,.deref::p,t',f',y,k=>setP t f x p t' f' y fun t'' g z=>k (.ptr t'') (.o g) z
 | _,_,_,_::_,_,_,_,_=>none
def coerceTy:(s:Ty)→Fl→s.den→(t:Ty)→Fl→(t.den→Option ρ)→Option ρ
 | .ptr s,f,x,.opt t,g,k=>if h:s=t then if f.le g then k (some (cast (congrArg Ty.den h) x)) else none else none
 | .sl s,f,x,.ns t,g,k=>if h:s=t then if f.le g then(neL x).bind fun y=>k (some (cast (congrArg (fun t=>List (Ty.den t)) h) y)) else none else none
 | .ns s,_,x,.sl t,.i,k=>if h:s=t then k (cast (congrArg (fun t=>List (Ty.den t)) h) (Option.getD x [])) else none
 | .ns s,f,x,.sl t,.o g,k=>if h:s=t then if f.le (.o g) then k (cast (congrArg (fun t=>List (Ty.den t)) h) (Option.getD x [])) else none else none
 | .pair a b,f,x,.pair c d,g,k=>coerceTy a f.l x.1 c g.l fun y=>coerceTy b f.r x.2 d g.r fun z=>k (y,z)
 | s,f,x,t,g,k=>if h:s=t then if f.le g then k (cast (congrArg Ty.den h) x) else none else none
end
structure Sig where
 a:Ty
 md:List Nat
 mf:List Fl
 m:Ty
 r:Ty
 rf:Fl
 f:a.den→Option (r.den×m.den)
end Go.Gx
