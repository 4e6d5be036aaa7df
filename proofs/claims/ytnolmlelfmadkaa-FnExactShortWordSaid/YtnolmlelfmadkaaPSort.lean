import Derived.Test.YtnolmlelfmadkaaPLib
set_option linter.unusedVariables false
set_option linter.unusedSimpArgs false
namespace Go.Gx
def cmpL:List Int→List Int→Int
 | [],[]=>0
 | [],_::_ => -1
 | _::_,[]=>1
 | x::xs,y::ys=>if x=y then cmpL xs ys else if x<y then -1 else 1
def cmpT (xs ys:List Int):Int:=if xs.length<ys.length then -1 else if ys.length<xs.length then 1 else cmpL xs ys
def bcFrom:Nat→List Int→Int
 | _,[]=>0
 | i,x::xs=>(if x=(i:Int) then 1 else 0)+bcFrom (i+1) xs
def cmpC (xs ys:List Int):Int:=if bcFrom 0 ys-bcFrom 0 xs=0 then cmpL xs ys else bcFrom 0 ys-bcFrom 0 xs
structure CmpOk (c:List Int→List Int→Int):Prop where
 neg:∀x y,c y x = - c x y
 eq:∀x y,c x y=0→x=y
 tr:∀x y z,c x y<0→c y z<0→c x z<0
theorem cmpL_ok:CmpOk cmpL where
 neg:=fun x=>by
  induction x with
  | nil=>intro y;cases y<;>simp[cmpL]
  | cons a x ih =>
   intro y
   cases y with
   | nil=>simp[cmpL]
   | cons b y =>
    simp only[cmpL]
    by_cases h:a=b
    ·subst h;simp[ih]
    ·rw[if_neg h,if_neg (fun e=>h e.symm)]
     by_cases h2:a<b
     ·rw[if_pos h2,if_neg (by omega)];rfl
     ·rw[if_neg h2,if_pos (by omega)]
 eq:=fun x=>by
  induction x with
  | nil=>intro y h;cases y<;>simp[cmpL]at h ⊢
  | cons a x ih =>
   intro y h
   cases y with
   | nil=>simp[cmpL]at h
   | cons b y =>
    simp only[cmpL]at h
    by_cases e:a=b
    ·rw[if_pos e]at h;rw[e,ih y h]
    ·rw[if_neg e]at h;split at h<;>simp at h
 tr:=fun x=>by
  induction x with
  | nil=>intro y z h1 h2;cases y<;>cases z<;>simp[cmpL]at h1 h2 ⊢
  | cons a x ih =>
   intro y z h1 h2
   cases y with
   | nil=>simp[cmpL]at h1
   | cons b y =>
    cases z with
    | nil=>simp[cmpL]at h2
    | cons c z =>
     simp only[cmpL]at h1 h2 ⊢
     by_cases e1:a=b
     ·subst e1
      rw[if_pos rfl]at h1
      by_cases e2:a=c
      ·subst e2;rw[if_pos rfl]at h2 ⊢;exact ih _ _ h1 h2
      ·rw[if_neg e2]at h2 ⊢;exact h2
     ·rw[if_neg e1]at h1
      split at h1
      case isFalse=>omega
      rename_i l1
      by_cases e2:b=c
      ·subst e2;rw[if_neg e1,if_pos l1];omega
      ·rw[if_neg e2]at h2
       split at h2
       case isFalse=>omega
       rename_i l2
       rw[if_neg (by omega),if_pos (by omega)];omega
theorem jx:CmpOk cmpT where
 neg:=fun x y=>by
  unfold cmpT
  by_cases h1:x.length<y.length
  ·rw[if_pos h1,if_neg (by omega),if_pos h1];rfl
  ·by_cases h2:y.length<x.length
   ·simp only[if_neg h1,if_pos h2]
   ·rw[if_neg h1,if_neg h2,if_neg h2,if_neg h1];exact cmpL_ok.neg x y
 eq:=fun x y h=>by
  unfold cmpT at h
  split at h
  ·omega
  ·split at h
   ·omega
   ·exact cmpL_ok.eq x y h
 tr:=fun x y z h1 h2=>by
  unfold cmpT at h1 h2 ⊢
  split at h1<;>split at h2
  ·rw[if_pos (by omega)];omega
  ·split at h2
   ·omega
   ·rw[if_pos (by omega)];omega
  ·split at h1
   ·omega
   ·rw[if_pos (by omega)];omega
  ·split at h1
   ·omega
   ·split at h2
    ·omega
    ·rw[if_neg (by omega),if_neg (by omega)];exact cmpL_ok.tr x y z h1 h2
def ltOf (c:List Int→List Int→Int) (x y:List Int):Bool:=decide (c x y<0)
section
variable {c:List Int→List Int→Int}
theorem CmpOk.refl (h:CmpOk c) (x:List Int):c x x=0:=by have:=h.neg x x;omega
theorem jdr (h:CmpOk c) (x:List Int):ltOf c x x=false:=by simp[ltOf,h.refl]
theorem jgl (h:CmpOk c) (x y z:List Int) (h1:ltOf c x y=true) (h2:ltOf c y z=true):ltOf c x z=true:=by
 simp only[ltOf,decide_eq_true_eq]at *;exact h.tr _ _ _ h1 h2
theorem je1 (h:CmpOk c) (x y z:List Int) (h1:ltOf c x y=false) (h2:ltOf c y z=false):ltOf c x z=false:=by
 simp only[ltOf,decide_eq_false_iff_not]at *
 intro h3
 have n1:=h.neg x y
 have n2:=h.neg y z
 by_cases e1:c x y=0
 ·rw[h.eq _ _ e1]at h3;omega
 ·by_cases e2:c y z=0
  ·rw[←h.eq _ _ e2]at h3;omega
  ·have:=h.tr z y x (by omega) (by omega)
   have n3:=h.neg x z
   omega
theorem jfe (h:CmpOk c) (x y:List Int) (h1:ltOf c x y=false) (h2:ltOf c y x=false):x=y:=by
 simp only[ltOf,decide_eq_false_iff_not]at *
 have n1:=h.neg x y
 exact h.eq _ _ (by omega)
def insBy (c:List Int→List Int→Int) (x:List Int):List (List Int)→List (List Int)
 | []=>[x]
 | y::ys=>cond (ltOf c x y) (x::y::ys) (y::insBy c x ys)
def sortBy (c:List Int→List Int→Int) (l:List (List Int)):List (List Int):=l.foldl (fun acc x=>insBy c x acc) []
def SortedL (c:List Int→List Int→Int) (l:List (List Int)):Prop:=l.Pairwise fun x y=>ltOf c y x=false
theorem vu (x:List Int):∀l,(insBy c x l).Perm (x::l)
 | []=>List.Perm.refl _
 | y::ys=>by
  unfold insBy
  cases ltOf c x y with
  | true=>exact List.Perm.refl _
  | false=>exact((vu x ys).cons y).trans (List.Perm.swap x y ys)
theorem jag (h:CmpOk c) (x:List Int):∀l,SortedL c l→SortedL c (insBy c x l)
 | [],_=>List.pairwise_singleton _ _
 | y::ys,hs=>by
  have hs':=List.pairwise_cons.1 hs
  unfold insBy
  cases hx:ltOf c x y with
  | true =>
   refine List.pairwise_cons.2 ⟨fun z hz => ?_,hs⟩
   have hyx:ltOf c y x=false:=by
    cases h3:ltOf c y x with
    | false=>rfl
    | true=>have:=jgl h _ _ _ hx h3;rw[jdr h]at this;cases this
   rcases List.mem_cons.1 hz with rfl|hz
   ·exact hyx
   ·exact je1 h _ _ _ (hs'.1 z hz) hyx
  | false =>
   refine List.pairwise_cons.2 ⟨fun z hz => ?_,jag h x ys hs'.2⟩
   rcases List.mem_cons.1 ((vu x ys).mem_iff.1 hz) with rfl|hz
   ·exact hx
   ·exact hs'.1 z hz
theorem jc3 (h:CmpOk c):∀(l acc:List (List Int)),SortedL c acc→SortedL c (l.foldl (fun acc x=>insBy c x acc) acc)∧(l.foldl (fun acc x=>insBy c x acc) acc).Perm (l++acc)
 | [],acc,ha=>⟨ha,List.Perm.refl _⟩
 | x::l,acc,ha=>by
  obtain⟨h1,h2⟩:=jc3 h l _ (jag h x acc ha)
  refine⟨h1,h2.trans ?_⟩
  exact((vu x acc).append_left l).trans List.perm_middle
theorem ui (h:CmpOk c) (l:List (List Int)):SortedL c (sortBy c l):=(jc3 h l [] List.Pairwise.nil).1
theorem jac (h:CmpOk c) (l:List (List Int)):(sortBy c l).Perm l:=by have:=(jc3 h l [] List.Pairwise.nil).2;rwa [List.append_nil]at this
theorem jas (h:CmpOk c){l l':List (List Int)}(hp:l.Perm l') (h1:SortedL c l) (h2:SortedL c l'):l=l' :=
 List.Perm.eq_of_pairwise (le:=fun x y=>ltOf c y x=false) (fun a b _ _ h3 h4=>jfe h a b h4 h3) h1 h2 hp
theorem jbo (h:CmpOk c){l l':List (List Int)}(hp:l'.Perm l) (hs:SortedL c l'):l'=sortBy c l :=
 jas h (hp.trans (jac h l).symm) hs (ui h l)
end
def sortRowsV (c:List Int→List Int→Int) (rows:List (List Int)):Option (Unit×(List (List Int)×Unit)):=if rows.length≤4294967296 then some ((),(sortBy c rows,())) else none
def qh (rows:List (List Int)) (_:Unit):Option (Unit×(List (List Int)×Unit)):=sortRowsV cmpT rows
def uj (rows:List (List Int)) (_:Unit):Option (Unit×(List (List Int)×Unit)):=sortRowsV cmpC rows
end Go.Gx
