import Derived.Test.YtdmakpmbknindaaGreatDoorM18
set_option linter.unusedVariables false
set_option linter.unusedSimpArgs false
namespace Go.Proofs.YtdmakpmbknindaaGreatDoor
open Go.RowKit
structure StM where
 types:Int→Option TyD
 mults:Int→Option (Int × Int)
def StM.none:StM:=⟨fun _=>Option.none,fun _=>Option.none⟩
def StM.putT (s:StM) (i:Int) (t:TyD):StM:=⟨fun j=>if j=i then some t else s.types j,s.mults⟩
def StM.putM (s:StM) (i:Int) (m:Int × Int):StM:=⟨s.types,fun j=>if j=i then some m else s.mults j⟩
def fitsL (f:TyD→TyD→StM→Bool × StM):List TyD→List TyD→StM→Bool × StM
 | x :: xs,y :: ys,s=>match f x y s with
   | (true,s')=>fitsL f xs ys s'
   | (false,s')=>(false,s')
 | _,_,s=>(true,s)
def fitsM (t u:TyD) (s:StM):Bool × StM:=
 if t.k=7∧t.c=0 then
  match s.mults t.v with
  | some was=>if was=(u.v,u.c) then (true,s.putM t.v (u.v,u.c)) else (false,s)
  | Option.none=>(true,s.putM t.v (u.v,u.c))
 else (true,s)
def headB (t u:TyD):Bool:=t.k==u.k&&t.n==u.n&&t.l.length==u.l.length
def armB (t u:TyD):Bool:=!(t.k==7&&t.c != 0&&!(t.v==u.v&&t.c==u.c))
def fitsN:Nat→TyD→TyD→StM→Bool × StM
 | 0,_,_,s=>(false,s)
 | N+1,t,u,s=>
   if t.k=1 then
    match s.types t.n with
    | some was=>(sameT was u,s)
    | Option.none=>(true,s.putT t.n u)
   else if headB t u=false then (false,s)
   else if armB t u=false then (false,s)
   else match fitsM t u s with
    | (false,s')=>(false,s')
    | (true,s')=>fitsL (fitsN N) t.l u.l s'
theorem fitsN_succ (N:Nat) (t u:TyD) (s:StM):fitsN (N+1) t u s=if t.k=1 then (match s.types t.n with
 | some was=>(sameT was u,s)
 | Option.none=>(true,s.putT t.n u))
 else if headB t u=false then (false,s)
 else if armB t u=false then (false,s)
 else match fitsM t u s with
  | (false,s')=>(false,s')
  | (true,s')=>fitsL (fitsN N) t.l u.l s':=rfl
theorem fitsN_new {N:Nat} {t u:TyD} {s:StM} (h:t.k=1) (hs:s.types t.n=Option.none):fitsN (N+1) t u s=(true,s.putT t.n u):=by rw[fitsN_succ,if_pos h,hs]
theorem fitsN_old {N:Nat} {t u was:TyD} {s:StM} (h:t.k=1) (hs:s.types t.n=some was):fitsN (N+1) t u s=(sameT was u,s):=by rw[fitsN_succ,if_pos h,hs]
theorem fitsN_head {N:Nat} {t u:TyD} {s:StM} (h:t.k≠1) (hs:headB t u=false):fitsN (N+1) t u s=(false,s):=by rw[fitsN_succ,if_neg h,if_pos hs]
theorem fitsN_arm {N:Nat} {t u:TyD} {s:StM} (h:t.k≠1) (h1:headB t u=true) (hs:armB t u=false):fitsN (N+1) t u s=(false,s):=by rw[fitsN_succ,if_neg h,if_neg (by rw[h1]; simp),if_pos hs]
theorem fitsN_mult {N:Nat} {t u:TyD} {s s':StM} (h:t.k≠1) (h1:headB t u=true) (h2:armB t u=true) (hs:fitsM t u s=(false,s')):fitsN (N+1) t u s=(false,s'):=by rw[fitsN_succ,if_neg h,if_neg (by rw[h1]; simp),if_neg (by rw[h2]; simp),hs]
def fitsK (f:TyD→TyD→StM→Bool × StM) (l m:List TyD) (k:Nat) (s:StM):Bool × StM:=fitsL f (l.drop k) (m.drop k) s
theorem fitsN_kids {N:Nat} {t u:TyD} {s s':StM} (h:t.k≠1) (h1:headB t u=true) (h2:armB t u=true) (hs:fitsM t u s=(true,s')):fitsN (N+1) t u s=fitsK (fitsN N) t.l u.l 0 s':=by rw[fitsN_succ,if_neg h,if_neg (by rw[h1]; simp),if_neg (by rw[h2]; simp),hs]; rfl
theorem fitsK_zero (f:TyD→TyD→StM→Bool × StM) (l m:List TyD) (s:StM):fitsK f l m 0 s=fitsL f l m s:=by unfold fitsK; rw[List.drop_zero,List.drop_zero]
theorem fitsK_step (f:TyD→TyD→StM→Bool × StM) {l m:List TyD} {k:Nat} {s s':StM} {b:Bool} (h:k<l.length) (h':k<m.length) (hf:f l[k] m[k] s=(b,s')):fitsK f l m k s=if b then fitsK f l m (k+1) s' else (false,s'):=by
 unfold fitsK;rw[List.drop_eq_getElem_cons h,List.drop_eq_getElem_cons h',fitsL,hf]
 cases b <;> rfl
theorem fitsK_end (f:TyD→TyD→StM→Bool × StM) {l m:List TyD} {k:Nat} (s:StM) (h:l.length≤k):fitsK f l m k s=(true,s):=by
 unfold fitsK;rw[List.drop_eq_nil_of_le h];rfl
end Go.Proofs.YtdmakpmbknindaaGreatDoor
