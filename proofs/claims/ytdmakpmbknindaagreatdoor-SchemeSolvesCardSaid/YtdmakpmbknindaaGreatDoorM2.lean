import Derived.Test.YtdmakpmbknindaaGreatDoorM1
import Derived.Lib.OwnBridge
import Derived.ArgAppend
import Derived.OwnWalkIn
import Derived.RangeFuncWrites
set_option linter.unusedVariables false
set_option linter.unusedSimpArgs false
namespace Go.Proofs.YtdmakpmbknindaaGreatDoor
open Go.RowKit
theorem RdI.of_own {k:IntKind} {w:World} {base:Nat} {e:TypeId} {A:Option Addr} {n c:Nat} {us:List Int} (h:w.ownsRow base e 1 (.slice A n c) n (us.map (Value.int k))):RdI k w w.heap.size A n c us:=by
 rcases h.2 with ⟨e0,hn⟩ | ⟨g,cap,cur,e0,hb,hg,hn,hm,hs,ht⟩
 · injection e0 with e1 e2 e3
   subst e1; subst e2; subst e3
   have:us=[]:=by
    have:=h.1;simp at this;exact this
   subst this;exact RdI.nil
 · injection e0 with e1 e2 e3
   subst e1; subst e3
   refine⟨⟨h.1,fun hn0=>⟨g,0,rfl,(Array.getElem?_eq_some_iff.1 hg).1,fun j u hu=>?_⟩⟩,hn,hm⟩;have:=h.cells (g:=g) rfl j u hu
   rw[show(Addr.add ⟨g,0,none⟩ j)=⟨g,0+j,none⟩ from by unfold Addr.add; split <;> simp_all] at this
   exact this
def Blk (w:World) (g:Nat) (t:TypeId) (cs:Array Value):Prop:=w.heap[g]?=some (.cells cs t (0,0))
section
variable {w w':World} {g:Nat} {t:TypeId} {cs:Array Value}
theorem Blk.lt (h:Blk w g t cs):g<w.heap.size:=(Array.getElem?_eq_some_iff.1 h).1
theorem Blk.cell (h:Blk w g t cs) (i:Nat):w.cell? ⟨g,i,none⟩=cs[i]?:=cell_of_row w g i cs t (0,0) h
theorem Blk.frozen (h:Blk w g t cs) (i:Nat):w.frozen? ⟨g,i,none⟩=false:=by
 unfold Blk at h;simp[World.frozen?,h]
theorem Blk.set_ (h:Blk w g t cs) (i:Nat) (u:Value):Blk (w.setCell ⟨g,i,none⟩ u) g t (cs.setIfInBounds i u):=by
 unfold Blk at h ⊢;simp[World.setCell,Array.getElem?_modify,h]
theorem Blk.set3 {x0 x1 x2:Value} (h:Blk w g t #[x0,x1,x2]) (y0 y1 y2:Value):Blk (((w.setCell ⟨g,0,none⟩ y0).setCell ⟨g,1,none⟩ y1).setCell ⟨g,2,none⟩ y2) g t #[y0,y1,y2]:=
 ((h.set_ 0 y0).set_ 1 y1).set_ 2 y2
theorem Blk.below {B:Nat} (h:Blk w g t cs) (hb:Below B w w') (hg:g<B):Blk w' g t cs:=(hb.block g hg).trans h
theorem Blk.grown {row:Option Nat} (h:Blk w g t cs) (hb:w.grownBy w' row) (hg:some g≠row):Blk w' g t cs:=(hb.block g h.lt hg).trans h
end
theorem below_grown {w w1:World} (h:Below w.heap.size w w1):w.grownBy w1 none:=⟨h.os,h.tape,h.output,h.size,fun k hk _=>h.block k hk⟩
theorem RdI.put3 {w:World} {B:Nat} {A:Option Addr} {n c:Nat} {us:List Int} {g:Nat} {t:TypeId} {x:Bool} {y:Int} {a:Option Addr} {m d:Nat}
 (h:RdI .i64 w B A n c us) (hs:Blk w g t #[.bool x,.int .u8 y,.slice a m d]) (v0 v1 v2:Value):
 RdI .i64 (((w.setCell ⟨g,0,none⟩ v0).setCell ⟨g,1,none⟩ v1).setCell ⟨g,2,none⟩ v2) B A n c us:=by
 refine⟨⟨h.1.1,fun hn=>?_⟩,h.2⟩;obtain⟨b,off,e,hb,hc⟩:=h.1.2 hn
 have hne:b≠g:=by
  rintro rfl
  have h0:0<us.length:=by rw[h.len]; exact hn
  have:=hc 0 (.int .i64 us[0]) (by simp[h0]);rw[hs.cell] at this;generalize off+0=k at this
  match k,this with
  | 0,this=>simp at this
  | 1,this=>simp at this
  | 2,this=>simp at this
  | k+3,this=>simp at this
 refine⟨b,off,e,hb,fun j u hu=>?_⟩
 rw[World.cell?_setCell_other _ _ _ _ (fun e=>hne (by injection e with e; exact e.symm)),World.cell?_setCell_other _ _ _ _ (fun e=>hne (by injection e with e; exact e.symm)),World.cell?_setCell_other _ _ _ _ (fun e=>hne (by injection e with e; exact e.symm))]
 exact hc j u hu
theorem below_box {w:World} (o:Obj):Below w.heap.size w (w.alloc o):=(Below.refl _ _).alloc (Nat.le_refl _) _
theorem below_drewN_t {B:Nat} {a w:World} (h:Below B a w) (n:Nat):Below B a (w.drewN n):=⟨h.os,h.tape,h.output,h.size,h.block⟩
theorem Blk.other {w:World} {g g':Nat} {t:TypeId} {cs:Array Value} (h:Blk w g t cs) (hg:g'≠g) (i:Nat) (u:Value):Blk (w.setCell ⟨g',i,none⟩ u) g t cs:=by
 unfold Blk at h ⊢;simp[World.setCell,Array.getElem?_modify,h,hg]
theorem blk_new (w:World) (cs:Array Value) (t:TypeId):Blk (w.alloc (Obj.cells cs t)) w.heap.size t cs:=heap_alloc_new w _
theorem Blk.alloc {w:World} {g:Nat} {t:TypeId} {cs:Array Value} (h:Blk w g t cs) (o:Obj):Blk (w.alloc o) g t cs:=by
 show(w.alloc o).heap[g]?=_;rw[Below.heap_alloc _ _ _ h.lt];exact h
theorem rd_new1 (w:World) (v:Value) (t:TypeId):Rd (w.alloc (Obj.cells #[v] t)) (w.heap.size+1) 1 (some ⟨w.heap.size,0,none⟩) 1 [v]:=by
 refine⟨rfl,fun _=>⟨w.heap.size,0,rfl,Nat.lt_succ_self _,fun j u hu=>?_⟩⟩;have h:=(blk_new w #[v] t).cell (0+j);rw[h,Nat.zero_add]
 match j,hu with
 | 0,hu=>exact hu
theorem ownsRow_beyond {w w':World} {base:Nat} {e:TypeId} {size:Nat} {v:Value} {n:Nat} {xs:List Value} (h:w.ownsRow base e size v n xs) (hb:Below w.heap.size w w'):w'.ownsRow base e size v n xs:=
 h.kept (row:=none) ⟨hb.os,hb.tape,hb.output,hb.size,fun k hk _=>hb.block k hk⟩ (by
  cases hv:v.ownBlock
  · exact .inl rfl
  · exact .inr (by simp))
theorem ownsRow_form {w:World} {base:Nat} {e:TypeId} {size:Nat} {v:Value} {n:Nat} {xs:List Value} (h:w.ownsRow base e size v n xs):∃ A c,v=.slice A n c:=by
 rcases h.2 with ⟨e0,hn0⟩ | ⟨g,cap,cur,e0,_⟩
 · exact⟨none,0,by rw[e0,hn0]⟩
 · exact⟨some ⟨g,0,none⟩,cap,e0⟩
section
variable {P:Program}
theorem wpList_append_one {ops:Array Oper} {rest:List Oper} {o:Oper} {a:Act} {Q:Exit→Act→World→Prop} (w0 w:World) (hgd:o.guard=none) (s x:Operand) (t:TypeId)
 (ho:o.op=.call { callee:=.builtin .append,args:=#[s,x],argTypes:=#[t,t] })
 (base:Nat) (e:TypeId) (i:TypeInfo) (z:Value) (size bytes:Nat) (ht:P.underlying t=some (.slice e)) (hi:P.info? e=some i) (hz:i.zero=some z)
 (hsize:i.size=size) (hby:i.bytes=bytes) (hzs:z.cells.size=size) (hsz:0<size)
 (v:Value) (n:Nat) (xs:List Value) (hs:a.eval s=v) (cs:List Value) (hcs:cs.length=size) (h1:∀ u∈cs,u.oneCell'=true) (hx:a.eval x=.slice (some ⟨w.heap.size,0,none⟩) 1 1)
 (hown:w.ownsRow base e size v n xs) (h63:n+1≤maxLen) (hbytes:(n+1) * bytes≤140737488355328) (hbel:Below base w0 w) (hbase:base≤w.heap.size)
 (h:∀ A' c' w',w'.ownsRow base e size (.slice A' (n+1) c') (n+1) (xs++cs)→Below base w0 w'→w.grownBy w' v.ownBlock→w.heap.size≤w'.heap.size→wpList P ops Q rest (a.put o.dst (.slice A' (n+1) c')) w'):
 wpList P ops Q (o :: rest) a (w.alloc (Obj.cells cs.toArray e)):=by
 have hrd:Rd (w.alloc (Obj.cells cs.toArray e)) (w.heap.size+1) size (some ⟨w.heap.size,0,none⟩) 1 cs:=
  ⟨by rw[hcs,Nat.one_mul],fun _=>⟨w.heap.size,0,rfl,Nat.lt_succ_self _,fun j u hu=>by rw[Nat.zero_add,World.cell?_alloc_new]; simpa using hu⟩⟩
 refine wpList_append_rd (w.alloc (Obj.cells cs.toArray e)) hgd s x t ho base e i z size bytes ht hi hz hsize hby hzs hsz v n xs hs (hown.alloc _) (w.heap.size+1) _ 1 1 cs hx hrd h1 h63 hbytes (by rw[World.size_alloc]; omega) fun v' w' h2 h3 h4=>?_
 obtain⟨A',c',rfl⟩:=ownsRow_form h2
 have hg:w.grownBy w' v.ownBlock:=⟨h3.os,h3.tape,h3.output,Nat.le_trans (by rw[World.size_alloc]; omega) h3.size,fun k hk hne=>(h3.block k (by rw[World.size_alloc]; omega) hne).trans (Below.heap_alloc w _ k hk)⟩
 exact h A' c' w' h2 ((hbel.alloc hbase _).grown h3 (by rw[World.size_alloc]; omega) (fun k hk=>(hown.lt _ hk).1)) hg hg.size
end
end Go.Proofs.YtdmakpmbknindaaGreatDoor
namespace Go.Proofs.YtdmakpmbknindaaGreatDoor
open Go.RowKit
inductive Cel where
 | v (x:Value)
 | s (k:Nat) (l:List Cel)
instance:Inhabited Cel:=⟨.v (.bool false)⟩
mutual
def CelIn (w:World) (S:Nat→Prop):Cel→Value→Prop
 | .v x,u=>u=x
 | .s k l,u=>∃ A m cp,u=.slice A m cp∧l.length=m * k∧m≤cp∧cp≤maxLen∧(0<m→∃ b off,A=some ⟨b,off,none⟩∧S b∧CelsIn w S l b off)
def CelsIn (w:World) (S:Nat→Prop):List Cel→Nat→Nat→Prop
 | [],_,_=>True
 | c :: r,b,off=>(∃ u,w.cell? ⟨b,off,none⟩=some u∧CelIn w S c u)∧CelsIn w S r b (off+1)
end
section
variable {w w':World} {S S':Nat→Prop}
theorem celIn_v {x u:Value}:CelIn w S (.v x) u↔u=x:=by rw[CelIn]
theorem celIn_s {k:Nat} {l:List Cel} {u:Value}:CelIn w S (.s k l) u↔∃ A m cp,u=.slice A m cp∧l.length=m * k∧m≤cp∧cp≤maxLen∧(0<m→∃ b off,A=some ⟨b,off,none⟩∧S b∧CelsIn w S l b off):=by rw[CelIn]
theorem celsIn_cons {c:Cel} {r:List Cel} {b off:Nat}:CelsIn w S (c :: r) b off↔(∃ u,w.cell? ⟨b,off,none⟩=some u∧CelIn w S c u)∧CelsIn w S r b (off+1):=by rw[CelsIn]
theorem celsIn_nil {b off:Nat}:CelsIn w S [] b off:=by rw[CelsIn]; trivial
mutual
theorem CelIn.keep (hS:∀ b,S b→S' b) (hk:∀ p:Addr,S p.block→w'.cell? p=w.cell? p):∀ (c:Cel) (u:Value),CelIn w S c u→CelIn w' S' c u
 | .v x,u,h=>by rw[celIn_v] at h ⊢; exact h
 | .s k l,u,h=>by
   rw[celIn_s] at h ⊢;obtain⟨A,m,cp,e0,e1,e2,e3,e4⟩:=h;refine⟨A,m,cp,e0,e1,e2,e3,fun hm=>?_⟩;obtain⟨b,off,e,hb,hr⟩:=e4 hm;exact⟨b,off,e,hS _ hb,CelsIn.keep hS hk l b off hb hr⟩
theorem CelsIn.keep (hS:∀ b,S b→S' b) (hk:∀ p:Addr,S p.block→w'.cell? p=w.cell? p):∀ (l:List Cel) (b off:Nat),S b→CelsIn w S l b off→CelsIn w' S' l b off
 | [],_,_,_,_=>celsIn_nil
 | c :: r,b,off,hb,h=>by
   rw[celsIn_cons] at h ⊢;obtain⟨⟨u,hu,hc⟩,hr⟩:=h;exact⟨⟨u,(hk _ hb).trans hu,CelIn.keep hS hk c u hc⟩,CelsIn.keep hS hk r b (off+1) hb hr⟩
end
theorem CelIn.mono {c:Cel} {u:Value} (h:CelIn w S c u) (hS:∀ b,S b→S' b):CelIn w S' c u:=CelIn.keep hS (fun _ _=>rfl) c u h
theorem CelsIn.get:∀ {l:List Cel} {b off:Nat},CelsIn w S l b off→∀ (i:Nat) {c:Cel},l[i]?=some c→∃ u,w.cell? ⟨b,off+i,none⟩=some u∧CelIn w S c u
 | [],_,_,_,i,c,h=>by simp at h
 | x :: r,b,off,h,0,c,hc=>by
   rw[celsIn_cons] at h
   obtain rfl:x=c:=by simpa using hc
   exact h.1
 | x :: r,b,off,h,i+1,c,hc=>by
   rw[celsIn_cons] at h;have:=CelsIn.get h.2 i (by simpa using hc)
   rwa [show off+1+i=off+(i+1) from by omega] at this
theorem CelsIn.of:∀ {l:List Cel} {b off:Nat},(∀ (i:Nat) (c:Cel),l[i]?=some c→∃ u,w.cell? ⟨b,off+i,none⟩=some u∧CelIn w S c u)→CelsIn w S l b off
 | [],_,_,_=>celsIn_nil
 | x :: r,b,off,h=>by
   rw[celsIn_cons];refine⟨h 0 x rfl,CelsIn.of fun i c hc=>?_⟩;have:=h (i+1) c (by simpa using hc)
   rwa [show off+(i+1)=off+1+i from by omega] at this
theorem CelsIn.append {a c:List Cel} {b off:Nat}:CelsIn w S (a++c) b off↔CelsIn w S a b off∧CelsIn w S c b (off+a.length):=by
 induction a generalizing off with
 | nil=>simp[celsIn_nil]
 | cons x a ih=>
   rw[List.cons_append,celsIn_cons,celsIn_cons,ih,and_assoc,List.length_cons,show off+1+a.length=off+(a.length+1) from by omega]
theorem CelsIn.row {X:Type} {enc:X→List Cel} {k:Nat} (hk:∀ x,(enc x).length=k):∀ {xs:List X} {b off:Nat},CelsIn w S (xs.flatMap enc) b off→∀ i (h:i<xs.length),CelsIn w S (enc xs[i]) b (off+i * k)
 | x :: xs,b,off,h,0,_=>by
   rw[List.flatMap_cons,CelsIn.append] at h;rw[Nat.zero_mul,Nat.add_zero];exact h.1
 | x :: xs,b,off,h,i+1,hi=>by
   rw[List.flatMap_cons,CelsIn.append,hk] at h;have:=CelsIn.row hk h.2 i (by simpa using hi)
   rw[show off+(i+1) * k=off+k+i * k from by rw[Nat.add_mul,Nat.one_mul]; omega]
   exact this
theorem flat_len {X:Type} {enc:X→List Cel} {k:Nat} (hk:∀ x,(enc x).length=k) (xs:List X):(xs.flatMap enc).length=xs.length * k:=by
 induction xs with
 | nil=>simp
 | cons x xs ih=>rw[List.flatMap_cons,List.length_append,ih,hk,List.length_cons,Nat.add_mul,Nat.one_mul,Nat.add_comm]
def CelsV (w:World) (S:Nat→Prop):List Cel→List Value→Prop
 | [],[]=>True
 | c :: r,u :: us=>CelIn w S c u∧CelsV w S r us
 | _,_=>False
theorem CelsV.nil:CelsV w S [] []:=trivial
theorem CelsV.len:∀ {l:List Cel} {us:List Value},CelsV w S l us→us.length=l.length
 | [],[],_=>rfl
 | c :: r,u :: us,h=>by rw[List.length_cons,List.length_cons,CelsV.len h.2]
 | [],_ :: _,h=>h.elim
 | _ :: _,[],h=>h.elim
theorem CelsV.append:∀ {a b:List Cel} {us vs:List Value},CelsV w S a us→CelsV w S b vs→CelsV w S (a++b) (us++vs)
 | [],b,[],vs,_,h=>h
 | c :: r,b,u :: us,vs,h,h2=>⟨h.1,CelsV.append h.2 h2⟩
 | [],_,_ :: _,_,h,_=>h.elim
 | _ :: _,_,[],_,h,_=>h.elim
theorem CelsV.keep (hS:∀ b,S b→S' b) (hk:∀ p:Addr,S p.block→w'.cell? p=w.cell? p):∀ {l:List Cel} {us:List Value},CelsV w S l us→CelsV w' S' l us
 | [],[],_=>trivial
 | c :: r,u :: us,h=>⟨CelIn.keep hS hk c u h.1,CelsV.keep hS hk h.2⟩
 | [],_ :: _,h=>h.elim
 | _ :: _,[],h=>h.elim
theorem CelsV.get:∀ {l:List Cel} {us:List Value},CelsV w S l us→∀ (i:Nat) {c:Cel},l[i]?=some c→∃ u,us[i]?=some u∧CelIn w S c u
 | [],[],_,i,c,hc=>by simp at hc
 | x :: r,u :: us,h,0,c,hc=>by
   obtain rfl:x=c:=by simpa using hc
   exact⟨u,rfl,h.1⟩
 | x :: r,u :: us,h,i+1,c,hc=>by
   obtain⟨v,h1,h2⟩:=CelsV.get h.2 i (by simpa using hc)
   exact⟨v,by simpa using h1,h2⟩
 | [],_ :: _,h,_,_,_=>h.elim
 | _ :: _,[],h,_,_,_=>h.elim
theorem CelsV.in_ {l:List Cel} {us:List Value} {b off:Nat} (h:CelsV w S l us) (hc:∀ (j:Nat) (u:Value),us[j]?=some u→w.cell? ⟨b,off+j,none⟩=some u):CelsIn w S l b off:=
 CelsIn.of fun i c hi=>by
  obtain⟨u,h1,h2⟩:=h.get i hi;exact⟨u,hc i u h1,h2⟩
end
def Sl {X:Type} (w:World) (S:Nat→Prop) (enc:X→List Cel) (k:Nat) (xs:List X) (A:Option Addr) (m cp:Nat):Prop:=
 xs.length=m∧m≤cp∧cp≤maxLen∧(0<m→∃ b off,A=some ⟨b,off,none⟩∧S b∧CelsIn w S (xs.flatMap enc) b off)
abbrev Lt (B:Nat):Nat→Prop:=fun b=>b<B
section
variable {X:Type} {w w':World} {S S':Nat→Prop} {enc:X→List Cel} {k:Nat} {xs:List X} {A:Option Addr} {m cp B:Nat}
theorem Sl.len (h:Sl w S enc k xs A m cp):xs.length=m:=h.1
theorem Sl.cap (h:Sl w S enc k xs A m cp):m≤9223372036854775807:=Nat.le_trans h.2.1 h.2.2.1
theorem Sl.nil:Sl w S enc k ([]:List X) none 0 0:=⟨rfl,Nat.le_refl _,Nat.zero_le _,fun h=>absurd h (by omega)⟩
theorem Sl.keep (h:Sl w S enc k xs A m cp) (hS:∀ b,S b→S' b) (hk:∀ p:Addr,S p.block→w'.cell? p=w.cell? p):Sl w' S' enc k xs A m cp:=by
 refine⟨h.1,h.2.1,h.2.2.1,fun hm=>?_⟩;obtain⟨b,off,e,hb,hr⟩:=h.2.2.2 hm;exact⟨b,off,e,hS _ hb,CelsIn.keep hS hk _ b off hb hr⟩
theorem Sl.mono (h:Sl w S enc k xs A m cp) (hS:∀ b,S b→S' b):Sl w S' enc k xs A m cp:=h.keep hS fun _ _=>rfl
theorem Sl.below (h:Sl w (Lt B) enc k xs A m cp) (hb:Below B w w'):Sl w' (Lt B) enc k xs A m cp:=h.keep (fun _ h=>h) fun _ hp=>hb.cell hp
theorem Sl.fresh (h:Sl w (Lt w.heap.size) enc k xs A m cp) (hb:Below w.heap.size w w'):Sl w' (Lt w'.heap.size) enc k xs A m cp:=h.keep (fun _ h=>Nat.lt_of_lt_of_le h hb.size) fun _ hp=>hb.cell hp
theorem Sl.at_ (hk:∀ x,(enc x).length=k) (h:Sl w S enc k xs A m cp) (hm:0<m):∃ b off,A=some ⟨b,off,none⟩∧S b∧∀ i (h:i<xs.length),CelsIn w S (enc xs[i]) b (off+i * k):=by
 obtain⟨b,off,e,hb,hr⟩:=h.2.2.2 hm;exact⟨b,off,e,hb,CelsIn.row hk hr⟩
theorem sl_iff (hk:∀ x,(enc x).length=k) (hk0:0<k) {u:Value}:CelIn w S (.s k (xs.flatMap enc)) u↔∃ A m cp,u=.slice A m cp∧Sl w S enc k xs A m cp:=by
 rw[celIn_s];refine⟨fun⟨A,m,cp,e0,e1,e2,e3,e4⟩=>⟨A,m,cp,e0,?_,e2,e3,e4⟩,fun⟨A,m,cp,e0,e1,e2,e3,e4⟩=>⟨A,m,cp,e0,?_,e2,e3,e4⟩⟩
 · rw[flat_len hk] at e1
   exact Nat.eq_of_mul_eq_mul_right hk0 e1
 · rw[flat_len hk,e1]
end
def OwnC (w:World) (base:Nat) (e:TypeId) (k:Nat) (R:Nat→Prop) (v:Value) (n:Nat) (l:List Cel):Prop:=
 l.length=n * k∧∃ cs,w.ownsRow base e k v n cs∧CelsV w (fun b=>b<w.heap.size∧some b≠v.ownBlock∧¬ R b) l cs
section
variable {w w':World} {base:Nat} {e:TypeId} {k:Nat} {R R':Nat→Prop} {v:Value} {n:Nat} {l:List Cel}
theorem OwnC.form (h:OwnC w base e k R v n l):∃ A c,v=.slice A n c:=by
 obtain⟨_,cs,h1,_⟩:=h;exact ownsRow_form h1
theorem OwnC.lt (h:OwnC w base e k R v n l) (g:Nat) (hg:v.ownBlock=some g):base≤g∧g<w.heap.size:=by
 obtain⟨_,cs,h1,_⟩:=h;exact h1.lt g hg
theorem OwnC.nil:OwnC w base e k R (.slice none 0 0) 0 []:=⟨by simp,[],World.ownsRow_nil _ _ _ _,trivial⟩
theorem OwnC.set (h:OwnC w base e k R v n l) {p:Addr} (hp:p.block<base) (hR:R p.block) (u:Value):OwnC (w.setCell p u) base e k R v n l:=by
 obtain⟨h0,cs,h1,h2⟩:=h
 refine⟨h0,cs,ownsRow_setCell_below h1 hp u,h2.keep (fun b h=>by rw[World.size_setCell]; exact h) fun q hq=>?_⟩
 exact World.cell?_setCell_other _ _ _ _ (fun e=>hq.2.2 (by rw[← e]; exact hR))
theorem OwnC.low (h:OwnC w base e k R v n l) {base':Nat} (hb:base'≤base):OwnC w base' e k R v n l:=by
 obtain⟨h0,cs,h1,h2⟩:=h;refine⟨h0,cs,?_,h2⟩
 rcases h1.2 with h3 | ⟨g,cap,cur,e0,hg,h3⟩
 · exact⟨h1.1,.inl h3⟩
 · exact⟨h1.1,.inr ⟨g,cap,cur,e0,Nat.le_trans hb hg,h3⟩⟩
theorem OwnC.cel (h:OwnC w base e k R v n l) (hR:∀ b,R' b→R b) (hb:∀ b,base≤b→¬ R' b):CelIn w (fun b=>b<w.heap.size∧¬ R' b) (.s k l) v:=by
 obtain⟨h0,cs,h1,h2⟩:=h;have h3:CelsV w (fun b=>b<w.heap.size∧¬ R' b) l cs:=h2.keep (fun b h=>⟨h.1,fun h3=>h.2.2 (hR b h3)⟩) fun _ _=>rfl;rw[celIn_s]
 rcases h1.2 with ⟨e0,hn⟩ | ⟨g,cap,cur,e0,hg,hblk,hn,hm,hs,ht⟩
 · exact⟨none,0,0,e0,by rw[h0,hn],Nat.le_refl _,Nat.zero_le _,fun h=>absurd h (by omega)⟩
 · refine⟨some ⟨g,0,none⟩,n,cap,e0,h0,hn,hm,fun _=>⟨g,0,rfl,⟨(Array.getElem?_eq_some_iff.1 hblk).1,hb g hg⟩,h3.in_ fun j u hu=>?_⟩⟩
   subst e0;have:=h1.cells (g:=g) rfl j u hu
   rwa [show(Addr.add ⟨g,0,none⟩ j)=⟨g,0+j,none⟩ from by unfold Addr.add; split <;> simp_all] at this
theorem OwnC.sl {X:Type} {enc:X→List Cel} {xs:List X} {A:Option Addr} {c:Nat} (hk:∀ x,(enc x).length=k) (hk0:0<k) (h:OwnC w base e k R (.slice A n c) n (xs.flatMap enc)):Sl w (Lt w.heap.size) enc k xs A n c:=by
 have h2:=(h.cel (R':=fun _=>False) (fun _ h=>h.elim) (fun _ _ h=>h)).mono (S':=Lt w.heap.size) fun b hb=>hb.1;obtain⟨A',m',c',e,h3⟩:=(sl_iff hk hk0).1 h2
 injection e with e1 e2 e3
 subst e1; subst e2; subst e3
 exact h3
variable {P:Program}
theorem wpList_append_cel {ops:Array Oper} {rest:List Oper} {o:Oper} {a:Act} {Q:Exit→Act→World→Prop} {B0:Nat} (w0 w:World) (hgd:o.guard=none) (s x:Operand) (t:TypeId)
 (ho:o.op=.call { callee:=.builtin .append,args:=#[s,x],argTypes:=#[t,t] })
 (base:Nat) (e:TypeId) (i:TypeInfo) (z:Value) (k bytes:Nat) (ht:P.underlying t=some (.slice e)) (hi:P.info? e=some i) (hz:i.zero=some z)
 (hsize:i.size=k) (hby:i.bytes=bytes) (hzs:z.cells.size=k) (hsz:0<k) (R:Nat→Prop)
 (v:Value) (n:Nat) (l:List Cel) (hs:a.eval s=v) (cs:List Value) (c:List Cel) (hcs:cs.length=k) (h1:∀ u∈cs,u.oneCell'=true) (hx:a.eval x=.slice (some ⟨w.heap.size,0,none⟩) 1 1)
 (hown:OwnC w base e k R v n l) (hc:CelsV w (fun b=>b<w.heap.size∧some b≠v.ownBlock∧¬ R b) c cs) (h63:n+1≤maxLen) (hbytes:(n+1) * bytes≤140737488355328) (hbel:Below B0 w0 w) (hB0:B0≤base) (hbase:base≤w.heap.size)
 (h:∀ A' c' w',OwnC w' base e k R (.slice A' (n+1) c') (n+1) (l++c)→Below B0 w0 w'→w.grownBy w' v.ownBlock→w.heap.size≤w'.heap.size→((Value.slice A' (n+1) c').ownBlock=v.ownBlock∨(Value.slice A' (n+1) c').ownBlock=some (w.heap.size+1))→wpList P ops Q rest (a.put o.dst (.slice A' (n+1) c')) w'):
 wpList P ops Q (o :: rest) a (w.alloc (Obj.cells cs.toArray e)):=by
 obtain⟨hl,cs0,hown0,hv0⟩:=hown
 have hrd:Rd (w.alloc (Obj.cells cs.toArray e)) (w.heap.size+1) k (some ⟨w.heap.size,0,none⟩) 1 cs:=
  ⟨by rw[hcs,Nat.one_mul],fun _=>⟨w.heap.size,0,rfl,Nat.lt_succ_self _,fun j u hu=>by rw[Nat.zero_add,World.cell?_alloc_new]; simpa using hu⟩⟩
 refine wpList_append_rd (w.alloc (Obj.cells cs.toArray e)) hgd s x t ho base e i z k bytes ht hi hz hsize hby hzs hsz v n cs0 hs (hown0.alloc _) (w.heap.size+1) _ 1 1 cs hx hrd h1 h63 hbytes (by rw[World.size_alloc]; omega) fun v' w' h2 h3 h4=>?_
 obtain⟨A',c',rfl⟩:=ownsRow_form h2
 have hg:w.grownBy w' v.ownBlock:=⟨h3.os,h3.tape,h3.output,Nat.le_trans (by rw[World.size_alloc]; omega) h3.size,fun k hk hne=>(h3.block k (by rw[World.size_alloc]; omega) hne).trans (Below.heap_alloc w _ k hk)⟩
 rw[World.size_alloc] at h4
 have hne:∀ b,b<w.heap.size→some b≠v.ownBlock→some b≠(Value.slice A' (n+1) c').ownBlock:=fun b hb hn e=>by
  rcases h4 with h4 | h4
  · exact hn (by rw[e,h4])
  · rw[h4] at e
    injection e with e
    omega
 have hkk:∀ p:Addr,(p.block<w.heap.size∧some p.block≠v.ownBlock∧¬ R p.block)→w'.cell? p=w.cell? p:=fun p hp=>World.cell?_of_block (hg.block p.block hp.1 hp.2.1);refine h A' c' w' ⟨?_,cs0++cs,h2,?_⟩ ?_ hg hg.size h4
 · have:=hc.len
   rw[List.length_append,hl,Nat.add_mul,Nat.one_mul];omega
 · refine CelsV.keep (fun b hb=>⟨Nat.lt_of_lt_of_le hb.1 hg.size,hne b hb.1 hb.2.1,hb.2.2⟩) hkk (hv0.append hc)
 · have hb2:Below base w0 w'→Below B0 w0 w':=fun h=>h.mono hB0
   refine⟨h3.os.trans hbel.os,h3.tape.trans hbel.tape,h3.output.trans hbel.output,Nat.le_trans hbel.size hg.size,fun b hb=>?_⟩
   have hbw:b<w.heap.size:=by omega
   refine(hg.block b hbw fun e=>?_).trans (hbel.block b hb);have:=(hown0.lt b e.symm).1;omega
end
end Go.Proofs.YtdmakpmbknindaaGreatDoor
namespace Go.Proofs.YtdmakpmbknindaaGreatDoor
open Go.RowKit
def QueueM (w:World) (base:Nat) (v:Value) (xs:List Int):Prop:=
 ∃ (b off cap:Nat) (cs:Array Value),v=.slice (some ⟨b,off,none⟩) xs.length cap∧base≤b∧Blk w b 3 cs∧off+cap≤cs.size∧xs.length≤cap∧off+cap≤maxLen∧∀ j (h:j<xs.length),cs[off+j]?=some (.int .i64 xs[j])
section
variable {w w':World} {base:Nat} {v:Value} {xs:List Int}
theorem QueueM.lt (h:QueueM w base v xs) {b:Nat} (hb:v.ownBlock=some b):base≤b∧b<w.heap.size:=by
 obtain⟨b',off,cap,cs,rfl,h1,h2,_⟩:=h
 have:b'=b:=by simpa[Value.ownBlock] using hb
 subst this;exact⟨h1,h2.lt⟩
theorem QueueM.keep (h:QueueM w base v xs) (hk:∀ b,v.ownBlock=some b→w'.heap[b]?=w.heap[b]?):QueueM w' base v xs:=by
 obtain⟨b,off,cap,cs,rfl,h1,h2,h3⟩:=h;exact⟨b,off,cap,cs,rfl,h1,(hk b rfl).trans h2,h3⟩
theorem QueueM.own {n:Nat} (h:w.ownsRow base 3 1 v n (xs.map (Value.int .i64))) (h0:0<n):QueueM w base v xs:=by
 obtain⟨hl,h⟩:=h;rw[List.length_map,Nat.mul_one] at hl
 rcases h with ⟨_,h⟩ | ⟨g,cap,cur,rfl,h1,h2,h3,h4,h5,h6⟩
 · omega
 · refine⟨g,0,cap,cur,by rw[hl],h1,h2,by omega,by omega,by omega,fun j hj=>?_⟩
   have h7:(cur.toList.take (n * 1))[j]?=some (Value.int .i64 xs[j]):=by rw[h6,List.getElem?_map,qj hj]; rfl
   rw[List.getElem?_take_of_lt (by omega)] at h7
   simpa using h7
theorem QueueM.cells (h:QueueM w base v xs):∃ b off cap,v=.slice (some ⟨b,off,none⟩) xs.length cap∧xs.length≤cap∧cap≤maxLen∧∀ j (h:j<xs.length),w.cell? ⟨b,off+j,none⟩=some (.int .i64 xs[j]):=by
 obtain⟨b,off,cap,cs,rfl,h1,h2,h3,h4,h5,h6⟩:=h
 exact⟨b,off,cap,rfl,h4,by omega,fun j hj=>by rw[Blk.cell h2,h6 j hj]⟩
theorem QueueM.tail {x:Int} {b off n cap:Nat} (h:QueueM w base (.slice (some ⟨b,off,none⟩) (n+1) cap) (x :: xs)):QueueM w base (.slice (some ⟨b,off+1,none⟩) n (cap - 1)) xs:=by
 obtain⟨b',off',cap',cs,e,h1,h2,h3,h4,h5,h6⟩:=h
 injection e with e1 e2 e3
 injection e1 with e1
 injection e1 with e1 e4
 subst e1; subst e3; subst e4
 have hn:n=xs.length:=by simpa using e2
 rw[List.length_cons] at h4
 refine⟨b,off+1,cap - 1,cs,by rw[hn],h1,h2,by omega,by omega,by omega,fun j hj=>?_⟩
 have:=h6 (j+1) (by simp; omega)
 rw[show off+1+j=off+(j+1) from by omega,this]
 simp
theorem QueueM.last {x:Int} {b off n:Nat} (h:QueueM w base (.slice (some ⟨b,off,none⟩) (n+1) 1) (x :: xs)):QueueM w base (.slice (some ⟨b,off,none⟩) n 0) xs:=by
 obtain⟨b',off',cap',cs,e,h1,h2,h3,h4,h5,h6⟩:=h
 injection e with e1 e2 e3
 injection e1 with e1
 injection e1 with e1 e4
 subst e1; subst e3; subst e4
 have hn:n=xs.length:=by simpa using e2
 rw[List.length_cons] at h4
 exact⟨b,off,0,cs,by rw[hn],h1,h2,by omega,by omega,by omega,fun j hj=>by omega⟩
theorem run_append_queue {P:Program} (h:QueueM w base v xs) (t ty:TypeId) (i:TypeInfo) (z:Value) (bytes:Nat) (ht:P.underlying t=some (.slice 3)) (hi:P.info? 3=some i) (hz:i.zero=some z)
 (hsize:i.size=1) (hby:i.bytes=bytes) (hzs:z.cells.size=1) (ad:Addr) (u:Int) (hx:w.cell? (ad.add 0)=some (.int .i64 u)) (h63:xs.length+1≤maxLen) (hbytes:(xs.length+1) * bytes≤140737488355328) (hbase:base≤w.heap.size):
 ∃ v' w',(Builtin.append_ #[t,t] ty #[v,.slice (some ad) 1 1]).run P w=.ok v' w'∧QueueM w' base v' (xs++[u])∧w.grownBy w' v.ownBlock∧(v'.ownBlock=v.ownBlock∨∃ k,v'.ownBlock=some k∧w.heap.size≤k):=by
 obtain⟨b,off,cap,cs,rfl,h1,h2,h3,h4,h5,h6⟩:=h
 have hnews:∀ j u',[Value.int .i64 u][j]?=some u'→w.cell? (ad.add j)=some u':=fun j u' hu=>by
  match j,hu with
  | 0,hu=>simp at hu; rw[← hu]; exact hx
  | j+1,hu=>simp at hu
 by_cases hroom:xs.length+1≤cap
 · have hr:=run_append_room_cells (P:=P) w t ty 3 i ht hi b off xs.length cap ad 1 1 [.int .i64 u] (by simp[hsize]) hnews (by intro u' hu'; simp at hu'; subst hu'; rfl) hroom
    (fun j hj=>by
      have hj0:j=0:=by simpa using hj
      subst hj0
      rw[Blk.cell h2,hsize,Nat.mul_one,Nat.add_zero,Array.getElem?_eq_getElem (by omega)]; rfl)
    (fun j hj=>h2.frozen _)
   refine⟨_,_,hr,?_,?_,.inl rfl⟩
   · rw[hsize,Nat.mul_one]
     refine⟨b,off,cap,cs.setIfInBounds (off+xs.length) (.int .i64 u),by simp,h1,?_,by simpa using h3,by simp; omega,h5,fun j hj=>?_⟩
     · exact h2.set_ _ _
     · rw[List.length_append] at hj
       simp only[List.length_cons,List.length_nil] at hj
       by_cases e:j=xs.length
       · subst e
         simp[Array.getElem?_setIfInBounds];omega
       · have hj':j<xs.length:=by omega
         have:=h6 j hj';simp[Array.getElem?_setIfInBounds];rw[if_neg (by omega),this,List.getElem_append_left hj']
   · rw[hsize,Nat.mul_one]
     refine⟨rfl,rfl,rfl,?_,fun k hk hne=>?_⟩
     · show _≤(w.setCell _ _).heap.size
       rw[World.size_setCell]; exact Nat.le_refl _
     · show(w.setCell _ _).heap[k]?=_
       exact Below.heap_setCell _ _ _ _ fun e=>hne (by simp[Value.ownBlock]; exact e)
 · have hlo:(xs.map (Value.int .i64)).length=xs.length * 1:=by simp
   obtain⟨v',w',hr,ho,hg⟩:=run_append_arg_grows (P:=P) w t ty 3 i z 1 bytes ht hi hz hsize hby hzs (by omega) ⟨b,off,none⟩ xs.length cap (xs.map (Value.int .i64)) hlo
    (fun j u' hu=>by
      have hj:j<xs.length:=by have:=(List.getElem?_eq_some_iff.1 hu).1; simpa using this
      rw[Addr.add_lit];show w.cell? ⟨b,off+j,none⟩=some u';rw[Blk.cell h2,h6 j hj];rw[List.getElem?_map,qj hj] at hu
      simpa using hu)
    ad 1 1 [.int .i64 u] (by simp) hnews (by omega) h63 hbytes
   have hq:QueueM w' w.heap.size v' (xs++[u]):=QueueM.own (n:=xs.length+1) (by rw[List.map_append]; exact ho) (by omega)
   refine⟨v',w',hr,?_,⟨hg.os,hg.tape,hg.output,hg.size,fun k hk _=>hg.block k hk (by simp)⟩,?_⟩
   · obtain⟨b',o',c',cs',e,q1,q2⟩:=hq
     exact⟨b',o',c',cs',e,by omega,q2⟩
   · obtain⟨b',o',c',cs',e,q1,q2,_⟩:=hq
     exact .inr ⟨b',by rw[e]; rfl,q1⟩
theorem wpListIn_append_queue {F:Fence} {n:Nat} {P:Program} (w:World) {ops:Array Oper} {rest:List Oper} {o:Oper} {a:Act} {Q:Exit→Act→World→Prop}
 (hg:o.guard=none) (s x:Operand) (t:TypeId) (hop:o.op=Op.call { callee:=Callee.builtin Builtin.append,args:=#[s,x],argTypes:=#[t,t] })
 (base:Nat) (i:TypeInfo) (z:Value) (bytes:Nat) (h1:P.underlying t=some (.slice 3)) (h2:P.info? 3=some i) (h3:i.zero=some z) (h4:i.size=1) (h5:i.bytes=bytes) (h6:z.cells.size=1)
 (v:Value) (xs:List Int) (hs:a.eval s=v) (hq:QueueM w base v xs) (ad:Addr) (u:Int) (hx:a.eval x=.slice (some ad) 1 1) (hu:w.cell? (ad.add 0)=some (.int .i64 u)) (b1:xs.length+1≤maxLen) (b2:(xs.length+1) * bytes≤140737488355328) (b3:base≤w.heap.size)
 (hK:∀ v' w',QueueM w' base v' (xs++[u])→w.grownBy w' v.ownBlock→(v'.ownBlock=v.ownBlock∨∃ k,v'.ownBlock=some k∧w.heap.size≤k)→wpListIn F n P ops Q rest (a.put o.dst v') w'):
 wpListIn F n P ops Q (o :: rest) a w:=by
 refine wpListIn_plain hg fun K hK'=>?_;obtain⟨v',w',hrun,r1,r2,r3⟩:=run_append_queue (P:=P) hq t o.type i z bytes h1 h2 h3 h4 h5 h6 ad u hu b1 b2 b3;unfold Oper.wpIn;refine⟨?_,?_⟩
 · simp[Oper.about,hop,resolve,Target.leads,Sem.run_pure]
 · rw[Oper.semAt_plain F _ _ (by rw[hop]; intro c hc'; cases hc')]
   simp[execOp,hop,resolve,invoke,builtin,hs,hx,hrun,Result.andThen];exact hK' _ _ (hK v' w' r1 r2 r3)
end
def KeepC (S:List Nat) (A B:World):Prop:=∀ k o,A.heap[k]?=some o→o.isCells=true→k∉S→B.heap[k]?=some o
theorem KeepC.refl (S:List Nat) (A:World):KeepC S A A:=fun _ _ h _ _=>h
theorem KeepC.trans {S:List Nat} {A B C:World} (h:KeepC S A B) (k:KeepC S B C):KeepC S A C:=fun i o hi hc hs=>k i o (h i o hi hc hs) hc hs
theorem KeepC.record {S:List Nat} {A:World} {l:Nat} {o:Obj} (h:A.heap[l]?=some o) (hc:o.isCells=false) (o':Obj):KeepC S A (A.putObj l o'):=fun k o2 hk hc2 _=>by
 by_cases e:k=l
 · subst e
   rw[h] at hk
   injection hk with hk
   subst hk;rw[hc] at hc2
   cases hc2
 · exact(World.putObj_heap_other e).trans hk
theorem KeepC.cell {S:List Nat} {A B:World} (h:KeepC S A B) {g:Nat} {t:TypeId} {cs:Array Value} (hb:Blk A g t cs) (hs:g∉S):Blk B g t cs:=h g _ hb rfl hs
theorem KeepC.setCell {S:List Nat} {A:World} {p:Addr} (hp:p.block∈S) (u:Value):KeepC S A (A.setCell p u):=fun k o hk _ hs=>by
 rw[Below.heap_setCell _ _ _ _ (fun e=>hs (by rw[e]; exact hp))]
 exact hk
theorem KeepC.alloc {S:List Nat} {A:World} (o:Obj):KeepC S A (A.alloc o):=fun k o2 hk _ _=>(Below.heap_alloc A o k (Array.getElem?_eq_some_iff.1 hk).1).trans hk
def SeqC {α:Type} (F:Fence) (n:Nat) (P:Program) (g:Nat) (lb:Array Value) (encs:α→Array Value) (Kp:World→World→Prop) (S:List α→Prop) (N:Nat) (w:World):Prop:=
 ∀ (l:Nat) (J:List α→World→Prop) (W:World),Below w.heap.size w W→(∀ pre A B,J pre A→Below W.heap.size A B→J pre B) →
  (∀ pre x A,J pre A→pre.length<N→YieldAt F (n - 1) P l (encs x) A fun e B=>e=.returned (.bool true)∧J (pre++[x]) B∧Kp A B) →
  J [] W→CallsIn F n P g (#[.func (.yield l) #[] #[]]++lb) W fun e W'=>(∃ v,e=.returned v)∧∃ xs,S xs∧J xs W'
def endC {α:Type} (m:Nat) (Kp:World→World→Prop) (I:List α→World→Prop) (xs:List α) (W:World):Exit→Act→World→Prop
 | .normal,_,W'=>(∀ k,k=m∨k=m+1→W'.heap[k]?=W.heap[k]?)∧Kp W W'∧I xs W'
 | _,_,_=>False
theorem wpIn_range_cells {α:Type} {F:Fence} {n:Nat} {P:Program} {g:Operand} {ps:Array Tmp} {assign body:Code} {Q:Exit→Act→World→Prop} {a:Act} {w:World}
 (hro:F.round=none) (h1:1≤n) {gf:Nat} {lb:Array Value} (hg:a.eval g=.func (.func gf) #[] lb) (hF:F.fn gf) (eg:∀ args w,(callFunc gf args).run P w=.ok (.enter gf args) w)
 {encs:α→Array Value} {Kp:World→World→Prop} {S:List α→Prop} {N:Nat} {w0:World} (hseq:SeqC F (n - 1) P gf lb encs Kp S N w0)
 (hKt:∀ {A B C:World},Kp A B→Kp B C→Kp A C) (hKb:∀ (A:World) (o o':Obj),A.heap[w.heap.size+1]?=some o→o.isCells=false→Kp A (A.putObj (w.heap.size+1) o')) (hb0:Below w0.heap.size w0 w) (hps:∀ x,(encs x).size=ps.size)
 (I:List α→World→Prop) (hI:∀ pre A B,I pre A→Below w.heap.size A B→I pre B) (h0:I [] w)
 (hround:∀ (l:Nat) (pre:List α) (x:α) (A B:World),w.heap.size+1<B.heap.size→I pre B→pre.length<N→assign.wpIn (F.inRound l) (n - 1 - 1) P (Exit.then (fun a' W'=>W'=A∧body.wpIn (F.inRound l) (n - 1 - 1) P (endC w.heap.size Kp I (pre++[x]) B) a' B) (fun _ _ _=>False)) { tmps:=(ps.zip (encs x)).foldl (fun t (p,v)=>t.setIfInBounds p v) a.tmps,defers:=[] } A)
 (hdone:∀ (xs:List α) (W:World),S xs→I xs W→W.heap[w.heap.size]?=some (.deferred (some []))→Q .normal { a with defers := { target:=.collected w.heap.size,args:=#[] } :: a.defers } W):
 (Code.rangeFunc g ps assign body).wpIn F n P Q a w:=by
 refine wpIn_rangeFunc fun fn hfn=>?_;rw[hro];obtain⟨R,hR⟩:∃ R:LoopState→Loop,R=fun st => { state:=st,pending:=none,fn,tmps:=a.tmps,params:=ps,assign,body,defers:=w.heap.size }:=⟨_,rfl⟩;obtain⟨W1,hW1⟩:∃ W1,(w.alloc (.deferred (some []))).alloc (.loop (R .ready))=W1:=⟨_,rfl⟩
 have hsz:W1.heap.size=w.heap.size+1+1:=by rw[← hW1]; simp
 have hbel:Below w.heap.size w W1:=by rw[← hW1]; exact((Below.refl _ w).alloc (Nat.le_refl _) _).alloc (by simp) _
 have hL:W1.heap[w.heap.size+1]?=some (.loop (R .ready)):=by
  rw[← hW1];have:=World.alloc_heap_new (w.alloc (.deferred (some []))) (.loop (R .ready));rwa [World.size_alloc] at this
 have hD:W1.heap[w.heap.size]?=some (.deferred (some [])):=by
  rw[← hW1];exact(Below.heap_alloc _ _ _ (by simp)).trans (World.alloc_heap_new w _)
 have hput:∀ (A:World) (o':Obj),w.heap.size+1<A.heap.size→Below w.heap.size A (A.putObj (w.heap.size+1) o'):=fun A o' h=>(Below.refl _ A).grown (grownBy_putObj' A _ o') (by omega) (fun k e=>by cases e; omega)
 refine⟨w.heap.size+1,[{ target:=.collected w.heap.size,args:=#[] }],W1,{ target:=.fn (.func gf) lb,args:=#[.func (.yield (w.heap.size+1)) #[] #[]] },W1,gf,#[.func (.yield (w.heap.size+1)) #[] #[]]++lb,W1,by rw[← hW1,hR]; exact run_enterLoop_outer _ _ _ _ _,by simp only[resolve,hg]; simp[go_sem],fun f' hf'=>by simp[Target.leads] at hf'; subst hf'; exact hF,by simp[invoke,go_sem,eg],fun _=>h1,?_⟩
 refine(hseq (w.heap.size+1) (fun pre W=>I pre W∧W.heap[w.heap.size+1]?=some (.loop (R .ready))∧W.heap[w.heap.size]?=some (.deferred (some []))) W1 (hb0.trans (hbel.mono hb0.size)) (fun pre A B h hb=>?_) (fun pre x A h hlen=>?_) ⟨hI _ _ _ h0 hbel,hL,hD⟩).mono ?_
 · rw[hsz] at hb
   exact⟨hI _ _ _ h.1 (hb.mono (by omega)),(hb.block _ (by omega)).trans h.2.1,(hb.block _ (by omega)).trans h.2.2⟩
 · -- one round
   obtain⟨hi,hl,hd⟩:=h;have hlt:w.heap.size+1<A.heap.size:=(Array.getElem?_eq_some_iff.1 hl).1
   have hy:=run_yield (P:=P) (args:=encs x) hl (by rw[hR]; exact hps x)
   rw[hR] at hy;obtain⟨B,hB⟩:∃ B,A.putObj (w.heap.size+1) (.loop (R .busy))=B:=⟨_,rfl⟩
   have hBl:B.heap[w.heap.size+1]?=some (.loop (R .busy)):=by rw[← hB]; exact World.putObj_heap_same hlt
   have hBd:B.heap[w.heap.size]?=some (.deferred (some [])):=by rw[← hB]; exact(World.putObj_heap_other (by omega)).trans hd
   have hBi:I pre B:=by rw[← hB]; exact hI _ _ _ hi (hput A _ hlt)
   have hBk:Kp A B:=by rw[← hB]; exact hKb A _ _ hl rfl
   have hBs:w.heap.size+1<B.heap.size:=(Array.getElem?_eq_some_iff.1 hBl).1;refine⟨fn,_,assign,body,hy,roundIn_of_wpIn hfn (wpIn_mono (hround _ pre x A B hBs hBi hlen) ?_)⟩;rintro e a2 A2 hp
   cases e with
   | normal=>
     obtain⟨rfl,hbody⟩:=hp;refine⟨B,?_,wpIn_mono hbody ?_⟩
     · rw[← hB,run_beginRound hl (by rw[hR]),hR]
     rintro e a3 C hp
     cases e with
     | normal=>
       obtain⟨hk3,hkp,hi3⟩:=hp;have hCl:C.heap[w.heap.size+1]?=some (.loop (R .busy)):=(hk3 _ (.inr rfl)).trans hBl;have hCd:C.heap[w.heap.size]?=some (.deferred (some [])):=(hk3 _ (.inl rfl)).trans hBd;have hCs:w.heap.size+1<C.heap.size:=(Array.getElem?_eq_some_iff.1 hCl).1;have he:=run_endRound (P:=P) none hCl
       have hRr:({ R .busy with state:=if (none:Option Code).isNone then LoopState.ready else LoopState.done,pending:=none }:Loop)=R .ready:=by rw[hR]; rfl
       rw[hRr] at he;exact⟨_,_,he,rfl,⟨hI _ _ _ hi3 (hput C _ hCs),World.putObj_heap_same hCs,(World.putObj_heap_other (by omega)).trans hCd⟩,hKt (hKt hBk hkp) (hKb C _ _ hCl rfl)⟩
     | ret=>exact hp.elim
     | exit id=>exact hp.elim
     | goto t=>exact hp.elim
     | panic ch=>exact hp.elim
     | outgrown=>exact hp.elim
   | ret=>exact hp.elim
   | exit id=>exact hp.elim
   | goto t=>exact hp.elim
   | panic ch=>exact hp.elim
   | outgrown=>exact hp.elim
 · -- behind the iterator
   rintro e W2 ⟨⟨v,rfl⟩,xs,hS,hi,hl,hd⟩;have hlt:w.heap.size+1<W2.heap.size:=(Array.getElem?_eq_some_iff.1 hl).1
   have he:=run_endLoop (P:=P) hl (by rw[hR]; simp)
   refine⟨none,_,by rw[hR] at he; exact he,hdone xs _ hS (hI _ _ _ hi (hput W2 _ hlt)) ((World.putObj_heap_other (by omega)).trans hd)⟩
end Go.Proofs.YtdmakpmbknindaaGreatDoor
