import Derived.WalkKit
import Derived.WalkSpells
import Derived.WalkLawsBesides
import Derived.OpenShut
import Derived.Deep.Draws
import Derived.Lib.Hide
import Derived.Deep.LoopGhost
import Derived.Deep.RegionWith
import Derived.Maps.AppendAt
import Derived.Deep.AppendLies
import Derived.RegionTactic
import Derived.OwnWalk
import Derived.Maps.OwnSet
import Derived.Maps.OwnOps
import Derived.StringKeys
import Derived.Test.YtgpeijkjmkocgaaDoorProg
import Derived.Deep.RegionHeld3
import Derived.Deep.DrawnRows
import Derived.Lib.Hide
set_option linter.unusedVariables false
set_option linter.unusedSimpArgs false
namespace Go.Proofs.YtgpeijkjmkocgaaDoor
theorem qq {p : Prop} (h : p) : Go.RowKit.Hid p := Lib.hid h
theorem qa.{u} {α : Type u} {a : α} {i : Nat} {l : List α} : (a :: l)[i + 1]? = l[i]? := List.getElem?_cons_succ
theorem qb.{u} {α : Type u} {a : α} {l : List α} : (a :: l)[0]? = some a := List.getElem?_cons_zero
theorem qc.{u} {α : Type u} {l : List α} {i : Nat} : l.toArray[i]? = l[i]? := List.getElem?_toArray
theorem qd.{u} {α : Type u} (l : List α) (i : Nat) (a : α) : l.toArray.setIfInBounds i a = (l.set i a).toArray := List.setIfInBounds_toArray _ _ _
theorem qe.{u} {α : Type u} (a : α) (l : List α) (h : 0 < (a :: l).length) : (a :: l)[0]'h = a := List.getElem_cons_zero a l h
theorem qf.{u} {α : Type u} (a : α) (l : List α) (i : Nat) (h : i + 1 < (a :: l).length) : (a :: l)[i + 1]'h = l[i]'(Nat.lt_of_succ_lt_succ h) := List.getElem_cons_succ a l i h
theorem qg.{u} {α : Type u} {xs : List α} {i : Nat} (h : i < xs.toArray.size) : xs.toArray[i]'h = xs[i]'(by simpa using h) := List.getElem_toArray h
theorem qh.{u} {α : Type u} {x : α} {xs : List α} {a : α} : (x :: xs).set 0 a = a :: xs := List.set_cons_zero
theorem qi.{u} {α : Type u} {x : α} {xs : List α} {n : Nat} {a : α} : (x :: xs).set (n + 1) a = x :: xs.set n a := List.set_cons_succ
theorem qj.{u} {α : Type u} {l : List α} {i : Nat} (h : i < l.length) : l[i]? = some l[i] := List.getElem?_eq_getElem h
theorem qk.{u} {α : Type u} {b : α} {l : List α} {a : α} : a ∈ b :: l ↔ a = b ∨ a ∈ l := List.mem_cons
end Go.Proofs.YtgpeijkjmkocgaaDoor
namespace Go.Proofs.YtgpeijkjmkocgaaDoor
open Go.RowKit
theorem ret_int {k:IntKind} {a b:Int} (h:a=b):Ending.returned (.int k a)=.returned (.int k b):=by rw[h]
theorem ret_bool {a b:Bool} (h:a=b):Ending.returned (.bool a)=.returned (.bool b):=by rw[h]
theorem run_max2 {P:Program} (ts:Array TypeId) (t:TypeId) (k k':IntKind) (x y:Int) (w:World):(Builtin.max_ ts t #[.int k x,.int k' y]).run P w=.ok (.int k (max x y)) w:=by
 rw[run_max_int2]
 congr 2
 omega
theorem run_min2 {P:Program} (ts:Array TypeId) (t:TypeId) (k k':IntKind) (x y:Int) (w:World):(Builtin.min_ ts t #[.int k x,.int k' y]).run P w=.ok (.int k (min x y)) w:=by
 rw[run_min_int2]
 congr 2
 omega
theorem str_inj {a b:ByteArray} (h:a.toList=b.toList):a=b:=by
 rw[ByteArray.toList_eq,ByteArray.toList_eq] at h;exact ByteArray.ext (Array.toList_inj.mp h)
theorem str_eq {a b:ByteArray}:(a.toList==b.toList)=decide (a=b):=by
 by_cases h:a=b
 · subst h; simp
 · have:¬ a.toList=b.toList:=fun e=>h (str_inj e)
   simp[h,this]
def Rd (w:World) (B size:Nat) (A:Option Addr) (n:Nat) (xs:List Value):Prop:=
 xs.length=n * size∧(0<n→∃ b off,A=some ⟨b,off,none⟩∧b<B∧∀ j u,xs[j]?=some u→w.cell? ⟨b,off+j,none⟩=some u)
section
variable {w w':World} {B B' size n:Nat} {A:Option Addr} {xs:List Value}
theorem Rd.nil:Rd w B size A 0 []:=⟨by simp,fun h=>absurd h (by omega)⟩
theorem Rd.keep (h:Rd w B size A n xs) (hk:∀ p:Addr,p.block<B→w'.cell? p=w.cell? p):Rd w' B size A n xs:=
 ⟨h.1,fun hn=>by
  obtain⟨b,off,e,hb,hc⟩:=h.2 hn
  exact⟨b,off,e,hb,fun j u hu=>(hk _ hb).trans (hc j u hu)⟩⟩
theorem Rd.more (h:Rd w B size A n xs) (hB:B≤B'):Rd w B' size A n xs:=
 ⟨h.1,fun hn=>by
  obtain⟨b,off,e,hb,hc⟩:=h.2 hn
  exact⟨b,off,e,by omega,hc⟩⟩
theorem Rd.below (h:Rd w B size A n xs) (hb:Below B w w'):Rd w' B size A n xs:=h.keep fun _ hp=>hb.cell hp
theorem Rd.drew (h:Rd w B size A n xs):Rd w.drew B size A n xs:=h
theorem Rd.drewN (h:Rd w B size A n xs) (k:Nat):Rd (w.drewN k) B size A n xs:=h
theorem Rd.alloc (h:Rd w B size A n xs) (hB:B≤w.heap.size) (o:Obj):Rd (w.alloc o) B size A n xs:=h.keep fun p hp=>World.cell?_alloc_lt w o p (by omega)
theorem Rd.setCell (h:Rd w B size A n xs) {p:Addr} (hB:B≤p.block) (u:Value):Rd (w.setCell p u) B size A n xs:=
 h.keep fun q hq=>World.cell?_setCell_other w p q u (fun e=>by subst e; omega)
theorem Rd.grown (h:Rd w B size A n xs) {row:Option Nat} (hg:w.grownBy w' row) (hB:B≤w.heap.size) (hr:∀ g,row=some g→B≤g):Rd w' B size A n xs:=
 h.keep fun p hp=>World.cell?_of_block (hg.block p.block (by omega) (fun e=>by have:=hr _ e.symm; omega))
end
theorem Rd.new (w:World) (l:List Value) (t:TypeId):Rd (w.alloc (.cells l.toArray t)) (w.heap.size+1) 1 (some ⟨w.heap.size,0,none⟩) l.length l:=
 ⟨by simp,fun _=>⟨w.heap.size,0,rfl,Nat.lt_succ_self _,fun j u hu=>by rw[Nat.zero_add,World.cell?_alloc_new]; simpa using hu⟩⟩
section
variable {P:Program} (w:World)
theorem run_append_of_nil (base:Nat) (t ty e:TypeId) (i:TypeInfo) (size:Nat) (ht:P.underlying t=some (.slice e)) (hi:P.info? e=some i)
  (v:Value) (n:Nat) (xs:List Value) (hown:w.ownsRow base e size v n xs) (c:Nat):(Builtin.append_ #[t,t] ty #[v,.slice none 0 c]).run P w=.ok v w:=by
 rcases hown.2 with ⟨rfl,rfl⟩ | ⟨g,cap,cur,rfl,_,_,hnc,_⟩
 · simp[Builtin.append_,run_underlying ht,sizeOf,typeInfo,hi,Builtin.lenOf,Builtin.firstCells]
 · simp[Builtin.append_,run_underlying ht,sizeOf,typeInfo,hi,Builtin.lenOf,Builtin.firstCells,hnc,storeCells]
theorem run_append_rd (base:Nat) (t ty e:TypeId) (i:TypeInfo) (z:Value) (size bytes:Nat) (ht:P.underlying t=some (.slice e)) (hi:P.info? e=some i) (hz:i.zero=some z)
  (hsize:i.size=size) (hby:i.bytes=bytes) (hzs:z.cells.size=size) (hsz:0<size)
  (v:Value) (n:Nat) (xs:List Value) (hown:w.ownsRow base e size v n xs)
  (B:Nat) (A:Option Addr) (m c:Nat) (news:List Value) (hr:Rd w B size A m news) (h1:∀ u∈news,u.oneCell'=true)
  (h63:n+m≤maxLen) (hbytes:(n+m) * bytes≤140737488355328) (hbase:base≤w.heap.size):
  ∃ v' w',(Builtin.append_ #[t,t] ty #[v,.slice A m c]).run P w=.ok v' w'∧w'.ownsRow base e size v' (n+m) (xs++news)∧w.grownBy w' v.ownBlock ∧
   (v'.ownBlock=v.ownBlock∨v'.ownBlock=some w.heap.size):=by
 rcases A with _ | ad
 · have hm:m=0:=by
    rcases Nat.eq_zero_or_pos m with h0 | h0
    · exact h0
    · obtain⟨_,_,h,_⟩:=hr.2 h0
      cases h
   subst hm;have hn:news=[]:=List.eq_nil_of_length_eq_zero (by simpa using hr.1);subst hn
   exact⟨v,w,run_append_of_nil w base t ty e i size ht hi v n xs hown c,by simpa using hown,World.grownBy.refl w _,.inl rfl⟩
 · have hcells:∀ j u,news[j]?=some u→w.cell? (ad.add j)=some u:=by
    intro j u hu
    rcases Nat.eq_zero_or_pos m with h0 | h0
    · subst h0
      have hn:news=[]:=List.eq_nil_of_length_eq_zero (by simpa using hr.1);subst hn;simp at hu
    · obtain⟨b,off,h,_,hc⟩:=hr.2 h0
      injection h with h
      subst h
      rw[show(Addr.add ⟨b,off,none⟩ j)=⟨b,off+j,none⟩ from by unfold Addr.add; split <;> simp_all]
      exact hc j u hu
   obtain⟨v',w',hrun,h2,h3,_,h5⟩:=run_append_own_at (P:=P) w base t ty e i z size bytes ht hi hz hsize hby hzs hsz v n xs hown ad m c news hr.1 hcells h1 h63 hbytes hbase;exact⟨v',w',hrun,h2,h3,h5⟩
theorem wp_append_rd {o:Oper} {a:Act} {K:Act→World→Prop} {Q:Exit→Act→World→Prop} (s x:Operand) (t:TypeId)
  (ho:o.op=.call { callee:=.builtin .append,args:=#[s,x],argTypes:=#[t,t] })
  (base:Nat) (e:TypeId) (i:TypeInfo) (z:Value) (size bytes:Nat) (ht:P.underlying t=some (.slice e)) (hi:P.info? e=some i) (hz:i.zero=some z)
  (hsize:i.size=size) (hby:i.bytes=bytes) (hzs:z.cells.size=size) (hsz:0<size)
  (v:Value) (n:Nat) (xs:List Value) (hs:a.eval s=v) (hown:w.ownsRow base e size v n xs)
  (B:Nat) (A:Option Addr) (m c:Nat) (news:List Value) (hx:a.eval x=.slice A m c) (hr:Rd w B size A m news) (h1:∀ u∈news,u.oneCell'=true)
  (h63:n+m≤maxLen) (hbytes:(n+m) * bytes≤140737488355328) (hbase:base≤w.heap.size)
  (h:∀ v' w',w'.ownsRow base e size v' (n+m) (xs++news)→w.grownBy w' v.ownBlock→(v'.ownBlock=v.ownBlock∨v'.ownBlock=some w.heap.size)→K (a.put o.dst v') w'):o.wp P a w K Q:=by
 obtain⟨v',w',hrun,h2,h3,h4⟩:=run_append_rd (P:=P) w base t o.type e i z size bytes ht hi hz hsize hby hzs hsz v n xs hown B A m c news hr h1 h63 hbytes hbase;unfold Oper.wp execOp;simp only[ho,resolve,invoke,builtin,Sem.run_bind,Sem.run_pure,Result.andThen_ok,List.map_toArray,List.map_cons,List.map_nil,hs,hx,hrun];exact h v' w' h2 h3 h4
theorem wpList_append_rd {ops:Array Oper} {rest:List Oper} {o:Oper} {a:Act} {Q:Exit→Act→World→Prop} (hgd:o.guard=none) (s x:Operand) (t:TypeId)
  (ho:o.op=.call { callee:=.builtin .append,args:=#[s,x],argTypes:=#[t,t] })
  (base:Nat) (e:TypeId) (i:TypeInfo) (z:Value) (size bytes:Nat) (ht:P.underlying t=some (.slice e)) (hi:P.info? e=some i) (hz:i.zero=some z)
  (hsize:i.size=size) (hby:i.bytes=bytes) (hzs:z.cells.size=size) (hsz:0<size)
  (v:Value) (n:Nat) (xs:List Value) (hs:a.eval s=v) (hown:w.ownsRow base e size v n xs)
  (B:Nat) (A:Option Addr) (m c:Nat) (news:List Value) (hx:a.eval x=.slice A m c) (hr:Rd w B size A m news) (h1:∀ u∈news,u.oneCell'=true)
  (h63:n+m≤maxLen) (hbytes:(n+m) * bytes≤140737488355328) (hbase:base≤w.heap.size)
  (h:∀ v' w',w'.ownsRow base e size v' (n+m) (xs++news)→w.grownBy w' v.ownBlock→(v'.ownBlock=v.ownBlock∨v'.ownBlock=some w.heap.size)→wpList P ops Q rest (a.put o.dst v') w'):wpList P ops Q (o :: rest) a w:=
 wpList_plain hgd fun _ hK=>wp_append_rd w s x t ho base e i z size bytes ht hi hz hsize hby hzs hsz v n xs hs hown B A m c news hx hr h1 h63 hbytes hbase fun v' w' h2 h3 h4=>hK _ _ (h v' w' h2 h3 h4)
theorem step_append_rd {ops:Array Oper} {o:Oper} {a:Act} {K:Act→World→Prop} {Q:Exit→Act→World→Prop} {E:Prop} (hgd:o.guard=none) (s x:Operand) (t:TypeId)
  (ho:o.op=.call { callee:=.builtin .append,args:=#[s,x],argTypes:=#[t,t] })
  (base:Nat) (e:TypeId) (i:TypeInfo) (z:Value) (size bytes:Nat) (ht:P.underlying t=some (.slice e)) (hi:P.info? e=some i) (hz:i.zero=some z)
  (hsize:i.size=size) (hby:i.bytes=bytes) (hzs:z.cells.size=size) (hsz:0<size)
  (v:Value) (n:Nat) (xs:List Value) (hs:a.eval s=v) (hown:w.ownsRow base e size v n xs)
  (B:Nat) (A:Option Addr) (m c:Nat) (news:List Value) (hx:a.eval x=.slice A m c) (hr:Rd w B size A m news) (h1:∀ u∈news,u.oneCell'=true)
  (h63:n+m≤maxLen) (hbytes:(n+m) * bytes≤140737488355328) (hbase:base≤w.heap.size)
  (h:∀ v' w',w'.ownsRow base e size v' (n+m) (xs++news)→w.grownBy w' v.ownBlock→(v'.ownBlock=v.ownBlock∨v'.ownBlock=some w.heap.size)→K (a.put o.dst v') w'):
  if Region.wanted o (yielded ops a.tmps)=true then Oper.wp P o a w K Q else E:=by
 have hw:Region.wanted o (yielded ops a.tmps)=true:=by simp[Region.wanted,hgd]
 rw[if_pos hw];exact wp_append_rd w s x t ho base e i z size bytes ht hi hz hsize hby hzs hsz v n xs hs hown B A m c news hx hr h1 h63 hbytes hbase h
end
end Go.Proofs.YtgpeijkjmkocgaaDoor
namespace Go.Proofs.YtgpeijkjmkocgaaDoor
open Go.RowKit Go.Maps
def anyElemS (v:Value):Option (DataW Value × List MemPlace):=some (.held v,[])
def litS (s:ByteArray):Lit:=.string s.data.toList
theorem litS_key (i:ByteArray):WideAt.IsKeyLit (litS i):=by simp[WideAt.IsKeyLit,litS]
theorem litS_ne {i j:ByteArray} (h:i≠j):litS i≠litS j:=fun e=>h (by
 have e1:i.data.toList=j.data.toList:=by simpa[litS] using e
 cases i; cases j; congr 1; exact Array.toList_inj.1 e1)
def MapS (w:World) (P:Program) (k:TypeId) (b n:Nat) (z:Value) (f:ByteArray→Option Value):Prop:=
 ∃ D,w.ownsMap P k anyElemS b n D∧IsMap D∧(∀ i,Maps.has D (litS i)=(f i).isSome)∧∀ i,D.atKey (litS i) (.held z)=.held ((f i).getD z)
def updS (f:ByteArray→Option Value) (i:ByteArray) (v:Value):ByteArray→Option Value:=fun j=>if j=i then some v else f j
section
variable {w w':World} {P:Program} {k:TypeId} {b n:Nat} {z:Value} {f:ByteArray→Option Value}
theorem MapS.made (w:World) (P:Program) (k:TypeId) (z:Value):MapS (w.alloc (.map #[] 0)) P k w.heap.size 0 z fun _=>none:=
 ⟨_,World.ownsMap_made _ _ _ _,isMap_empty,fun i=>rfl,fun i=>rfl⟩
theorem MapS.lt (h:MapS w P k b n z f):b<w.heap.size:=by obtain⟨D,h,_⟩:=h; exact h.lt
theorem MapS.mono (h:MapS w P k b n z f) {n':Nat} (hn:n≤n'):MapS w P k b n' z f:=by obtain⟨D,h,h2⟩:=h; exact⟨D,h.mono hn,h2⟩
theorem MapS.block (h:MapS w P k b n z f) (hb:w'.heap[b]?=w.heap[b]?):MapS w' P k b n z f:=by
 obtain⟨D,⟨es,clock,h1,h2⟩,h3⟩:=h;exact⟨D,⟨es,clock,hb.trans h1,h2⟩,h3⟩
theorem MapS.below {B:Nat} (h:MapS w P k b n z f) (hb:Below B w w') (hlt:b<B):MapS w' P k b n z f:=h.block (hb.block b hlt)
theorem MapS.fresh (h:MapS w P k b n z f) (hb:Below w.heap.size w w'):MapS w' P k b n z f:=h.below hb h.lt
end
section
variable {P:Program} (w:World) {ops:Array Oper} {rest:List Oper} {o:Oper} {a:Act} {Q:Exit→Act→World→Prop}
theorem wpList_lookup_S (hg:o.guard=none) (m x:Operand) (t:TypeId) (c:Bool) (hop:o.op=Op.lookup t m x c)
  (k e:TypeId) (hk:P.underlying k=some .string) (ht:P.underlying t=some (.map k e)) {z:Value} (hz:(zeroValue e).run P w=.ok z w) (b n:Nat) (f:ByteArray→Option Value)
  (hm:a.eval m=.map (some b)) (h:MapS w P k b n z f) (i:ByteArray) (hx:a.eval x=.string i) (hw:i.size≤maxLen)
  (hK:wpList P ops Q rest (a.put o.dst (if c then .tuple #[(f i).getD z,.bool (f i).isSome] else (f i).getD z)) w):
  wpList P ops Q (o :: rest) a w:=by
 refine wpList_plain hg fun K' hK'=>?_;obtain⟨D,hown,_,hh,ha⟩:=h;have hkey:keyOf P k (.string i)=some (litS i):=WideMaps.keyOf_string_mk hk hw
 cases c with
 | false=>
   obtain⟨v,ps,hrun,hv⟩:=hown.lookup (string_keyed hk) ht hz (zd:=.held z) (zp:=[]) rfl hkey;rw[ha i] at hv
   have e1:v=(f i).getD z:=by
    unfold anyElemS at hv;simp only[Option.some.injEq,Prod.mk.injEq,DataW.held.injEq] at hv;exact hv.1
   subst e1;unfold Oper.wp;simp[execOp,hop,hm,hx,hrun,Result.andThen];exact hK' _ _ hK
 | true=>
   obtain⟨v,ps,hrun,hv⟩:=hown.look_ok (string_keyed hk) ht hz (zd:=.held z) (zp:=[]) rfl hkey;rw[ha i] at hv
   have e1:v=(f i).getD z:=by
    unfold anyElemS at hv;simp only[Option.some.injEq,Prod.mk.injEq,DataW.held.injEq] at hv;exact hv.1
   subst e1;rw[hh i] at hrun;unfold Oper.wp;simp[execOp,hop,hm,hx,hrun,Result.andThen];exact hK' _ _ hK
theorem wpList_look_S (hg:o.guard=none) (m x:Operand) (t:TypeId) (hop:o.op=Op.lookup t m x false)
  (k e:TypeId) (hk:P.underlying k=some .string) (ht:P.underlying t=some (.map k e)) {z:Value} (hz:(zeroValue e).run P w=.ok z w) (b n:Nat) (f:ByteArray→Option Value)
  (hm:a.eval m=.map (some b)) (h:MapS w P k b n z f) (i:ByteArray) (hx:a.eval x=.string i) (hw:i.size≤maxLen) (v:Value) (hf:(f i).getD z=v)
  (hK:wpList P ops Q rest (a.put o.dst v) w):wpList P ops Q (o :: rest) a w:=
 wpList_lookup_S w hg m x t false hop k e hk ht hz b n f hm h i hx hw (by rw[hf]; exact hK)
theorem wpList_update_S (hg:o.guard=none) (m x y:Operand) (t:TypeId) (hop:o.op=Op.mapUpdate t m x y)
  (k e:TypeId) (hk:P.underlying k=some .string) (ht:P.underlying t=some (.map k e)) (z:Value) (b n:Nat) (f:ByteArray→Option Value)
  (hm:a.eval m=.map (some b)) (h:MapS w P k b n z f) (hn:n<maxLen) (i:ByteArray) (hx:a.eval x=.string i) (hw:i.size≤maxLen) (v:Value) (hv:a.eval y=v)
  (hK:∀ w',MapS w' P k b (n+1) z (updS f i v)→w.grownBy w' (some b)→wpList P ops Q rest (a.put o.dst undef) w'):
  wpList P ops Q (o :: rest) a w:=by
 obtain⟨D,hown,hmap,hh,ha⟩:=h;refine wpList_mapUpdate_own w hg m x y t hop k e (string_keyed hk) ht anyElemS b n D hm hown hn (.string i) v (litS i) hx hv (WideMaps.keyOf_string_mk hk hw) (.held v) [] rfl fun w' h1 h2=>hK w' ⟨_,h1,hmap.put _ _,fun j=>?_,fun j=>?_⟩ h2
 · by_cases e:j=i
   · subst e
     rw[has_put_same hmap (litS_key j)];simp[updS]
   · rw[has_put_other (litS_ne e),hh j]
     simp[updS,e]
 · by_cases e:j=i
   · subst e
     rw[atKey_put_same hmap (litS_key j)];simp[updS]
   · rw[atKey_put_other (litS_ne e),ha j]
     simp[updS,e]
end
end Go.Proofs.YtgpeijkjmkocgaaDoor
namespace Go.Proofs.YtgpeijkjmkocgaaDoor
open Go.RowKit
def nearI (m:Int):Int:=if m≤1 then 1 else if m≤3 then m else 3
theorem nearI_lo (m:Int):1≤nearI m:=by unfold nearI; split <;> (try split) <;> omega
theorem nearI_hi (m:Int):nearI m≤3:=by unfold nearI; split <;> (try split) <;> omega
theorem nearI_eq (m:Int):min (max m 1) 3=nearI m:=by unfold nearI; split <;> (try split) <;> omega
theorem near_any (m:Int) (w:World):
  Calls Tryd.prog 102 #[.int .u8 m] w fun e w'=>e=.returned (.int .u8 (nearI m))∧w=w':=by
 have hmx:=@run_max2 Tryd.prog;have hmn:=@run_min2 Tryd.prog
 go_enter Tryd.func102,Tryd.ntmps102
 go_wp2
 go_ret;exact⟨ret_int (nearI_eq m),rfl⟩
def tOne:ByteArray:=⟨#[49]⟩
def tAff:ByteArray:=⟨#[63]⟩
def tMany:ByteArray:=⟨#[42]⟩
theorem texts_any (w:World):
  Calls Tryd.prog 101 #[] w fun e w'=>e=.returned (.agg #[.string ⟨#[49]⟩,.string ⟨#[63]⟩,.string ⟨#[42]⟩])∧Below w.heap.size w w':=by
 go_enter Tryd.func101,Tryd.ntmps101
 go_wp2_with fail;exact bodyPost_ret (v:=.agg #[.string ⟨#[49]⟩,.string ⟨#[63]⟩,.string ⟨#[42]⟩]) (by simp[results,Tryd.results101,go_sem]) rfl ⟨rfl,(Below.refl _ _).alloc (Nat.le_refl _) _⟩
def mtext (m:Int):ByteArray:=if nearI m=1 then tOne else if nearI m=2 then tAff else tMany
theorem near_at (m v:Int) (h:nearI m=v) (w:World):
  Calls Tryd.prog 102 #[.int .u8 m] w fun e w'=>e=.returned (.int .u8 v)∧w=w':=
 (near_any m w).mono fun _ _ ⟨he,hw⟩=>⟨by rw[he,h],hw⟩
theorem text_any (m:Int) (w:World):
  Calls Tryd.prog 76 #[.int .u8 m] w fun e w'=>e=.returned (.string (mtext m))∧Below w.heap.size w w':=by
 have l:=nearI_lo m;have h:=nearI_hi m
 have i0:∀ w,(Instr.index 166 (.agg #[.string ⟨#[49]⟩,.string ⟨#[63]⟩,.string ⟨#[42]⟩]) (.int .u8 0)).run Tryd.prog w=.ok (.string ⟨#[49]⟩) w:=fun _=>by kernel_rfl
 have i1:∀ w,(Instr.index 166 (.agg #[.string ⟨#[49]⟩,.string ⟨#[63]⟩,.string ⟨#[42]⟩]) (.int .u8 1)).run Tryd.prog w=.ok (.string ⟨#[63]⟩) w:=fun _=>by kernel_rfl
 have i2:∀ w,(Instr.index 166 (.agg #[.string ⟨#[49]⟩,.string ⟨#[63]⟩,.string ⟨#[42]⟩]) (.int .u8 2)).run Tryd.prog w=.ok (.string ⟨#[42]⟩) w:=fun _=>by kernel_rfl
 have hcase:nearI m=1∨nearI m=2∨nearI m=3:=by omega
 clear l h
 go_enter Tryd.func76,Tryd.ntmps76
 go_wp2_with (go_at_call 101; refine(texts_any _).mono ?_; rintro e w1 ⟨rfl,hb1⟩)
 rcases hcase with e | e | e
 · refine(near_at m 1 e _).mono ?_
   rintro e' w2 ⟨rfl,rfl⟩
   have H:Hid (mtext m=⟨#[49]⟩):=by show _=_; simp[mtext,e,tOne]
   clear e;go_wp2_with fail;go_ret
   exact⟨by rw[H.out]; rfl,hb1⟩
 · refine(near_at m 2 e _).mono ?_
   rintro e' w2 ⟨rfl,rfl⟩
   have H:Hid (mtext m=⟨#[63]⟩):=by show _=_; simp[mtext,e,tAff]
   clear e;go_wp2_with fail;go_ret
   exact⟨by rw[H.out]; rfl,hb1⟩
 · refine(near_at m 3 e _).mono ?_
   rintro e' w2 ⟨rfl,rfl⟩
   have H:Hid (mtext m=⟨#[42]⟩):=by show _=_; simp[mtext,e,tMany]
   clear e;go_wp2_with fail;go_ret
   exact⟨by rw[H.out]; rfl,hb1⟩
section
variable {P:Program} {ops:Array Oper} {Q:Exit→Act→World→Prop} {md:Region.Mode} {S:World→Prop} {tl:Nat}
def wpAnyT (P:Program) (md:Region.Mode) (ops:Array Oper) (Q:Exit→Act→World→Prop) (S:World→Prop) (tl:Nat):Nat→Array Bool→Act→World→Prop
 | 0,listed,a,w=>Region.ready md ops listed=[]∧Q .normal a w
 | fuel+1,listed,a,w=>
   (Region.ready md ops listed=[]→Q .normal a w) ∧
   ∀ i∈Region.ready md ops listed,wpOp P ops Q i (fun a' w'=>(i<tl→S w')∧wpAnyT P md ops Q S tl fuel (listed.setIfInBounds i true) a' w') a w
theorem wpAny_of_T:∀ (fuel:Nat) (listed:Array Bool) (a:Act) (w:World),wpAnyT P md ops Q S tl fuel listed a w→wpAny P md ops Q fuel listed a w
 | 0,_,_,_,h=>h
 | fuel+1,_,_,_,h=>⟨h.1,fun i hi=>wpOp_mono (fun a' w' h'=>wpAny_of_T fuel _ a' w' h'.2) (h.2 i hi)⟩
def tailWaits (md:Region.Mode) (ops:Array Oper) (tl i:Nat):Bool:=
 (List.range ops.size).all fun j=>decide (j<tl) || (match ops[j]? with
   | some oj=>oj.after.any fun e=>Region.binds md e&&e.on==i
   | none=>false)
theorem tailWaits_spec {i:Nat} (h:tailWaits md ops tl i=true) (j:Nat) (oj:Oper) (hj:ops[j]?=some oj) (hno:∀ e∈oj.after,Region.binds md e=true→e.on≠i):j<tl:=by
 have hlt:j<ops.size:=(Array.getElem?_eq_some_iff.1 hj).1;have h1:=List.all_eq_true.1 h j (List.mem_range.2 hlt);rw[hj,Bool.or_eq_true,decide_eq_true_eq] at h1
 rcases h1 with h1 | h1
 · exact h1
 · obtain⟨e,he,hb⟩:=Array.any_eq_true'.1 h1
   simp only[Bool.and_eq_true,beq_iff_eq] at hb;exact absurd hb.2 (hno e he hb.1)
theorem wpAnyT_first {i:Nat} {oi:Oper} {v:Value} (hi:ops[i]?=some oi) (hsel:∀ (j:Nat) (o:Oper) cs b,ops[j]?=some o→o.op ≠ .select cs b)
  (hQ:∀ c a w,Q (.panic c) (a.put oi.dst v) w→Q (.panic c) a w) (htl:tailWaits md ops tl i=true):
  ∀ (fuel:Nat) (listed:Array Bool) (a:Act) (w:World),
   (∀ j oj,ops[j]?=some oj→j≠i→listed.getD j true=false→(∀ e∈oj.after,Region.binds md e=true→e.on≠i)→oi.apart ops oj=true) →
   i∈Region.ready md ops listed→YieldsIf P ops S oi v a→S w →
   wpAnyT P md ops Q S tl fuel (listed.setIfInBounds i true) (a.put oi.dst v) w→wpAnyT P md ops Q S tl (fuel+1) listed a w:=by
 intro fuel
 induction fuel with
 | zero=>
   intro listed a w _ hr hy hS H
   refine⟨fun h=>(by rw[h] at hr; cases hr),fun j hj=>?_⟩
   by_cases hji:j=i
   · subst hji; exact hy.wpOp hi hS ⟨fun _=>hS,H⟩
   · have:=ready_mono hj hji
     rw[H.1] at this
     cases this
 | succ fuel ih=>
   intro listed a w hfree hr hy hS H
   refine⟨fun h=>(by rw[h] at hr; cases hr),fun j hj=>?_⟩
   by_cases hji:j=i
   · subst hji; exact hy.wpOp hi hS ⟨fun _=>hS,H⟩
   · have h1:=H.2 j (ready_mono hj hji)
     obtain⟨hjun,oj,hoj,hall⟩:=mem_ready.1 hj
     have hnot:∀ e∈oj.after,Region.binds md e=true→e.on≠i:=fun e he hb heq=>by
      have h1:=hall e he hb;have h0:=(mem_ready.1 hr).1;rw[heq] at h1
      rcases Nat.lt_or_ge i listed.size with h' | h'
      · simp[h'] at h0 h1; rw[h0] at h1; cases h1
      · simp[Array.getElem?_eq_none h'] at h1
     have hjt:j<tl:=tailWaits_spec htl j oj hoj hnot;have h2:=wpOp_putIf hoj (hfree j oj hoj hji hjun hnot) (fun cs b=>hsel i oi cs b hi) (fun cs b=>hsel j oj cs b hoj) hQ hy h1
     have hfree':∀ k ok,ops[k]?=some ok→k≠i→(listed.setIfInBounds j true).getD k true=false →
       (∀ e∈ok.after,Region.binds md e=true→e.on≠i)→oi.apart ops ok=true:=fun k ok hk hki hun hno=>by
      refine hfree k ok hk hki ?_ hno
      by_cases hjk:j=k
      · subst hjk; exact hjun
      · rw[getD_set_ne true hjk] at hun; exact hun
     refine wpOp_mono (fun a' w' h3=>⟨h3.2.1,ih (listed.setIfInBounds j true) a' w' hfree' (ready_mono hr (Ne.symm hji)) h3.1 (h3.2.1 hjt) ?_⟩) h2;rw[Array.setIfInBounds_comm _ _ hji];exact h3.2.2
theorem wpAnyT_take {i:Nat} {oi:Oper} {v:Value} {fuel:Nat} {listed:Array Bool} {a:Act} {w:World} (hi:ops[i]?=some oi)
  (hs:Region.noSelect ops=true) (hf:Region.free md ops listed i=true) (hr:(Region.ready md ops listed).contains i=true) (htl:tailWaits md ops tl i=true)
  (hQ:∀ c a w,Q (.panic c) (a.put oi.dst v) w→Q (.panic c) a w) (hy:YieldsIf P ops S oi v a) (hS:S w)
  (h:wpAnyT P md ops Q S tl fuel (listed.setIfInBounds i true) (a.put oi.dst v) w):wpAnyT P md ops Q S tl (fuel+1) listed a w:=
 wpAnyT_first hi (Region.noSelect_spec hs) hQ htl fuel listed a w (Region.free_spec hi hf) (by simpa using hr) hy hS h
theorem wpAnyT_step {i:Nat} {o:Oper} {fuel:Nat} {listed:Array Bool} {a:Act} {w:World} (hr:Region.ready md ops listed=[i]) (ho:ops[i]?=some o)
  (h:∀ K:Act→World→Prop,Hid (∀ a' w',S w'→wpAnyT P md ops Q S tl fuel (listed.setIfInBounds i true) a' w'→K a' w') →
    if Region.wanted o (yielded ops a.tmps)=true then o.wp P a w K Q else K (a.put o.dst undef) w):wpAnyT P md ops Q S tl (fuel+1) listed a w:=by
 refine⟨fun h0=>(by rw[hr] at h0; cases h0),fun j hj=>?_⟩
 rw[hr] at hj
 obtain rfl:j=i:=by simpa using hj
 have:=h (fun a' w'=>(j<tl→S w')∧wpAnyT P md ops Q S tl fuel (listed.setIfInBounds j true) a' w') (fun a' w' h1 h2=>⟨fun _=>h1,h2⟩);unfold wpOp;simp only[ho]
 split
 · rename_i hw; rw[if_pos hw] at this; exact .inl this
 · rename_i hw; rw[if_neg hw] at this; exact this
def seqT (md:Region.Mode) (ops:Array Oper):Nat→Nat→Array Bool→Bool
 | 0,_,listed=>(Region.ready md ops listed).isEmpty
 | g+1,k,listed=>decide (Region.ready md ops listed=[k])&&seqT md ops g (k+1) (listed.setIfInBounds k true)
theorem wpAnyT_of_seq:∀ (l:List Oper) (k:Nat) (listed:Array Bool) (a:Act) (w:World),tl≤k→(∀ j,l[j]?=ops[k+j]?) →
  seqT md ops l.length k listed=true→wpList P ops Q l a w→wpAnyT P md ops Q S tl l.length listed a w
 | [],_,_,_,_,_,_,hB,h=>⟨by simpa[seqT] using hB,h⟩
 | o :: l,k,listed,a,w,hk,hl,hB,h=>by
   have h0:ops[k]?=some o:=by simpa using (hl 0).symm
   simp only[List.length_cons,seqT,Bool.and_eq_true,decide_eq_true_eq] at hB
   refine⟨fun h1=>(by rw[hB.1] at h1; cases h1),fun i hi=>?_⟩
   rw[hB.1] at hi
   have hik:i=k:=by simpa using hi
   subst hik
   have hw:wpOp P ops Q i (wpList P ops Q l) a w:=by unfold wpOp; simp only[h0]; exact h
   exact wpOp_mono (fun a' w' h'=>⟨fun hlt=>absurd hlt (by omega),wpAnyT_of_seq l (i+1) _ a' w' (by omega) (fun j=>by have:=hl (j+1); simpa[Nat.add_assoc,Nat.add_comm 1 j] using this) hB.2 h'⟩) hw
theorem wpAnyT_seq {l:List Oper} (k:Nat) {fuel:Nat} {listed:Array Bool} {a:Act} {w:World} (hk:tl≤k) (hf:(l.drop k).length=fuel) (hB:seqT md l.toArray (l.drop k).length k listed=true)
  (h:wpList P l.toArray Q (l.drop k) a w):wpAnyT P md l.toArray Q S tl fuel listed a w:=by
 rw[← hf]
 exact wpAnyT_of_seq (l.drop k) k listed a w hk (fun j=>by simp[List.getElem?_drop]) hB h
theorem wpOp_step {i:Nat} {o:Oper} {a:Act} {w:World} {K0:Act→World→Prop} (ho:ops[i]?=some o)
  (h:∀ K:Act→World→Prop,Hid (∀ a' w',K0 a' w'→K a' w')→if Region.wanted o (yielded ops a.tmps)=true then o.wp P a w K Q else K (a.put o.dst undef) w):wpOp P ops Q i K0 a w:=by
 have:=h K0 (fun _ _ h=>h);unfold wpOp;simp only[ho]
 split
 · rename_i hw; rw[if_pos hw] at this; exact .inl this
 · rename_i hw; rw[if_neg hw] at this; exact this
theorem wp_region_T (S:World→Prop) (tl:Nat) {id:Nat} {a:Act} {w:World} (hm:P.follows .mixedOrders=true) (hS:S w.drew)
  (h:S w.drew→wpAnyT P .any ops Q S tl ops.size (Array.replicate ops.size false) a w.drew):(Code.region id ops true).wp P Q a w:=
 wp_region_any hm (wpAny_of_T _ _ _ _ (h hS))
end
section
variable {P:Program} {ops:Array Oper} {Q:Exit→Act→World→Prop} {md:Region.Mode} {S:World→Prop} {tl:Nat}
theorem wpAnyT_two {i j:Nat} {oi oj:Oper} {fuel:Nat} {listed:Array Bool} {a:Act} {w:World} (hr:Region.ready md ops listed=[i,j]) (hi:ops[i]?=some oi) (hj:ops[j]?=some oj)
  (h1:∀ K:Act→World→Prop,Hid (∀ a' w',S w'→wpAnyT P md ops Q S tl fuel (listed.setIfInBounds i true) a' w'→K a' w') →
    if Region.wanted oi (yielded ops a.tmps)=true then oi.wp P a w K Q else K (a.put oi.dst undef) w)
  (h2:∀ K:Act→World→Prop,Hid (∀ a' w',S w'→wpAnyT P md ops Q S tl fuel (listed.setIfInBounds j true) a' w'→K a' w') →
    if Region.wanted oj (yielded ops a.tmps)=true then oj.wp P a w K Q else K (a.put oj.dst undef) w):wpAnyT P md ops Q S tl (fuel+1) listed a w:=by
 refine⟨fun h0=>(by rw[hr] at h0; cases h0),fun k hk=>?_⟩
 rw[hr] at hk
 rcases qk.1 hk with rfl | hk
 · have:=h1 (fun a' w'=>(k<tl→S w')∧wpAnyT P md ops Q S tl fuel (listed.setIfInBounds k true) a' w') (fun a' w' h1 h2=>⟨fun _=>h1,h2⟩)
   unfold wpOp;simp only[hi]
   split
   · rename_i hw; rw[if_pos hw] at this; exact .inl this
   · rename_i hw; rw[if_neg hw] at this; exact this
 · obtain rfl:k=j:=by simpa using hk
   have:=h2 (fun a' w'=>(k<tl→S w')∧wpAnyT P md ops Q S tl fuel (listed.setIfInBounds k true) a' w') (fun a' w' h1 h2=>⟨fun _=>h1,h2⟩);unfold wpOp;simp only[hj]
   split
   · rename_i hw; rw[if_pos hw] at this; exact .inl this
   · rename_i hw; rw[if_neg hw] at this; exact this
end
section
variable {P:Program} {ops:Array Oper} {Q:Exit→Act→World→Prop} {md:Region.Mode} {S:World→Prop} {tl:Nat}
def waitsFor (md:Region.Mode) (ops:Array Oper):Nat→Nat→Nat→Bool
 | 0,_,_=>false
 | f+1,j,i=>match ops[j]? with
   | some oj=>oj.after.any fun e=>Region.binds md e&&(e.on==i || waitsFor md ops f e.on i)
   | none=>false
def ClosedL (md:Region.Mode) (ops:Array Oper) (listed:Array Bool):Prop:=∀ j oj,ops[j]?=some oj→listed.getD j false=true→∀ e∈oj.after,Region.binds md e=true→listed.getD e.on false=true
def closedB (md:Region.Mode) (ops:Array Oper) (listed:Array Bool):Bool:=
 (List.range ops.size).all fun j=>!listed.getD j false || (match ops[j]? with
   | some oj=>oj.after.all fun e=>!Region.binds md e || listed.getD e.on false
   | none=>true)
theorem closedB_spec {listed:Array Bool} (h:closedB md ops listed=true):ClosedL md ops listed:=by
 intro j oj hj hl e he hb;have hlt:j<ops.size:=(Array.getElem?_eq_some_iff.1 hj).1;have h1:=List.all_eq_true.1 h j (List.mem_range.2 hlt);rw[hj,hl] at h1;simp only[Bool.not_true,Bool.false_or] at h1;have:=Array.all_eq_true'.1 h1 e he;rw[hb] at this
 simpa using this
theorem ClosedL.waits {listed:Array Bool} (h:ClosedL md ops listed) {i:Nat}:∀ (f j:Nat) (oj:Oper),ops[j]?=some oj→(∀ e∈oj.after,Region.binds md e=true→listed.getD e.on false=true)→waitsFor md ops f j i=true→listed.getD i false=true
 | 0,_,_,_,_,hw=>by simp[waitsFor] at hw
 | f+1,j,oj,hj,hall,hw=>by
   unfold waitsFor at hw;rw[hj] at hw;obtain⟨e,he,hq⟩:=Array.any_eq_true'.1 hw;simp only[Bool.and_eq_true,Bool.or_eq_true,beq_iff_eq] at hq;have hl:=hall e he hq.1
   rcases hq.2 with e1 | e1
   · rw[← e1]; exact hl
   · cases hk:ops[e.on]? with
     | none=>cases f <;> simp[waitsFor,hk] at e1
     | some ok=>exact h.waits f e.on ok hk (fun e2 he2 hb2=>h e.on ok hk hl e2 he2 hb2) e1
theorem ClosedL.set {listed:Array Bool} (h:ClosedL md ops listed) {j:Nat} (hj:j∈Region.ready md ops listed):ClosedL md ops (listed.setIfInBounds j true):=by
 have keep:∀ k,listed.getD k false=true→(listed.setIfInBounds j true).getD k false=true:=fun k hk=>by
  by_cases e:j=k
  · subst e
    simp only[Array.getD_eq_getD_getElem?] at hk ⊢
    by_cases hs:j<listed.size
    · simp[hs]
    · rw[Array.getElem?_eq_none (by omega)] at hk; cases hk
  · rw[getD_set_ne false e]; exact hk
 intro k ok hk hl e he hb
 by_cases q:j=k
 · subst q
   obtain⟨_,o,ho,hall⟩:=mem_ready.1 hj;rw[hk] at ho
   cases ho
   exact keep _ (hall e he hb)
 · rw[getD_set_ne false q] at hl
   exact keep _ (h k ok hk hl e he hb)
def tailWaitsC (md:Region.Mode) (ops:Array Oper) (tl i:Nat):Bool:=
 (List.range ops.size).all fun j=>decide (j<tl) || waitsFor md ops 4 j i
theorem wpAnyT_firstC {i:Nat} {oi:Oper} {v:Value} (hi:ops[i]?=some oi) (hsel:∀ (j:Nat) (o:Oper) cs b,ops[j]?=some o→o.op ≠ .select cs b)
  (hQ:∀ c a w,Q (.panic c) (a.put oi.dst v) w→Q (.panic c) a w) (htl:tailWaitsC md ops tl i=true):
  ∀ (fuel:Nat) (listed:Array Bool) (a:Act) (w:World),ClosedL md ops listed →
   (∀ j oj,ops[j]?=some oj→j≠i→listed.getD j true=false→(∀ e∈oj.after,Region.binds md e=true→e.on≠i)→oi.apart ops oj=true) →
   i∈Region.ready md ops listed→YieldsIf P ops S oi v a→S w →
   wpAnyT P md ops Q S tl fuel (listed.setIfInBounds i true) (a.put oi.dst v) w→wpAnyT P md ops Q S tl (fuel+1) listed a w:=by
 intro fuel
 induction fuel with
 | zero=>
   intro listed a w _ _ hr hy hS H
   refine⟨fun h=>(by rw[h] at hr; cases hr),fun j hj=>?_⟩
   by_cases hji:j=i
   · subst hji; exact hy.wpOp hi hS ⟨fun _=>hS,H⟩
   · have:=ready_mono hj hji
     rw[H.1] at this
     cases this
 | succ fuel ih=>
   intro listed a w hcl hfree hr hy hS H
   refine⟨fun h=>(by rw[h] at hr; cases hr),fun j hj=>?_⟩
   by_cases hji:j=i
   · subst hji; exact hy.wpOp hi hS ⟨fun _=>hS,H⟩
   · have h1:=H.2 j (ready_mono hj hji)
     obtain⟨hjun,oj,hoj,hall⟩:=mem_ready.1 hj
     have hiF:listed.getD i false=true→False:=fun h=>by
      have h0:=(mem_ready.1 hr).1
      rcases Nat.lt_or_ge i listed.size with h' | h'
      · simp[h'] at h0 h; rw[h0] at h; cases h
      · simp[Array.getElem?_eq_none h'] at h
     have hnot:∀ e∈oj.after,Region.binds md e=true→e.on≠i:=fun e he hb heq=>hiF (heq ▸ hall e he hb)
     have hjt:j<tl:=by
      have hlt:j<ops.size:=(Array.getElem?_eq_some_iff.1 hoj).1;have h1:=List.all_eq_true.1 htl j (List.mem_range.2 hlt);rw[Bool.or_eq_true,decide_eq_true_eq] at h1;exact h1.resolve_right fun hw=>hiF (hcl.waits 4 j oj hoj hall hw)
     have h2:=wpOp_putIf hoj (hfree j oj hoj hji hjun hnot) (fun cs b=>hsel i oi cs b hi) (fun cs b=>hsel j oj cs b hoj) hQ hy h1
     have hfree':∀ k ok,ops[k]?=some ok→k≠i→(listed.setIfInBounds j true).getD k true=false →
       (∀ e∈ok.after,Region.binds md e=true→e.on≠i)→oi.apart ops ok=true:=fun k ok hk hki hun hno=>by
      refine hfree k ok hk hki ?_ hno
      by_cases hjk:j=k
      · subst hjk; exact hjun
      · rw[getD_set_ne true hjk] at hun; exact hun
     refine wpOp_mono (fun a' w' h3=>⟨h3.2.1,ih (listed.setIfInBounds j true) a' w' (hcl.set hj) hfree' (ready_mono hr (Ne.symm hji)) h3.1 (h3.2.1 hjt) ?_⟩) h2;rw[Array.setIfInBounds_comm _ _ hji];exact h3.2.2
theorem wpAnyT_takeC {i:Nat} {oi:Oper} {v:Value} {fuel:Nat} {listed:Array Bool} {a:Act} {w:World} (hi:ops[i]?=some oi)
  (hs:Region.noSelect ops=true) (hf:Region.free md ops listed i=true) (hr:(Region.ready md ops listed).contains i=true) (hc:closedB md ops listed=true) (htl:tailWaitsC md ops tl i=true)
  (hQ:∀ c a w,Q (.panic c) (a.put oi.dst v) w→Q (.panic c) a w) (hy:YieldsIf P ops S oi v a) (hS:S w)
  (h:wpAnyT P md ops Q S tl fuel (listed.setIfInBounds i true) (a.put oi.dst v) w):wpAnyT P md ops Q S tl (fuel+1) listed a w:=
 wpAnyT_firstC hi (Region.noSelect_spec hs) hQ htl fuel listed a w (closedB_spec hc) (Region.free_spec hi hf) (by simpa using hr) hy hS h
end
section
variable {P:Program} {ops:Array Oper} {Q:Exit→Act→World→Prop} {md:Region.Mode} {S:World→Prop} {tl:Nat}
def okU (md:Region.Mode) (ops:Array Oper) (tl:Nat) (l:Array Bool) (i:Nat):Bool:=Region.noSelect ops&&(Region.free md ops l i&&((Region.ready md ops l).contains i&&tailWaits md ops tl i))
def okC (md:Region.Mode) (ops:Array Oper) (tl:Nat) (l:Array Bool) (i:Nat):Bool:=Region.noSelect ops&&(Region.free md ops l i&&((Region.ready md ops l).contains i&&(closedB md ops l&&tailWaitsC md ops tl i)))
def wpNx (k:Nat) (P:Program) (md:Region.Mode) (ops:Array Oper) (Q:Exit→Act→World→Prop) (S:World→Prop) (tl fuel:Nat) (l:Array Bool) (a:Act) (w:World):Prop:=wpAnyT P md ops Q S tl fuel l a w
variable {oi:Oper} {v:Value} {fuel k:Nat} {l:Array Bool} {a:Act} {w:World}
theorem nx0 (k:Nat) (h:wpNx k P md ops Q S tl fuel l a w):wpAnyT P md ops Q S tl fuel l a w:=h
theorem nx9 (h:wpAnyT P md ops Q S tl fuel l a w):wpNx k P md ops Q S tl fuel l a w:=h
theorem nx (hi:ops[k]?=some oi) (hb:okU md ops tl l k=true) (hQ:∀ c a w,Q (.panic c) (a.put oi.dst v) w→Q (.panic c) a w) (hw:Region.wanted oi (yielded ops a.tmps)=true) (hy:∀ w,S w→(execOp a.eval oi).run P w=.ok (.value v) w) (hS:S w)
  (h:wpNx (k+1) P md ops Q S tl fuel (l.setIfInBounds k true) (a.put oi.dst v) w):wpNx k P md ops Q S tl (fuel+1) l a w:=by
 unfold okU at hb;simp only[Bool.and_eq_true] at hb;exact wpAnyT_take hi hb.1 hb.2.1 hb.2.2.1 hb.2.2.2 hQ (Or.inl ⟨hw,hy⟩) hS h
theorem nxk (hi:ops[k]?=some oi) (hb:okU md ops tl l k=true) (hQ:∀ c a w,Q (.panic c) (a.put oi.dst undef) w→Q (.panic c) a w) (hw:Region.wanted oi (yielded ops a.tmps)=false) (hS:S w)
  (h:wpNx (k+1) P md ops Q S tl fuel (l.setIfInBounds k true) (a.put oi.dst undef) w):wpNx k P md ops Q S tl (fuel+1) l a w:=by
 unfold okU at hb;simp only[Bool.and_eq_true] at hb;exact wpAnyT_take hi hb.1 hb.2.1 hb.2.2.1 hb.2.2.2 hQ (Or.inr ⟨hw,rfl⟩) hS h
theorem nxC (hi:ops[k]?=some oi) (hb:okC md ops tl l k=true) (hQ:∀ c a w,Q (.panic c) (a.put oi.dst v) w→Q (.panic c) a w) (hw:Region.wanted oi (yielded ops a.tmps)=true) (hy:∀ w,S w→(execOp a.eval oi).run P w=.ok (.value v) w) (hS:S w)
  (h:wpNx (k+1) P md ops Q S tl fuel (l.setIfInBounds k true) (a.put oi.dst v) w):wpNx k P md ops Q S tl (fuel+1) l a w:=by
 unfold okC at hb;simp only[Bool.and_eq_true] at hb;exact wpAnyT_takeC hi hb.1 hb.2.1 hb.2.2.1 hb.2.2.2.1 hb.2.2.2.2 hQ (Or.inl ⟨hw,hy⟩) hS h
end
section
variable {P:Program} {ops:Array Oper} {Q:Exit→Act→World→Prop} {md:Region.Mode} {S:World→Prop} {tl:Nat}
def tailWaitsD (md:Region.Mode) (ops:Array Oper) (tl i:Nat):Bool:=
 (List.range ops.size).all fun j=>decide (j<tl) || waitsFor md ops 9 j i
theorem wpAnyT_firstD {i:Nat} {oi:Oper} {v:Value} (hi:ops[i]?=some oi) (hsel:∀ (j:Nat) (o:Oper) cs b,ops[j]?=some o→o.op ≠ .select cs b)
  (hQ:∀ c a w,Q (.panic c) (a.put oi.dst v) w→Q (.panic c) a w) (htl:tailWaitsD md ops tl i=true):
  ∀ (fuel:Nat) (listed:Array Bool) (a:Act) (w:World),ClosedL md ops listed →
   (∀ j oj,ops[j]?=some oj→j≠i→listed.getD j true=false→(∀ e∈oj.after,Region.binds md e=true→e.on≠i)→oi.apart ops oj=true) →
   i∈Region.ready md ops listed→YieldsIf P ops S oi v a→S w →
   wpAnyT P md ops Q S tl fuel (listed.setIfInBounds i true) (a.put oi.dst v) w→wpAnyT P md ops Q S tl (fuel+1) listed a w:=by
 intro fuel
 induction fuel with
 | zero=>
   intro listed a w _ _ hr hy hS H
   refine⟨fun h=>(by rw[h] at hr; cases hr),fun j hj=>?_⟩
   by_cases hji:j=i
   · subst hji; exact hy.wpOp hi hS ⟨fun _=>hS,H⟩
   · have:=ready_mono hj hji
     rw[H.1] at this
     cases this
 | succ fuel ih=>
   intro listed a w hcl hfree hr hy hS H
   refine⟨fun h=>(by rw[h] at hr; cases hr),fun j hj=>?_⟩
   by_cases hji:j=i
   · subst hji; exact hy.wpOp hi hS ⟨fun _=>hS,H⟩
   · have h1:=H.2 j (ready_mono hj hji)
     obtain⟨hjun,oj,hoj,hall⟩:=mem_ready.1 hj
     have hiF:listed.getD i false=true→False:=fun h=>by
      have h0:=(mem_ready.1 hr).1
      rcases Nat.lt_or_ge i listed.size with h' | h'
      · simp[h'] at h0 h; rw[h0] at h; cases h
      · simp[Array.getElem?_eq_none h'] at h
     have hnot:∀ e∈oj.after,Region.binds md e=true→e.on≠i:=fun e he hb heq=>hiF (heq ▸ hall e he hb)
     have hjt:j<tl:=by
      have hlt:j<ops.size:=(Array.getElem?_eq_some_iff.1 hoj).1;have h1:=List.all_eq_true.1 htl j (List.mem_range.2 hlt);rw[Bool.or_eq_true,decide_eq_true_eq] at h1;exact h1.resolve_right fun hw=>hiF (hcl.waits 9 j oj hoj hall hw)
     have h2:=wpOp_putIf hoj (hfree j oj hoj hji hjun hnot) (fun cs b=>hsel i oi cs b hi) (fun cs b=>hsel j oj cs b hoj) hQ hy h1
     have hfree':∀ k ok,ops[k]?=some ok→k≠i→(listed.setIfInBounds j true).getD k true=false →
       (∀ e∈ok.after,Region.binds md e=true→e.on≠i)→oi.apart ops ok=true:=fun k ok hk hki hun hno=>by
      refine hfree k ok hk hki ?_ hno
      by_cases hjk:j=k
      · subst hjk; exact hjun
      · rw[getD_set_ne true hjk] at hun; exact hun
     refine wpOp_mono (fun a' w' h3=>⟨h3.2.1,ih (listed.setIfInBounds j true) a' w' (hcl.set hj) hfree' (ready_mono hr (Ne.symm hji)) h3.1 (h3.2.1 hjt) ?_⟩) h2;rw[Array.setIfInBounds_comm _ _ hji];exact h3.2.2
theorem wpAnyT_takeD {i:Nat} {oi:Oper} {v:Value} {fuel:Nat} {listed:Array Bool} {a:Act} {w:World} (hi:ops[i]?=some oi)
  (hs:Region.noSelect ops=true) (hf:Region.free md ops listed i=true) (hr:(Region.ready md ops listed).contains i=true) (hc:closedB md ops listed=true) (htl:tailWaitsD md ops tl i=true)
  (hQ:∀ c a w,Q (.panic c) (a.put oi.dst v) w→Q (.panic c) a w) (hy:YieldsIf P ops S oi v a) (hS:S w)
  (h:wpAnyT P md ops Q S tl fuel (listed.setIfInBounds i true) (a.put oi.dst v) w):wpAnyT P md ops Q S tl (fuel+1) listed a w:=
 wpAnyT_firstD hi (Region.noSelect_spec hs) hQ htl fuel listed a w (closedB_spec hc) (Region.free_spec hi hf) (by simpa using hr) hy hS h
def okD (md:Region.Mode) (ops:Array Oper) (tl:Nat) (l:Array Bool) (i:Nat):Bool:=Region.noSelect ops&&(Region.free md ops l i&&((Region.ready md ops l).contains i&&(closedB md ops l&&tailWaitsD md ops tl i)))
variable {oi:Oper} {v:Value} {fuel k:Nat} {l:Array Bool} {a:Act} {w:World}
theorem nxD (hi:ops[k]?=some oi) (hb:okD md ops tl l k=true) (hQ:∀ c a w,Q (.panic c) (a.put oi.dst v) w→Q (.panic c) a w) (hw:Region.wanted oi (yielded ops a.tmps)=true) (hy:∀ w,S w→(execOp a.eval oi).run P w=.ok (.value v) w) (hS:S w)
  (h:wpNx (k+1) P md ops Q S tl fuel (l.setIfInBounds k true) (a.put oi.dst v) w):wpNx k P md ops Q S tl (fuel+1) l a w:=by
 unfold okD at hb;simp only[Bool.and_eq_true] at hb;exact wpAnyT_takeD hi hb.1 hb.2.1 hb.2.2.1 hb.2.2.2.1 hb.2.2.2.2 hQ (Or.inl ⟨hw,hy⟩) hS h
theorem nxkD (hi:ops[k]?=some oi) (hb:okD md ops tl l k=true) (hQ:∀ c a w,Q (.panic c) (a.put oi.dst undef) w→Q (.panic c) a w) (hw:Region.wanted oi (yielded ops a.tmps)=false) (hS:S w)
  (h:wpNx (k+1) P md ops Q S tl fuel (l.setIfInBounds k true) (a.put oi.dst undef) w):wpNx k P md ops Q S tl (fuel+1) l a w:=by
 unfold okD at hb;simp only[Bool.and_eq_true] at hb;exact wpAnyT_takeD hi hb.1 hb.2.1 hb.2.2.1 hb.2.2.2.1 hb.2.2.2.2 hQ (Or.inr ⟨hw,rfl⟩) hS h
end
end Go.Proofs.YtgpeijkjmkocgaaDoor
