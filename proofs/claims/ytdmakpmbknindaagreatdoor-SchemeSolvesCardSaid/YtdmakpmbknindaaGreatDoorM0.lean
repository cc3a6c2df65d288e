import Derived.WalkKit
import Derived.WalkSpells
import Derived.WalkLawsBesides
import Derived.OpenShut
import Derived.Deep.Draws
import Derived.Lib.Hide
import Derived.Deep.LoopGhost
import Derived.Deep.RegionWith
import Derived.Maps.AppendAt
import Derived.Deep.AppendLies
import Derived.RegionTactic
import Derived.OwnWalk
import Derived.Conc.LoneCalls
import Derived.Maps.OwnSet
import Derived.Maps.OwnOps
import Derived.Test.YtdmakpmbknindaaGreatDoorProg
import Derived.Lib.Hide
set_option linter.unusedVariables false
set_option linter.unusedSimpArgs false
namespace Go.Proofs.YtdmakpmbknindaaGreatDoor
theorem qq {p : Prop} (h : p) : Go.RowKit.Hid p := Lib.hid h
theorem qa.{u} {α : Type u} {a : α} {i : Nat} {l : List α} : (a :: l)[i + 1]? = l[i]? := List.getElem?_cons_succ
theorem qb.{u} {α : Type u} {a : α} {l : List α} : (a :: l)[0]? = some a := List.getElem?_cons_zero
theorem qc.{u} {α : Type u} {l : List α} {i : Nat} : l.toArray[i]? = l[i]? := List.getElem?_toArray
theorem qd.{u} {α : Type u} (l : List α) (i : Nat) (a : α) : l.toArray.setIfInBounds i a = (l.set i a).toArray := List.setIfInBounds_toArray _ _ _
theorem qe.{u} {α : Type u} (a : α) (l : List α) (h : 0 < (a :: l).length) : (a :: l)[0]'h = a := List.getElem_cons_zero a l h
theorem qf.{u} {α : Type u} (a : α) (l : List α) (i : Nat) (h : i + 1 < (a :: l).length) : (a :: l)[i + 1]'h = l[i]'(Nat.lt_of_succ_lt_succ h) := List.getElem_cons_succ a l i h
theorem qg.{u} {α : Type u} {xs : List α} {i : Nat} (h : i < xs.toArray.size) : xs.toArray[i]'h = xs[i]'(by simpa using h) := List.getElem_toArray h
theorem qh.{u} {α : Type u} {x : α} {xs : List α} {a : α} : (x :: xs).set 0 a = a :: xs := List.set_cons_zero
theorem qi.{u} {α : Type u} {x : α} {xs : List α} {n : Nat} {a : α} : (x :: xs).set (n + 1) a = x :: xs.set n a := List.set_cons_succ
theorem qj.{u} {α : Type u} {l : List α} {i : Nat} (h : i < l.length) : l[i]? = some l[i] := List.getElem?_eq_getElem h
theorem qk.{u} {α : Type u} {b : α} {l : List α} {a : α} : a ∈ b :: l ↔ a = b ∨ a ∈ l := List.mem_cons
end Go.Proofs.YtdmakpmbknindaaGreatDoor
namespace Go.Proofs.YtdmakpmbknindaaGreatDoor
open Go.RowKit
theorem ret_int {k:IntKind} {a b:Int} (h:a=b):Ending.returned (.int k a)=.returned (.int k b):=by rw[h]
theorem ret_bool {a b:Bool} (h:a=b):Ending.returned (.bool a)=.returned (.bool b):=by rw[h]
theorem run_max2 {P:Program} (ts:Array TypeId) (t:TypeId) (k k':IntKind) (x y:Int) (w:World):(Builtin.max_ ts t #[.int k x,.int k' y]).run P w=.ok (.int k (max x y)) w:=by
 rw[run_max_int2]
 congr 2
 omega
theorem run_min2 {P:Program} (ts:Array TypeId) (t:TypeId) (k k':IntKind) (x y:Int) (w:World):(Builtin.min_ ts t #[.int k x,.int k' y]).run P w=.ok (.int k (min x y)) w:=by
 rw[run_min_int2]
 congr 2
 omega
def Rd (w:World) (B size:Nat) (A:Option Addr) (n:Nat) (xs:List Value):Prop:=
 xs.length=n * size∧(0<n→∃ b off,A=some ⟨b,off,none⟩∧b<B∧∀ j u,xs[j]?=some u→w.cell? ⟨b,off+j,none⟩=some u)
section
variable {w w':World} {B B' size n:Nat} {A:Option Addr} {xs:List Value}
theorem Rd.nil:Rd w B size A 0 []:=⟨by simp,fun h=>absurd h (by omega)⟩
theorem Rd.keep (h:Rd w B size A n xs) (hk:∀ p:Addr,p.block<B→w'.cell? p=w.cell? p):Rd w' B size A n xs:=
 ⟨h.1,fun hn=>by
  obtain⟨b,off,e,hb,hc⟩:=h.2 hn
  exact⟨b,off,e,hb,fun j u hu=>(hk _ hb).trans (hc j u hu)⟩⟩
theorem Rd.more (h:Rd w B size A n xs) (hB:B≤B'):Rd w B' size A n xs:=
 ⟨h.1,fun hn=>by
  obtain⟨b,off,e,hb,hc⟩:=h.2 hn
  exact⟨b,off,e,by omega,hc⟩⟩
theorem Rd.below (h:Rd w B size A n xs) (hb:Below B w w'):Rd w' B size A n xs:=h.keep fun _ hp=>hb.cell hp
theorem Rd.drew (h:Rd w B size A n xs):Rd w.drew B size A n xs:=h
theorem Rd.drewN (h:Rd w B size A n xs) (k:Nat):Rd (w.drewN k) B size A n xs:=h
theorem Rd.alloc (h:Rd w B size A n xs) (hB:B≤w.heap.size) (o:Obj):Rd (w.alloc o) B size A n xs:=h.keep fun p hp=>World.cell?_alloc_lt w o p (by omega)
theorem Rd.setCell (h:Rd w B size A n xs) {p:Addr} (hB:B≤p.block) (u:Value):Rd (w.setCell p u) B size A n xs:=
 h.keep fun q hq=>World.cell?_setCell_other w p q u (fun e=>by subst e; omega)
theorem Rd.grown (h:Rd w B size A n xs) {row:Option Nat} (hg:w.grownBy w' row) (hB:B≤w.heap.size) (hr:∀ g,row=some g→B≤g):Rd w' B size A n xs:=
 h.keep fun p hp=>World.cell?_of_block (hg.block p.block (by omega) (fun e=>by have:=hr _ e.symm; omega))
end
theorem Rd.new (w:World) (l:List Value) (t:TypeId):Rd (w.alloc (.cells l.toArray t)) (w.heap.size+1) 1 (some ⟨w.heap.size,0,none⟩) l.length l:=
 ⟨by simp,fun _=>⟨w.heap.size,0,rfl,Nat.lt_succ_self _,fun j u hu=>by rw[Nat.zero_add,World.cell?_alloc_new]; simpa using hu⟩⟩
section
variable {P:Program} (w:World)
theorem run_append_of_nil (base:Nat) (t ty e:TypeId) (i:TypeInfo) (size:Nat) (ht:P.underlying t=some (.slice e)) (hi:P.info? e=some i)
 (v:Value) (n:Nat) (xs:List Value) (hown:w.ownsRow base e size v n xs) (c:Nat):(Builtin.append_ #[t,t] ty #[v,.slice none 0 c]).run P w=.ok v w:=by
 rcases hown.2 with ⟨rfl,rfl⟩ | ⟨g,cap,cur,rfl,_,_,hnc,_⟩
 · simp[Builtin.append_,run_underlying ht,sizeOf,typeInfo,hi,Builtin.lenOf,Builtin.firstCells]
 · simp[Builtin.append_,run_underlying ht,sizeOf,typeInfo,hi,Builtin.lenOf,Builtin.firstCells,hnc,storeCells]
theorem run_append_rd (base:Nat) (t ty e:TypeId) (i:TypeInfo) (z:Value) (size bytes:Nat) (ht:P.underlying t=some (.slice e)) (hi:P.info? e=some i) (hz:i.zero=some z)
 (hsize:i.size=size) (hby:i.bytes=bytes) (hzs:z.cells.size=size) (hsz:0<size)
 (v:Value) (n:Nat) (xs:List Value) (hown:w.ownsRow base e size v n xs)
 (B:Nat) (A:Option Addr) (m c:Nat) (news:List Value) (hr:Rd w B size A m news) (h1:∀ u∈news,u.oneCell'=true)
 (h63:n+m≤maxLen) (hbytes:(n+m) * bytes≤140737488355328) (hbase:base≤w.heap.size):
 ∃ v' w',(Builtin.append_ #[t,t] ty #[v,.slice A m c]).run P w=.ok v' w'∧w'.ownsRow base e size v' (n+m) (xs++news)∧w.grownBy w' v.ownBlock ∧
  (v'.ownBlock=v.ownBlock∨v'.ownBlock=some w.heap.size):=by
 rcases A with _ | ad
 · have hm:m=0:=by
    rcases Nat.eq_zero_or_pos m with h0 | h0
    · exact h0
    · obtain⟨_,_,h,_⟩:=hr.2 h0
      cases h
   subst hm;have hn:news=[]:=List.eq_nil_of_length_eq_zero (by simpa using hr.1);subst hn
   exact⟨v,w,run_append_of_nil w base t ty e i size ht hi v n xs hown c,by simpa using hown,World.grownBy.refl w _,.inl rfl⟩
 · have hcells:∀ j u,news[j]?=some u→w.cell? (ad.add j)=some u:=by
    intro j u hu
    rcases Nat.eq_zero_or_pos m with h0 | h0
    · subst h0
      have hn:news=[]:=List.eq_nil_of_length_eq_zero (by simpa using hr.1);subst hn;simp at hu
    · obtain⟨b,off,h,_,hc⟩:=hr.2 h0
      injection h with h
      subst h
      rw[show(Addr.add ⟨b,off,none⟩ j)=⟨b,off+j,none⟩ from by unfold Addr.add; split <;> simp_all]
      exact hc j u hu
   obtain⟨v',w',hrun,h2,h3,_,h5⟩:=run_append_own_at (P:=P) w base t ty e i z size bytes ht hi hz hsize hby hzs hsz v n xs hown ad m c news hr.1 hcells h1 h63 hbytes hbase;exact⟨v',w',hrun,h2,h3,h5⟩
theorem wp_append_rd {o:Oper} {a:Act} {K:Act→World→Prop} {Q:Exit→Act→World→Prop} (s x:Operand) (t:TypeId)
 (ho:o.op=.call { callee:=.builtin .append,args:=#[s,x],argTypes:=#[t,t] })
 (base:Nat) (e:TypeId) (i:TypeInfo) (z:Value) (size bytes:Nat) (ht:P.underlying t=some (.slice e)) (hi:P.info? e=some i) (hz:i.zero=some z)
 (hsize:i.size=size) (hby:i.bytes=bytes) (hzs:z.cells.size=size) (hsz:0<size)
 (v:Value) (n:Nat) (xs:List Value) (hs:a.eval s=v) (hown:w.ownsRow base e size v n xs)
 (B:Nat) (A:Option Addr) (m c:Nat) (news:List Value) (hx:a.eval x=.slice A m c) (hr:Rd w B size A m news) (h1:∀ u∈news,u.oneCell'=true)
 (h63:n+m≤maxLen) (hbytes:(n+m) * bytes≤140737488355328) (hbase:base≤w.heap.size)
 (h:∀ v' w',w'.ownsRow base e size v' (n+m) (xs++news)→w.grownBy w' v.ownBlock→(v'.ownBlock=v.ownBlock∨v'.ownBlock=some w.heap.size)→K (a.put o.dst v') w'):o.wp P a w K Q:=by
 obtain⟨v',w',hrun,h2,h3,h4⟩:=run_append_rd (P:=P) w base t o.type e i z size bytes ht hi hz hsize hby hzs hsz v n xs hown B A m c news hr h1 h63 hbytes hbase;unfold Oper.wp execOp;simp only[ho,resolve,invoke,builtin,Sem.run_bind,Sem.run_pure,Result.andThen_ok,List.map_toArray,List.map_cons,List.map_nil,hs,hx,hrun];exact h v' w' h2 h3 h4
theorem wpList_append_rd {ops:Array Oper} {rest:List Oper} {o:Oper} {a:Act} {Q:Exit→Act→World→Prop} (hgd:o.guard=none) (s x:Operand) (t:TypeId)
 (ho:o.op=.call { callee:=.builtin .append,args:=#[s,x],argTypes:=#[t,t] })
 (base:Nat) (e:TypeId) (i:TypeInfo) (z:Value) (size bytes:Nat) (ht:P.underlying t=some (.slice e)) (hi:P.info? e=some i) (hz:i.zero=some z)
 (hsize:i.size=size) (hby:i.bytes=bytes) (hzs:z.cells.size=size) (hsz:0<size)
 (v:Value) (n:Nat) (xs:List Value) (hs:a.eval s=v) (hown:w.ownsRow base e size v n xs)
 (B:Nat) (A:Option Addr) (m c:Nat) (news:List Value) (hx:a.eval x=.slice A m c) (hr:Rd w B size A m news) (h1:∀ u∈news,u.oneCell'=true)
 (h63:n+m≤maxLen) (hbytes:(n+m) * bytes≤140737488355328) (hbase:base≤w.heap.size)
 (h:∀ v' w',w'.ownsRow base e size v' (n+m) (xs++news)→w.grownBy w' v.ownBlock→(v'.ownBlock=v.ownBlock∨v'.ownBlock=some w.heap.size)→wpList P ops Q rest (a.put o.dst v') w'):wpList P ops Q (o :: rest) a w:=
 wpList_plain hgd fun _ hK=>wp_append_rd w s x t ho base e i z size bytes ht hi hz hsize hby hzs hsz v n xs hs hown B A m c news hx hr h1 h63 hbytes hbase fun v' w' h2 h3 h4=>hK _ _ (h v' w' h2 h3 h4)
theorem step_append_rd {ops:Array Oper} {o:Oper} {a:Act} {K:Act→World→Prop} {Q:Exit→Act→World→Prop} {E:Prop} (hgd:o.guard=none) (s x:Operand) (t:TypeId)
 (ho:o.op=.call { callee:=.builtin .append,args:=#[s,x],argTypes:=#[t,t] })
 (base:Nat) (e:TypeId) (i:TypeInfo) (z:Value) (size bytes:Nat) (ht:P.underlying t=some (.slice e)) (hi:P.info? e=some i) (hz:i.zero=some z)
 (hsize:i.size=size) (hby:i.bytes=bytes) (hzs:z.cells.size=size) (hsz:0<size)
 (v:Value) (n:Nat) (xs:List Value) (hs:a.eval s=v) (hown:w.ownsRow base e size v n xs)
 (B:Nat) (A:Option Addr) (m c:Nat) (news:List Value) (hx:a.eval x=.slice A m c) (hr:Rd w B size A m news) (h1:∀ u∈news,u.oneCell'=true)
 (h63:n+m≤maxLen) (hbytes:(n+m) * bytes≤140737488355328) (hbase:base≤w.heap.size)
 (h:∀ v' w',w'.ownsRow base e size v' (n+m) (xs++news)→w.grownBy w' v.ownBlock→(v'.ownBlock=v.ownBlock∨v'.ownBlock=some w.heap.size)→K (a.put o.dst v') w'):
 if Region.wanted o (yielded ops a.tmps)=true then Oper.wp P o a w K Q else E:=by
 have hw:Region.wanted o (yielded ops a.tmps)=true:=by simp[Region.wanted,hgd]
 rw[if_pos hw];exact wp_append_rd w s x t ho base e i z size bytes ht hi hz hsize hby hzs hsz v n xs hs hown B A m c news hx hr h1 h63 hbytes hbase h
end
end Go.Proofs.YtdmakpmbknindaaGreatDoor
namespace Go.Proofs.YtdmakpmbknindaaGreatDoor
open Go.RowKit Go.Conc
section
variable {P:Program} {Q:Exit→Act→World→Prop} {a:Act} {w:World}
def wpN (P:Program) (c:Code) (Q:Exit→Act→World→Prop) (a:Act) (w:World):Prop:=
 ∀ (b:Frame) (k:List Item) (cs:List Frame),b.kind ≠ .early →
  ∃ e a' w',Q e a' w'∧Arrives P (lone (b.at a (.code c :: k)) cs w) b k cs e a' w'
theorem wpN_of_wp {c:Code} (h:c.wp P Q a w):wpN P c Q a w:=fun b k cs _=>h b k cs
theorem wpN_seq {x y:Code} (h:wpN P x (Exit.then (wpN P y Q) Q) a w):wpN P (Code.seq x y) Q a w:=by
 intro b k cs hb;obtain⟨e,a₁,w₁,hq,harr⟩:=h b (.code y :: k) cs hb
 cases e with
 | normal=>
   obtain⟨e₂,a₂,w₂,hq₂,harr₂⟩:=hq b k cs hb;exact⟨e₂,a₂,w₂,hq₂,.of_steps (.head step_seq harr) harr₂⟩
 | exit id=>exact⟨_,a₁,w₁,hq,.of_steps (.one step_seq) (.pass (x:=.code y) rfl (fun _ _=>.inl (by simp)) harr)⟩
 | goto l=>exact⟨_,a₁,w₁,hq,.of_steps (.one step_seq) (.pass (x:=.code y) rfl (fun _ _=>.inl (by simp)) harr)⟩
 | ret=>exact⟨_,a₁,w₁,hq,.of_steps (.one step_seq) (.pass (x:=.code y) rfl (fun _ _=>.inl (by simp)) harr)⟩
 | panic ch=>exact⟨_,a₁,w₁,hq,.of_steps (.one step_seq) (.pass (x:=.code y) rfl (fun _ _=>.inl (by simp)) harr)⟩
 | outgrown=>exact⟨_,a₁,w₁,hq,.of_steps (.one step_seq) (.pass (x:=.code y) rfl (fun _ _=>.inl (by simp)) harr)⟩
theorem wpN_seq_k {x y:Code} (h:∀ K:Act→World→Prop,Hid (∀ a w,wpN P y Q a w→K a w)→x.wp P (Exit.then K Q) a w):wpN P (Code.seq x y) Q a w:=
 wpN_seq (wpN_of_wp (h _ fun _ _ h=>h))
theorem wpN_cond {c:Operand} {x y:Code} {t:Bool} (hc:a.eval c=.bool t) (h:wpN P (if t then x else y) Q a w):wpN P (Code.cond c x y) Q a w:=
 fun b k cs hb=>let ⟨e,a',w',q,r⟩:=h b k cs hb; ⟨e,a',w',q,.of_steps (.one (step_cond hc)) r⟩
theorem wpN_block {id:Nat} {c:Code} (h:wpN P c (Exit.inBlock id Q) a w):wpN P (Code.block id c) Q a w:=by
 intro b k cs hb;obtain⟨e,a₁,w₁,hq,harr⟩:=h b (.inBlock id :: k) cs hb
 cases e with
 | normal=>exact⟨.normal,a₁,w₁,hq,.head step_block (Steps.trans harr (.one step_inBlock))⟩
 | exit id'=>
   by_cases hid:id'=id
   · simp only[Exit.inBlock,hid,if_true] at hq
     exact⟨.normal,a₁,w₁,hq,.head step_block (harr k (by simp[exitTo,hid]))⟩
   · simp only[Exit.inBlock,hid,if_false] at hq
     refine⟨.exit id',a₁,w₁,hq,fun k' hk=>.head step_block (harr k' ?_)⟩
     have:(id==id')=false:=by simp; exact fun h=>hid h.symm
     simp[exitTo,this,hk]
 | goto l=>exact⟨_,a₁,w₁,hq,fun k' hk=>.head step_block (harr k' (by simp[gotoIn,hk]))⟩
 | ret=>exact⟨_,a₁,w₁,hq,.of_steps (.one step_block) harr⟩
 | panic ch=>exact⟨_,a₁,w₁,hq,.of_steps (.one step_block) harr⟩
 | outgrown=>exact⟨_,a₁,w₁,hq,.of_steps (b:=b) (k:=k) (cs:=cs) (e:=.outgrown) (.one step_block) harr⟩
theorem wpN_loop {c:Code} (I:Nat→Act→World→Prop) (n₀:Nat) (h₀:I n₀ a w)
 (round:∀ n a w,I n a w→wpN P c (Exit.then (fun a' w'=>∃ n',n'<n∧I n' a' w') Q) a w):wpN P (Code.loop c) Q a w:=by
 intro b k cs hb
 have key:∀ n a w,I n a w →
  ∃ e a' w',Q e a' w'∧Arrives P (lone (b.at a (.code c :: .inLoop c :: k)) cs w) b k cs e a' w':=by
  intro n
  induction n using Nat.strongRecOn with
  | _ n ih=>
    intro a w hI;obtain⟨e,a₁,w₁,hq,harr⟩:=round n a w hI b (.inLoop c :: k) cs hb
    cases e with
    | normal=>
      obtain⟨n',hlt,hI₁⟩:=hq;obtain⟨e₂,a₂,w₂,hq₂,harr₂⟩:=ih n' hlt a₁ w₁ hI₁;exact⟨e₂,a₂,w₂,hq₂,.of_steps (Steps.trans harr (.one step_inLoop)) harr₂⟩
    | exit id=>exact⟨_,a₁,w₁,hq,.pass (x:=.inLoop c) rfl (fun _ _=>.inl (by simp)) harr⟩
    | goto l=>exact⟨_,a₁,w₁,hq,.pass (x:=.inLoop c) rfl (fun _ _=>.inl (by simp)) harr⟩
    | ret=>exact⟨_,a₁,w₁,hq,.pass (x:=.inLoop c) rfl (fun _ _=>.inl (by simp)) harr⟩
    | panic ch=>exact⟨_,a₁,w₁,hq,.pass (x:=.inLoop c) rfl (fun _ _=>.inl (by simp)) harr⟩
    | outgrown=>exact⟨_,a₁,w₁,hq,.pass (x:=.inLoop c) rfl (fun _ _=>.inl (by simp)) harr⟩
 obtain⟨e,a',w',hq,harr⟩:=key n₀ a w h₀;exact⟨e,a',w',hq,.of_steps (.one step_loop) harr⟩
theorem calls_of_wpN {f:FuncId} {fn:Func} {c:Code} {args:Array Value} {R:Ending→World→Prop}
 (hf:P.funcs[f]?=some fn) (hb:fn.body=some c)
 (h:wpN P c (bodyPost P fn R) { tmps:=args++Array.replicate (fn.ntmps - args.size) undef,defers:=[] } w):Calls P f args w R:=by
 intro cs
 let b:Frame := { (default:Frame) with fn:=f,kind:=.normal }
 have henter:Frame.enter P f args .normal =
  b.at { tmps:=args++Array.replicate (fn.ntmps - args.size) undef,defers:=[] } [.code c]:=by
  simp[Frame.enter,Frame.at,hf,hb,b]
 obtain⟨e,a',w',hq,harr⟩:=h b [] cs (by simp[b]);rw[← henter] at harr
 cases e with
 | normal=>
   obtain⟨hd,v,hr,hR⟩:=hq;exact⟨.returned v,w',_,hR,Steps.trans harr (.one step_end),rfl,rfl,hd,rfl,fn,hf,hr⟩
 | ret=>
   obtain⟨hd,v,hr,hR⟩:=hq;obtain⟨todo,hs⟩:=harr;exact⟨.returned v,w',_,hR,hs,rfl,rfl,hd,rfl,fn,hf,hr⟩
 | panic chain=>
   obtain⟨hd,hR⟩:=hq;obtain⟨todo,hs⟩:=harr;exact⟨.panicked chain,w',_,hR,hs,rfl,rfl,hd,fn,hf⟩
 | exit id=>exact hq.elim
 | goto l=>exact hq.elim
 | outgrown=>exact⟨.outgrown,w',b,hq,harr.resolve_left (by simp[b]),rfl,trivial⟩
def opsN (P:Program) (ops:Array Oper) (Q:Exit→Act→World→Prop) (l:List Nat) (a:Act) (w:World):Prop:=
 ∀ (b:Frame) (k:List Item) (cs:List Frame),b.kind ≠ .early →
  ∃ e a' w',Q e a' w'∧Arrives P (lone (b.at a (.inRegion ops l :: k)) cs w) b k cs e a' w'
theorem wpN_region {id:Nat} {ops:Array Oper} (h:opsN P ops Q (List.range ops.size) a w):wpN P (Code.region id ops false) Q a w:=
 fun b k cs hb=>let ⟨e,a',w',q,r⟩:=h b k cs hb; ⟨e,a',w',q,.of_steps (.one step_region) r⟩
theorem opsN_nil {ops:Array Oper} (h:Q .normal a w):opsN P ops Q [] a w:=fun b k cs _=>⟨.normal,a,w,h,.one step_region_end⟩
theorem opsN_value {ops:Array Oper} {i:Nat} {rest:List Nat} {o:Oper} {v:Value} {w':World} (ho:ops[i]?=some o) (hw:Region.wanted o (yielded ops a.tmps)=true)
 (hr:(execOp a.eval o).run P w=.ok (.value v) w') (h:opsN P ops Q rest (a.put o.dst v) w'):opsN P ops Q (i :: rest) a w:=by
 intro b k cs hb;obtain⟨e,a',w'',hq,harr⟩:=h b k cs hb;refine⟨e,a',w'',hq,.of_steps (.one (step_lone_go ?_)) harr⟩
 have hfin:∀ v,(b.at a (.inRegion ops (i :: rest) :: k)).finish v=b.at (a.put o.dst v) (.inRegion ops rest :: k):=by
  intro v; rw[Frame.finish_at,ho]; rfl
 rw[stepG_op ho hw,← hfin]; simp[stepG.apply,hr]
theorem opsN_send {ops:Array Oper} {i:Nat} {rest:List Nat} {o:Oper} {c cap s r:Nat} {buf:Array Value} {tm:Bool} {v z':Value} {w₁:World} (ho:ops[i]?=some o) (hw:Region.wanted o (yielded ops a.tmps)=true)
 (hr:(execOp a.eval o).run P w=.ok (.comm #[scase c v z'] true .send) w₁) (hc:w₁.heap[c]?=some (.chan cap buf false s r tm)) (hroom:buf.size<cap)
 (h:opsN P ops Q rest (a.put o.dst undef) (w₁.setChan c cap (buf.push v) false (s+1) r tm)):opsN P ops Q (i :: rest) a w:=by
 intro b k cs hb;obtain⟨e,a',w'',hq,harr⟩:=h b k cs hb;refine⟨e,a',w'',hq,.of_steps (.one ?_) harr⟩;have hg:=stepG_comm (P:=P) (main:=true) (k:=k) (cs:=cs) (b:=b) (rest:=rest) ho hw hb hr;have hs:=step_lone_send_room hg hc hroom;rw[Frame.finish_at,ho] at hs;exact hs
theorem opsN_recv {ops:Array Oper} {i:Nat} {rest:List Nat} {o:Oper} {c cap s r:Nat} {buf:Array Value} {closed tm:Bool} {z:Value} {w₁:World} (ho:ops[i]?=some o) (hw:Region.wanted o (yielded ops a.tmps)=true)
 (hr:(execOp a.eval o).run P w=.ok (.comm #[rcase c z] true (.recv false)) w₁) (hc:w₁.heap[c]?=some (.chan cap buf closed s r tm)) (hsome:0<buf.size)
 (h:opsN P ops Q rest (a.put o.dst (buf.getD 0 undef)) (w₁.setChan c cap (buf.extract 1 buf.size) closed s (r+1) tm)):opsN P ops Q (i :: rest) a w:=by
 intro b k cs hb;obtain⟨e,a',w'',hq,harr⟩:=h b k cs hb;refine⟨e,a',w'',hq,.of_steps (.one ?_) harr⟩;have hg:=stepG_comm (P:=P) (main:=true) (k:=k) (cs:=cs) (b:=b) (rest:=rest) ho hw hb hr;have hs:=step_lone_recv_buf false hg hc hsome;rw[Frame.finish_at,ho] at hs;exact hs
end
end Go.Proofs.YtdmakpmbknindaaGreatDoor
namespace Go.Proofs.YtdmakpmbknindaaGreatDoor
open Go.RowKit Go.Maps
def anyElem (v:Value):Option (DataW Value × List MemPlace):=some (.held v,[])
def litI (i:Int):Lit:=.int .i64 i
theorem litI_key (i:Int):WideAt.IsKeyLit (litI i):=by simp[WideAt.IsKeyLit,litI]
theorem litI_ne {i j:Int} (h:i≠j):litI i≠litI j:=fun e=>h (by simpa[litI] using e)
def MapV (w:World) (P:Program) (k:TypeId) (b n:Nat) (z:Value) (f:Int→Option Value):Prop:=
 ∃ D,w.ownsMap P k anyElem b n D∧IsMap D∧(∀ i,Maps.has D (litI i)=(f i).isSome)∧∀ i,D.atKey (litI i) (.held z)=.held ((f i).getD z)
def updV (f:Int→Option Value) (i:Int) (v:Value):Int→Option Value:=fun j=>if j=i then some v else f j
section
variable {w w':World} {P:Program} {k:TypeId} {b n:Nat} {z:Value} {f:Int→Option Value}
theorem MapV.made (w:World) (P:Program) (k:TypeId) (z:Value):MapV (w.alloc (.map #[] 0)) P k w.heap.size 0 z fun _=>none:=
 ⟨_,World.ownsMap_made _ _ _ _,isMap_empty,fun i=>rfl,fun i=>rfl⟩
theorem MapV.lt (h:MapV w P k b n z f):b<w.heap.size:=by obtain⟨D,h,_⟩:=h; exact h.lt
theorem MapV.mono (h:MapV w P k b n z f) {n':Nat} (hn:n≤n'):MapV w P k b n' z f:=by obtain⟨D,h,h2⟩:=h; exact⟨D,h.mono hn,h2⟩
theorem MapV.block (h:MapV w P k b n z f) (hb:w'.heap[b]?=w.heap[b]?):MapV w' P k b n z f:=by
 obtain⟨D,⟨es,clock,h1,h2⟩,h3⟩:=h;exact⟨D,⟨es,clock,hb.trans h1,h2⟩,h3⟩
theorem MapV.below {B:Nat} (h:MapV w P k b n z f) (hb:Below B w w') (hlt:b<B):MapV w' P k b n z f:=h.block (hb.block b hlt)
theorem MapV.fresh (h:MapV w P k b n z f) (hb:Below w.heap.size w w'):MapV w' P k b n z f:=h.below hb h.lt
end
section
variable {P:Program} (w:World) {ops:Array Oper} {rest:List Oper} {o:Oper} {a:Act} {Q:Exit→Act→World→Prop}
theorem wpList_lookup_V (hg:o.guard=none) (m x:Operand) (t:TypeId) (c:Bool) (hop:o.op=Op.lookup t m x c)
 (k e:TypeId) (hk:P.underlying k=some (.int .i64)) (ht:P.underlying t=some (.map k e)) {z:Value} (hz:(zeroValue e).run P w=.ok z w) (b n:Nat) (f:Int→Option Value)
 (hm:a.eval m=.map (some b)) (h:MapV w P k b n z f) (i:Int) (hx:a.eval x=.int .i64 i) (hw:(Lit.int .i64 i).wf=true)
 (hK:wpList P ops Q rest (a.put o.dst (if c then .tuple #[(f i).getD z,.bool (f i).isSome] else (f i).getD z)) w):
 wpList P ops Q (o :: rest) a w:=by
 refine wpList_plain hg fun K' hK'=>?_;obtain⟨D,hown,_,hh,ha⟩:=h;have hkey:keyOf P k (.int .i64 i)=some (litI i):=keyOf_int_mk hk hw
 cases c with
 | false=>
   obtain⟨v,ps,hrun,hv⟩:=hown.lookup (int_keyed hk) ht hz (zd:=.held z) (zp:=[]) rfl hkey;rw[ha i] at hv
   have e1:v=(f i).getD z:=by
    unfold anyElem at hv;simp only[Option.some.injEq,Prod.mk.injEq,DataW.held.injEq] at hv;exact hv.1
   subst e1;unfold Oper.wp;simp[execOp,hop,hm,hx,hrun,Result.andThen];exact hK' _ _ hK
 | true=>
   obtain⟨v,ps,hrun,hv⟩:=hown.look_ok (int_keyed hk) ht hz (zd:=.held z) (zp:=[]) rfl hkey;rw[ha i] at hv
   have e1:v=(f i).getD z:=by
    unfold anyElem at hv;simp only[Option.some.injEq,Prod.mk.injEq,DataW.held.injEq] at hv;exact hv.1
   subst e1;rw[hh i] at hrun;unfold Oper.wp;simp[execOp,hop,hm,hx,hrun,Result.andThen];exact hK' _ _ hK
theorem wpList_hit_V (hg:o.guard=none) (m x:Operand) (t:TypeId) (hop:o.op=Op.lookup t m x true)
 (k e:TypeId) (hk:P.underlying k=some (.int .i64)) (ht:P.underlying t=some (.map k e)) {z:Value} (hz:(zeroValue e).run P w=.ok z w) (b n:Nat) (f:Int→Option Value)
 (hm:a.eval m=.map (some b)) (h:MapV w P k b n z f) (i:Int) (hx:a.eval x=.int .i64 i) (hw:(Lit.int .i64 i).wf=true) (v:Value) (hf:f i=some v)
 (hK:wpList P ops Q rest (a.put o.dst (.tuple #[v,.bool true])) w):wpList P ops Q (o :: rest) a w:=
 wpList_lookup_V w hg m x t true hop k e hk ht hz b n f hm h i hx hw (by rw[hf]; exact hK)
theorem wpList_miss_V (hg:o.guard=none) (m x:Operand) (t:TypeId) (hop:o.op=Op.lookup t m x true)
 (k e:TypeId) (hk:P.underlying k=some (.int .i64)) (ht:P.underlying t=some (.map k e)) {z:Value} (hz:(zeroValue e).run P w=.ok z w) (b n:Nat) (f:Int→Option Value)
 (hm:a.eval m=.map (some b)) (h:MapV w P k b n z f) (i:Int) (hx:a.eval x=.int .i64 i) (hw:(Lit.int .i64 i).wf=true) (hf:f i=none)
 (hK:wpList P ops Q rest (a.put o.dst (.tuple #[z,.bool false])) w):wpList P ops Q (o :: rest) a w:=
 wpList_lookup_V w hg m x t true hop k e hk ht hz b n f hm h i hx hw (by rw[hf]; exact hK)
theorem wpList_look_V (hg:o.guard=none) (m x:Operand) (t:TypeId) (hop:o.op=Op.lookup t m x false)
 (k e:TypeId) (hk:P.underlying k=some (.int .i64)) (ht:P.underlying t=some (.map k e)) {z:Value} (hz:(zeroValue e).run P w=.ok z w) (b n:Nat) (f:Int→Option Value)
 (hm:a.eval m=.map (some b)) (h:MapV w P k b n z f) (i:Int) (hx:a.eval x=.int .i64 i) (hw:(Lit.int .i64 i).wf=true) (v:Value) (hf:(f i).getD z=v)
 (hK:wpList P ops Q rest (a.put o.dst v) w):wpList P ops Q (o :: rest) a w:=
 wpList_lookup_V w hg m x t false hop k e hk ht hz b n f hm h i hx hw (by rw[hf]; exact hK)
theorem wpList_update_V (hg:o.guard=none) (m x y:Operand) (t:TypeId) (hop:o.op=Op.mapUpdate t m x y)
 (k e:TypeId) (hk:P.underlying k=some (.int .i64)) (ht:P.underlying t=some (.map k e)) (z:Value) (b n:Nat) (f:Int→Option Value)
 (hm:a.eval m=.map (some b)) (h:MapV w P k b n z f) (hn:n<maxLen) (i:Int) (hx:a.eval x=.int .i64 i) (hw:(Lit.int .i64 i).wf=true) (v:Value) (hv:a.eval y=v)
 (hK:∀ w',MapV w' P k b (n+1) z (updV f i v)→w.grownBy w' (some b)→wpList P ops Q rest (a.put o.dst undef) w'):
 wpList P ops Q (o :: rest) a w:=by
 obtain⟨D,hown,hmap,hh,ha⟩:=h;refine wpList_mapUpdate_own w hg m x y t hop k e (int_keyed hk) ht anyElem b n D hm hown hn (.int .i64 i) v (litI i) hx hv (keyOf_int_mk hk hw) (.held v) [] rfl fun w' h1 h2=>hK w' ⟨_,h1,hmap.put _ _,fun j=>?_,fun j=>?_⟩ h2
 · by_cases e:j=i
   · subst e
     rw[has_put_same hmap (litI_key j)];simp[updV]
   · rw[has_put_other (litI_ne e),hh j]
     simp[updV,e]
 · by_cases e:j=i
   · subst e
     rw[atKey_put_same hmap (litI_key j)];simp[updV]
   · rw[atKey_put_other (litI_ne e),ha j]
     simp[updV,e]
end
end Go.Proofs.YtdmakpmbknindaaGreatDoor
namespace Go.Proofs.YtdmakpmbknindaaGreatDoor
open Go.RowKit
def nearI (m:Int):Int:=if m≤1 then 1 else if m≤3 then m else 3
theorem nearI_lo (m:Int):1≤nearI m:=by unfold nearI; split <;> (try split) <;> omega
theorem nearI_hi (m:Int):nearI m≤3:=by unfold nearI; split <;> (try split) <;> omega
theorem nearI_eq (m:Int):min (max m 1) 3=nearI m:=by unfold nearI; split <;> (try split) <;> omega
theorem near_any (m:Int) (w:World):
 Calls Tryz.prog 157 #[.int .u8 m] w fun e w'=>e=.returned (.int .u8 (nearI m))∧w=w':=by
 have hmx:=@run_max2 Tryz.prog;have hmn:=@run_min2 Tryz.prog
 go_enter Tryz.func157,Tryz.ntmps157
 go_wp2
 go_ret;exact⟨ret_int (nearI_eq m),rfl⟩
def tOne:ByteArray:=⟨#[49]⟩
def tAff:ByteArray:=⟨#[63]⟩
def tMany:ByteArray:=⟨#[42]⟩
theorem texts_any (w:World):
 Calls Tryz.prog 156 #[] w fun e w'=>e=.returned (.agg #[.string ⟨#[49]⟩,.string ⟨#[63]⟩,.string ⟨#[42]⟩])∧Below w.heap.size w w':=by
 go_enter Tryz.func156,Tryz.ntmps156
 go_wp2_with fail;exact bodyPost_ret (v:=.agg #[.string ⟨#[49]⟩,.string ⟨#[63]⟩,.string ⟨#[42]⟩]) (by simp[results,Tryz.results156,go_sem]) rfl ⟨rfl,(Below.refl _ _).alloc (Nat.le_refl _) _⟩
def mtext (m:Int):ByteArray:=if nearI m=1 then tOne else if nearI m=2 then tAff else tMany
theorem near_at (m v:Int) (h:nearI m=v) (w:World):
 Calls Tryz.prog 157 #[.int .u8 m] w fun e w'=>e=.returned (.int .u8 v)∧w=w':=
 (near_any m w).mono fun _ _ ⟨he,hw⟩=>⟨by rw[he,h],hw⟩
theorem text_any (m:Int) (w:World):
 Calls Tryz.prog 138 #[.int .u8 m] w fun e w'=>e=.returned (.string (mtext m))∧Below w.heap.size w w':=by
 have l:=nearI_lo m;have h:=nearI_hi m
 have i0:∀ w,(Instr.index 212 (.agg #[.string ⟨#[49]⟩,.string ⟨#[63]⟩,.string ⟨#[42]⟩]) (.int .u8 0)).run Tryz.prog w=.ok (.string ⟨#[49]⟩) w:=fun _=>by kernel_rfl
 have i1:∀ w,(Instr.index 212 (.agg #[.string ⟨#[49]⟩,.string ⟨#[63]⟩,.string ⟨#[42]⟩]) (.int .u8 1)).run Tryz.prog w=.ok (.string ⟨#[63]⟩) w:=fun _=>by kernel_rfl
 have i2:∀ w,(Instr.index 212 (.agg #[.string ⟨#[49]⟩,.string ⟨#[63]⟩,.string ⟨#[42]⟩]) (.int .u8 2)).run Tryz.prog w=.ok (.string ⟨#[42]⟩) w:=fun _=>by kernel_rfl
 have hcase:nearI m=1∨nearI m=2∨nearI m=3:=by omega
 clear l h
 go_enter Tryz.func138,Tryz.ntmps138
 go_wp2_with (go_at_call 156; refine(texts_any _).mono ?_; rintro e w1 ⟨rfl,hb1⟩)
 rcases hcase with e | e | e
 · refine(near_at m 1 e _).mono ?_
   rintro e' w2 ⟨rfl,rfl⟩
   have H:Hid (mtext m=⟨#[49]⟩):=by show _=_; simp[mtext,e,tOne]
   clear e;go_wp2_with fail;go_ret
   exact⟨by rw[H.out]; rfl,hb1⟩
 · refine(near_at m 2 e _).mono ?_
   rintro e' w2 ⟨rfl,rfl⟩
   have H:Hid (mtext m=⟨#[63]⟩):=by show _=_; simp[mtext,e,tAff]
   clear e;go_wp2_with fail;go_ret
   exact⟨by rw[H.out]; rfl,hb1⟩
 · refine(near_at m 3 e _).mono ?_
   rintro e' w2 ⟨rfl,rfl⟩
   have H:Hid (mtext m=⟨#[42]⟩):=by show _=_; simp[mtext,e,tMany]
   clear e;go_wp2_with fail;go_ret
   exact⟨by rw[H.out]; rfl,hb1⟩
end Go.Proofs.YtdmakpmbknindaaGreatDoor
