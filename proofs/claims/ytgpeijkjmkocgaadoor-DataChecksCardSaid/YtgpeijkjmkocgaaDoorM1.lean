import Derived.Test.YtgpeijkjmkocgaaDoorM0
import Derived.Test.YtgpeijkjmkocgaaDoorRows
import Derived.ProofKit
import Derived.ShutString
import Derived.ChangeOld
import Derived.Below
import Derived.Lib.SlicesCompact
import Derived.Lib.OwnBridge
set_option linter.unusedVariables false
set_option linter.unusedSimpArgs false
namespace Go.Proofs.YtgpeijkjmkocgaaDoor
open Go.ChangeShapes Go.WideShapes Go.ChangeAt Go.RowKit
open Go.ChangeMaps (open_string shut_string)
theorem own:ownKnob Tryd.prog.godebug=none:=by kernel_rfl
theorem laidOut:laidOutB Tryd.prog=true:=by kernel_rfl
section
variable {H:Type} {enc:TypeId × Value→H} {P:Program}
theorem trodAll_lt {w:World} {base:Nat} {spare:Nat→Bool} {held:Bool}:∀ (ts:List TypeId) (vs:List Value) (ds:List (DataW H)) (ps:List MemPlace),
  DataW.TrodAll enc P w base spare held ts vs ds ps→∀ p∈ps,p.block<w.heap.size
 | [],[],[],ps,h=>by have h:ps=[]:=h; subst h; intro p hp; cases hp
 | t :: ts,v :: vs,d :: ds,ps,h=>by
   obtain⟨p,q,⟨m,hm⟩,hr,rfl⟩:=h;intro x hx
   rcases List.mem_append.1 hx with hx | hx
   · exact DataW.trod_lt m _ _ _ hm x hx
   · exact trodAll_lt ts vs ds q hr x hx
 | [],[],_ :: _,_,h=>h.elim
 | [],_ :: _,_,_,h=>h.elim
 | _ :: _,[],_,_,h=>h.elim
 | _ :: _,_ :: _,[],_,h=>h.elim
theorem trodAll_below (hl:laidOutB P=true) {W W':World} (hb:Below W.heap.size W W'):∀ (ts:List TypeId) (vs:List Value) (ds:List (DataW H)) (ps:List MemPlace),
  ts.all (fun t=>P.readableRec t&&decide (t<P.types.size))=true→(∀ p∈ps,p.block<W.heap.size) →
  DataW.TrodAll enc P W 0 (fun _=>true) true ts vs ds ps→DataW.TrodAll enc P W' 0 (fun b=>decide (b<W.heap.size)) true ts vs ds ps
 | [],[],[],_,_,_,h=>h
 | t :: ts,v :: vs,d :: ds,ps,ht,hlt,h=>by
   obtain⟨p,q,h0,hr,rfl⟩:=h;rw[List.all_cons,Bool.and_eq_true,Bool.and_eq_true] at ht
   exact⟨p,q,Below.trod hl ht.1.1 (of_decide_eq_true ht.1.2) h0 hb (fun x hx=>hlt x (List.mem_append.2 (.inl hx))),
    trodAll_below hl hb ts vs ds q ht.2 (fun x hx=>hlt x (List.mem_append.2 (.inr hx))) hr,rfl⟩
 | [],[],_ :: _,_,_,_,h=>h.elim
 | [],_ :: _,_,_,_,_,h=>h.elim
 | _ :: _,[],_,_,_,_,h=>h.elim
 | _ :: _,_ :: _,[],_,_,_,h=>h.elim
theorem law_post {f:Func} {s:ChangeSpec} {tb:TypeId} (hl:laidOutB P=true) (hts:f.params.toList.all (fun t=>P.readableRec t&&decide (t<P.types.size))=true)
  (hvs:s.vars=[]) (hrt:f.resultTypes=#[tb]) (htb:P.underlying tb=some .bool)
  {W W':World} {args:Array Value} {ds:List (DataW H)} {before:List MemPlace}
  (hW:DataW.Whole enc P f.params.toList s.vars false W args.toList ds [] before)
  (hres:(s.fn H (ds++[])).results=[.lit (.bool true)]) (hargs:(s.fn H (ds++[])).args=ds) (hvars:(s.fn H (ds++[])).vars=[])
  (bel:Below W.heap.size W W'):s.post enc P f false true false false W args (.bool true) W':=by
 have hW':=hW;obtain⟨p,q,hA,hV,rfl,_,_⟩:=hW;rw[hvs] at hV;obtain⟨_,rfl⟩:=trodVars_none hV
 refine⟨_,_,_,[],p,[],hW',?_,?_,?_,bel.frame _,fun h=>by cases h⟩
 · rw[hres,hrt]
   exact trodAll_mk1 (shut_bool htb _)
 · rw[hargs]
   exact trodAll_below hl bel _ _ _ _ hts (trodAll_lt _ _ _ _ hA) hA
 · rw[hvars,hvs]
   rfl
theorem spot_none {w:World} {b o:Nat} {sp:Option Nat} {v:Value} (h:w.cell? ⟨b,o,sp⟩=some v):sp=none:=World.cell?_spot h
end
end Go.Proofs.YtgpeijkjmkocgaaDoor
namespace Go.Proofs.YtgpeijkjmkocgaaDoor
open Go.RowKit
structure TermD where
 never:Bool
 c:Int
 vars:List Int
def RdI (k:IntKind) (w:World) (B:Nat) (A:Option Addr) (n c:Nat) (us:List Int):Prop:=
 Rd w B 1 A n (us.map (Value.int k))∧n≤c∧c≤maxLen
section
variable {k:IntKind} {w w':World} {B B' n c:Nat} {A:Option Addr} {us:List Int}
theorem RdI.len (h:RdI k w B A n c us):us.length=n:=by simpa using h.1.1
theorem RdI.nil:RdI k w B none 0 0 []:=⟨Rd.nil,Nat.le_refl _,Nat.zero_le _⟩
theorem RdI.keep (h:RdI k w B A n c us) (hk:∀ p:Addr,p.block<B→w'.cell? p=w.cell? p):RdI k w' B A n c us:=⟨h.1.keep hk,h.2⟩
theorem RdI.more (h:RdI k w B A n c us) (hB:B≤B'):RdI k w B' A n c us:=⟨h.1.more hB,h.2⟩
theorem RdI.below (h:RdI k w B A n c us) (hb:Below B w w'):RdI k w' B A n c us:=h.keep fun _ hp=>hb.cell hp
theorem RdI.cell (h:RdI k w B A n c us) {i:Nat} (hi:i<n):∃ b off,A=some ⟨b,off,none⟩∧b<B∧w.cell? ⟨b,off+i,none⟩=some (.int k (us[i]'(by rw[h.len]; exact hi))):=by
 obtain⟨b,off,e,hb,hc⟩:=h.1.2 (by omega);exact⟨b,off,e,hb,hc i _ (by simp[h.len,hi])⟩
theorem RdI.at_ (h:RdI k w B A n c us) (hn:0<n):∃ b off,A=some ⟨b,off,none⟩∧b<B∧∀ i (hi:i<us.length),w.cell? ⟨b,off+i,none⟩=some (.int k us[i]):=by
 obtain⟨b,off,e,hb,hc⟩:=h.1.2 hn;exact⟨b,off,e,hb,fun i hi=>hc i _ (by simp[hi])⟩
end
section
variable {w w':World} {B B':Nat} {v:Value} {t:TermD}
end
def oneB (m:Int):Bool:=decide (1≤m)&&decide (m≤3)
def isB (c v:Int):Bool:=c==0&&decide (0≤v)&&decide (v<1048576) || oneB c&&v==0
def isE (c v:Int):Int:=if isB c v then 0 else 2
theorem isE_yes {c v:Int} (h:isB c v=true):isE c v=0:=by simp[isE,h]
theorem isE_no {c v:Int} (h:isB c v=false):isE c v=2:=by simp[isE,h]
theorem one_any (m:Int) (w:World):
  Calls Tryd.prog 106 #[.int .u8 m] w fun e w'=>e=.returned (.bool (oneB m))∧w=w':=by
 by_cases h:1≤m
 · have hb:decide (1≤m)=true:=by simpa using h
   have H:Hid (decide (m≤3)=oneB m):=by show _=_; simp[oneB,h]
   clear h
   go_enter Tryd.func106,Tryd.ntmps106
   go_wp2_with fail;go_ret;exact⟨ret_bool H.out,rfl⟩
 · have hb:decide (1≤m)=false:=by simpa using h
   have H:Hid (false=oneB m):=by show _=_; simp[oneB,h]
   clear h
   go_enter Tryd.func106,Tryd.ntmps106
   go_wp2_with fail;go_ret;exact⟨ret_bool H.out,rfl⟩
theorem one_at (m:Int) (v:Bool) (h:oneB m=v) (w:World):
  Calls Tryd.prog 106 #[.int .u8 m] w fun e w'=>e=.returned (.bool v)∧w=w':=
 (one_any m w).mono fun _ _ ⟨he,hw⟩=>⟨by rw[he,h],hw⟩
theorem RdI.of_own {k:IntKind} {w:World} {base:Nat} {e:TypeId} {A:Option Addr} {n c:Nat} {us:List Int} (h:w.ownsRow base e 1 (.slice A n c) n (us.map (Value.int k))):RdI k w w.heap.size A n c us:=by
 rcases h.2 with ⟨e0,hn⟩ | ⟨g,cap,cur,e0,hb,hg,hn,hm,hs,ht⟩
 · injection e0 with e1 e2 e3
   subst e1; subst e2; subst e3
   have:us=[]:=by
    have:=h.1;simp at this;exact this
   subst this;exact RdI.nil
 · injection e0 with e1 e2 e3
   subst e1; subst e3
   refine⟨⟨h.1,fun hn0=>⟨g,0,rfl,(Array.getElem?_eq_some_iff.1 hg).1,fun j u hu=>?_⟩⟩,hn,hm⟩;have:=h.cells (g:=g) rfl j u hu
   rw[show(Addr.add ⟨g,0,none⟩ j)=⟨g,0+j,none⟩ from by unfold Addr.add; split <;> simp_all] at this
   exact this
def Blk (w:World) (g:Nat) (t:TypeId) (cs:Array Value):Prop:=w.heap[g]?=some (.cells cs t (0,0))
section
variable {w w':World} {g:Nat} {t:TypeId} {cs:Array Value}
theorem Blk.lt (h:Blk w g t cs):g<w.heap.size:=(Array.getElem?_eq_some_iff.1 h).1
theorem Blk.cell (h:Blk w g t cs) (i:Nat):w.cell? ⟨g,i,none⟩=cs[i]?:=cell_of_row w g i cs t (0,0) h
theorem Blk.frozen (h:Blk w g t cs) (i:Nat):w.frozen? ⟨g,i,none⟩=false:=by
 unfold Blk at h;simp[World.frozen?,h]
theorem Blk.set_ (h:Blk w g t cs) (i:Nat) (u:Value):Blk (w.setCell ⟨g,i,none⟩ u) g t (cs.setIfInBounds i u):=by
 unfold Blk at h ⊢;simp[World.setCell,Array.getElem?_modify,h]
theorem Blk.below {B:Nat} (h:Blk w g t cs) (hb:Below B w w') (hg:g<B):Blk w' g t cs:=(hb.block g hg).trans h
theorem Blk.grown {row:Option Nat} (h:Blk w g t cs) (hb:w.grownBy w' row) (hg:some g≠row):Blk w' g t cs:=(hb.block g h.lt hg).trans h
end
theorem below_grown {w w1:World} (h:Below w.heap.size w w1):w.grownBy w1 none:=⟨h.os,h.tape,h.output,h.size,fun k hk _=>h.block k hk⟩
theorem run_clear_cells {P:Program} (w:World) (t e ty:TypeId) (z:Value) (zs:Array Value) (ht:P.underlying t=some (.slice e)) (hv:∀ w,(zeroValue e).run P w=.ok z w) (hz:z.cells=zs) (h1:∀ u∈zs,u.oneCell'=true) (hzn:0<zs.size) (b o n c:Nat) (hn:0<n)
  (hc:∀ j,j<n * zs.size→(w.cell? ⟨b,o+j,none⟩).isSome=true) (hf:∀ j,j<n * zs.size→w.frozen? ⟨b,o+j,none⟩=false):
  (Builtin.clear_ #[t] ty #[.slice (some ⟨b,o,none⟩) n c]).run P w=.ok (.tuple #[]) (w.setCells b o (Builtin.zeroCells zs n).toList):=by
 have hlen:(Builtin.zeroCells zs n).toList.length=n * zs.size:=by rw[Array.length_toList,size_zeroCells]
 have hst:=run_storeCells_cells (P:=P) b o (Builtin.zeroCells zs n).toList 0 w (by rw[hlen]; simpa using hc) (by rw[hlen]; simpa using hf) (by
  intro v hv';rw[Array.mem_toList_iff] at hv';unfold Builtin.zeroCells at hv';rw[Array.mem_map] at hv';obtain⟨i,_,rfl⟩:=hv';have hi:i % zs.size<zs.size:=Nat.mod_lt _ hzn;rw[getElem!_pos zs _ hi]
  exact h1 _ (Array.getElem_mem hi))
 simp only[Nat.add_zero] at hst
 obtain⟨m,rfl⟩:∃ m,n=m+1:=⟨n - 1,by omega⟩
 simp[Builtin.clear_,run_underlying ht,hv,hz,hst]
theorem ownsRow_cut {w:World} {base:Nat} {e:TypeId} {size g n c i:Nat} {cs:List Value} (h:w.ownsRow base e size (.slice (some ⟨g,0,none⟩) n c) n cs) (hi:i≤n):
  w.ownsRow base e size (.slice (some ⟨g,0,none⟩) i c) i (cs.take (i * size)):=by
 have hm:i * size≤n * size:=Nat.mul_le_mul_right _ hi
 refine⟨by rw[List.length_take,h.1]; omega,?_⟩
 rcases h.2 with ⟨e0,_⟩ | ⟨g',cap,cur,e0,hb,hg,hn,hcm,hs,ht⟩
 · cases e0
 · refine .inr ⟨g',cap,cur,?_,hb,hg,by omega,hcm,hs,?_⟩
   · injection e0 with e1 e2 e3
     rw[e1,e3]
   · rw[← ht,List.take_take]
     congr 1
     omega
theorem ownsRow_setCells {base:Nat} {e:TypeId} {size g n c:Nat}:∀ (vs:List Value) (cs:List Value) (o:Nat) (w:World),w.ownsRow base e size (.slice (some ⟨g,0,none⟩) n c) n cs →
  ∃ cs',(w.setCells g o vs).ownsRow base e size (.slice (some ⟨g,0,none⟩) n c) n cs'∧(∀ k,k<o→cs'[k]?=cs[k]?)∧w.grownBy (w.setCells g o vs) (some g)
 | [],cs,o,w,h=>⟨cs,h,fun _ _=>rfl,World.grownBy.refl w _⟩
 | v :: vs,cs,o,w,h=>by
   obtain⟨h1,h2⟩:=h.stored o v;obtain⟨cs',h3,h4,h5⟩:=ownsRow_setCells vs (cs.set o v) (o+1) _ h1;refine⟨cs',h3,fun k hk=>?_,?_⟩
   · rw[h4 k (by omega),List.getElem?_set_ne (by omega)]
   · exact⟨h5.os.trans h2.os,h5.tape.trans h2.tape,h5.output.trans h2.output,Nat.le_trans h2.size h5.size,fun k hk hne=>(h5.block k (Nat.lt_of_lt_of_le hk h2.size) hne).trans (h2.block k hk hne)⟩
theorem below_box {w:World} (o:Obj):Below w.heap.size w (w.alloc o):=(Below.refl _ _).alloc (Nat.le_refl _) _
theorem below_drewN_t {B:Nat} {a w:World} (h:Below B a w) (n:Nat):Below B a (w.drewN n):=⟨h.os,h.tape,h.output,h.size,h.block⟩
theorem Blk.other {w:World} {g g':Nat} {t:TypeId} {cs:Array Value} (h:Blk w g t cs) (hg:g'≠g) (i:Nat) (u:Value):Blk (w.setCell ⟨g',i,none⟩ u) g t cs:=by
 unfold Blk at h ⊢;simp[World.setCell,Array.getElem?_modify,h,hg]
theorem blk_new (w:World) (cs:Array Value) (t:TypeId):Blk (w.alloc (Obj.cells cs t)) w.heap.size t cs:=heap_alloc_new w _
theorem Blk.alloc {w:World} {g:Nat} {t:TypeId} {cs:Array Value} (h:Blk w g t cs) (o:Obj):Blk (w.alloc o) g t cs:=by
 show(w.alloc o).heap[g]?=_;rw[Below.heap_alloc _ _ _ h.lt];exact h
theorem ownsRow_beyond {w w':World} {base:Nat} {e:TypeId} {size:Nat} {v:Value} {n:Nat} {xs:List Value} (h:w.ownsRow base e size v n xs) (hb:Below w.heap.size w w'):w'.ownsRow base e size v n xs:=
 h.kept (row:=none) ⟨hb.os,hb.tape,hb.output,hb.size,fun k hk _=>hb.block k hk⟩ (by
  cases hv:v.ownBlock
  · exact .inl rfl
  · exact .inr (by simp))
theorem ownsRow_form {w:World} {base:Nat} {e:TypeId} {size:Nat} {v:Value} {n:Nat} {xs:List Value} (h:w.ownsRow base e size v n xs):∃ A c,v=.slice A n c:=by
 rcases h.2 with ⟨e0,hn0⟩ | ⟨g,cap,cur,e0,_⟩
 · exact⟨none,0,by rw[e0,hn0]⟩
 · exact⟨some ⟨g,0,none⟩,cap,e0⟩
section
variable {P:Program}
theorem wpList_append_one {ops:Array Oper} {rest:List Oper} {o:Oper} {a:Act} {Q:Exit→Act→World→Prop} (w0 w:World) (hgd:o.guard=none) (s x:Operand) (t:TypeId)
  (ho:o.op=.call { callee:=.builtin .append,args:=#[s,x],argTypes:=#[t,t] })
  (base:Nat) (e:TypeId) (i:TypeInfo) (z:Value) (size bytes:Nat) (ht:P.underlying t=some (.slice e)) (hi:P.info? e=some i) (hz:i.zero=some z)
  (hsize:i.size=size) (hby:i.bytes=bytes) (hzs:z.cells.size=size) (hsz:0<size)
  (v:Value) (n:Nat) (xs:List Value) (hs:a.eval s=v) (cs:List Value) (hcs:cs.length=size) (h1:∀ u∈cs,u.oneCell'=true) (hx:a.eval x=.slice (some ⟨w.heap.size,0,none⟩) 1 1)
  (hown:w.ownsRow base e size v n xs) (h63:n+1≤maxLen) (hbytes:(n+1) * bytes≤140737488355328) (hbel:Below base w0 w) (hbase:base≤w.heap.size)
  (h:∀ A' c' w',w'.ownsRow base e size (.slice A' (n+1) c') (n+1) (xs++cs)→Below base w0 w'→w.grownBy w' v.ownBlock→w.heap.size≤w'.heap.size→wpList P ops Q rest (a.put o.dst (.slice A' (n+1) c')) w'):
  wpList P ops Q (o :: rest) a (w.alloc (Obj.cells cs.toArray e)):=by
 have hrd:Rd (w.alloc (Obj.cells cs.toArray e)) (w.heap.size+1) size (some ⟨w.heap.size,0,none⟩) 1 cs:=
  ⟨by rw[hcs,Nat.one_mul],fun _=>⟨w.heap.size,0,rfl,Nat.lt_succ_self _,fun j u hu=>by rw[Nat.zero_add,World.cell?_alloc_new]; simpa using hu⟩⟩
 refine wpList_append_rd (w.alloc (Obj.cells cs.toArray e)) hgd s x t ho base e i z size bytes ht hi hz hsize hby hzs hsz v n xs hs (hown.alloc _) (w.heap.size+1) _ 1 1 cs hx hrd h1 h63 hbytes (by rw[World.size_alloc]; omega) fun v' w' h2 h3 h4=>?_
 obtain⟨A',c',rfl⟩:=ownsRow_form h2
 have hg:w.grownBy w' v.ownBlock:=⟨h3.os,h3.tape,h3.output,Nat.le_trans (by rw[World.size_alloc]; omega) h3.size,fun k hk hne=>(h3.block k (by rw[World.size_alloc]; omega) hne).trans (Below.heap_alloc w _ k hk)⟩
 exact h A' c' w' h2 ((hbel.alloc hbase _).grown h3 (by rw[World.size_alloc]; omega) (fun k hk=>(hown.lt _ hk).1)) hg hg.size
end
end Go.Proofs.YtgpeijkjmkocgaaDoor
namespace Go.Proofs.YtgpeijkjmkocgaaDoor
open Go.RowKit
inductive Cel where
 | v (x:Value)
 | s (k:Nat) (l:List Cel)
instance:Inhabited Cel:=⟨.v (.bool false)⟩
mutual
def CelIn (w:World) (S:Nat→Prop):Cel→Value→Prop
 | .v x,u=>u=x
 | .s k l,u=>∃ A m cp,u=.slice A m cp∧l.length=m * k∧m≤cp∧cp≤maxLen∧(0<m→∃ b off,A=some ⟨b,off,none⟩∧S b∧CelsIn w S l b off)
def CelsIn (w:World) (S:Nat→Prop):List Cel→Nat→Nat→Prop
 | [],_,_=>True
 | c :: r,b,off=>(∃ u,w.cell? ⟨b,off,none⟩=some u∧CelIn w S c u)∧CelsIn w S r b (off+1)
end
section
variable {w w':World} {S S':Nat→Prop}
theorem celIn_v {x u:Value}:CelIn w S (.v x) u↔u=x:=by rw[CelIn]
theorem celIn_s {k:Nat} {l:List Cel} {u:Value}:CelIn w S (.s k l) u↔∃ A m cp,u=.slice A m cp∧l.length=m * k∧m≤cp∧cp≤maxLen∧(0<m→∃ b off,A=some ⟨b,off,none⟩∧S b∧CelsIn w S l b off):=by rw[CelIn]
theorem celsIn_cons {c:Cel} {r:List Cel} {b off:Nat}:CelsIn w S (c :: r) b off↔(∃ u,w.cell? ⟨b,off,none⟩=some u∧CelIn w S c u)∧CelsIn w S r b (off+1):=by rw[CelsIn]
theorem celsIn_nil {b off:Nat}:CelsIn w S [] b off:=by rw[CelsIn]; trivial
mutual
theorem CelIn.keep (hS:∀ b,S b→S' b) (hk:∀ p:Addr,S p.block→w'.cell? p=w.cell? p):∀ (c:Cel) (u:Value),CelIn w S c u→CelIn w' S' c u
 | .v x,u,h=>by rw[celIn_v] at h ⊢; exact h
 | .s k l,u,h=>by
   rw[celIn_s] at h ⊢;obtain⟨A,m,cp,e0,e1,e2,e3,e4⟩:=h;refine⟨A,m,cp,e0,e1,e2,e3,fun hm=>?_⟩;obtain⟨b,off,e,hb,hr⟩:=e4 hm;exact⟨b,off,e,hS _ hb,CelsIn.keep hS hk l b off hb hr⟩
theorem CelsIn.keep (hS:∀ b,S b→S' b) (hk:∀ p:Addr,S p.block→w'.cell? p=w.cell? p):∀ (l:List Cel) (b off:Nat),S b→CelsIn w S l b off→CelsIn w' S' l b off
 | [],_,_,_,_=>celsIn_nil
 | c :: r,b,off,hb,h=>by
   rw[celsIn_cons] at h ⊢;obtain⟨⟨u,hu,hc⟩,hr⟩:=h;exact⟨⟨u,(hk _ hb).trans hu,CelIn.keep hS hk c u hc⟩,CelsIn.keep hS hk r b (off+1) hb hr⟩
end
theorem CelIn.mono {c:Cel} {u:Value} (h:CelIn w S c u) (hS:∀ b,S b→S' b):CelIn w S' c u:=CelIn.keep hS (fun _ _=>rfl) c u h
theorem CelsIn.get:∀ {l:List Cel} {b off:Nat},CelsIn w S l b off→∀ (i:Nat) {c:Cel},l[i]?=some c→∃ u,w.cell? ⟨b,off+i,none⟩=some u∧CelIn w S c u
 | [],_,_,_,i,c,h=>by simp at h
 | x :: r,b,off,h,0,c,hc=>by
   rw[celsIn_cons] at h
   obtain rfl:x=c:=by simpa using hc
   exact h.1
 | x :: r,b,off,h,i+1,c,hc=>by
   rw[celsIn_cons] at h;have:=CelsIn.get h.2 i (by simpa using hc)
   rwa [show off+1+i=off+(i+1) from by omega] at this
theorem CelsIn.of:∀ {l:List Cel} {b off:Nat},(∀ (i:Nat) (c:Cel),l[i]?=some c→∃ u,w.cell? ⟨b,off+i,none⟩=some u∧CelIn w S c u)→CelsIn w S l b off
 | [],_,_,_=>celsIn_nil
 | x :: r,b,off,h=>by
   rw[celsIn_cons];refine⟨h 0 x rfl,CelsIn.of fun i c hc=>?_⟩;have:=h (i+1) c (by simpa using hc)
   rwa [show off+(i+1)=off+1+i from by omega] at this
theorem CelsIn.append {a c:List Cel} {b off:Nat}:CelsIn w S (a++c) b off↔CelsIn w S a b off∧CelsIn w S c b (off+a.length):=by
 induction a generalizing off with
 | nil=>simp[celsIn_nil]
 | cons x a ih=>
   rw[List.cons_append,celsIn_cons,celsIn_cons,ih,and_assoc,List.length_cons,show off+1+a.length=off+(a.length+1) from by omega]
theorem CelsIn.row {X:Type} {enc:X→List Cel} {k:Nat} (hk:∀ x,(enc x).length=k):∀ {xs:List X} {b off:Nat},CelsIn w S (xs.flatMap enc) b off→∀ i (h:i<xs.length),CelsIn w S (enc xs[i]) b (off+i * k)
 | x :: xs,b,off,h,0,_=>by
   rw[List.flatMap_cons,CelsIn.append] at h;rw[Nat.zero_mul,Nat.add_zero];exact h.1
 | x :: xs,b,off,h,i+1,hi=>by
   rw[List.flatMap_cons,CelsIn.append,hk] at h;have:=CelsIn.row hk h.2 i (by simpa using hi)
   rw[show off+(i+1) * k=off+k+i * k from by rw[Nat.add_mul,Nat.one_mul]; omega]
   exact this
theorem flat_len {X:Type} {enc:X→List Cel} {k:Nat} (hk:∀ x,(enc x).length=k) (xs:List X):(xs.flatMap enc).length=xs.length * k:=by
 induction xs with
 | nil=>simp
 | cons x xs ih=>rw[List.flatMap_cons,List.length_append,ih,hk,List.length_cons,Nat.add_mul,Nat.one_mul,Nat.add_comm]
def CelsV (w:World) (S:Nat→Prop):List Cel→List Value→Prop
 | [],[]=>True
 | c :: r,u :: us=>CelIn w S c u∧CelsV w S r us
 | _,_=>False
theorem CelsV.nil:CelsV w S [] []:=trivial
theorem CelsV.len:∀ {l:List Cel} {us:List Value},CelsV w S l us→us.length=l.length
 | [],[],_=>rfl
 | c :: r,u :: us,h=>by rw[List.length_cons,List.length_cons,CelsV.len h.2]
 | [],_ :: _,h=>h.elim
 | _ :: _,[],h=>h.elim
theorem CelsV.append:∀ {a b:List Cel} {us vs:List Value},CelsV w S a us→CelsV w S b vs→CelsV w S (a++b) (us++vs)
 | [],b,[],vs,_,h=>h
 | c :: r,b,u :: us,vs,h,h2=>⟨h.1,CelsV.append h.2 h2⟩
 | [],_,_ :: _,_,h,_=>h.elim
 | _ :: _,_,[],_,h,_=>h.elim
theorem CelsV.keep (hS:∀ b,S b→S' b) (hk:∀ p:Addr,S p.block→w'.cell? p=w.cell? p):∀ {l:List Cel} {us:List Value},CelsV w S l us→CelsV w' S' l us
 | [],[],_=>trivial
 | c :: r,u :: us,h=>⟨CelIn.keep hS hk c u h.1,CelsV.keep hS hk h.2⟩
 | [],_ :: _,h=>h.elim
 | _ :: _,[],h=>h.elim
theorem CelsV.get:∀ {l:List Cel} {us:List Value},CelsV w S l us→∀ (i:Nat) {c:Cel},l[i]?=some c→∃ u,us[i]?=some u∧CelIn w S c u
 | [],[],_,i,c,hc=>by simp at hc
 | x :: r,u :: us,h,0,c,hc=>by
   obtain rfl:x=c:=by simpa using hc
   exact⟨u,rfl,h.1⟩
 | x :: r,u :: us,h,i+1,c,hc=>by
   obtain⟨v,h1,h2⟩:=CelsV.get h.2 i (by simpa using hc)
   exact⟨v,by simpa using h1,h2⟩
 | [],_ :: _,h,_,_,_=>h.elim
 | _ :: _,[],h,_,_,_=>h.elim
theorem CelsV.in_ {l:List Cel} {us:List Value} {b off:Nat} (h:CelsV w S l us) (hc:∀ (j:Nat) (u:Value),us[j]?=some u→w.cell? ⟨b,off+j,none⟩=some u):CelsIn w S l b off:=
 CelsIn.of fun i c hi=>by
  obtain⟨u,h1,h2⟩:=h.get i hi;exact⟨u,hc i u h1,h2⟩
theorem CelsIn.vals:∀ {l:List Cel} {b off:Nat},CelsIn w S l b off→∃ us:List Value,CelsV w S l us∧∀ (j:Nat) (u:Value),us[j]?=some u→w.cell? ⟨b,off+j,none⟩=some u
 | [],b,off,_=>⟨[],trivial,fun j u h=>by simp at h⟩
 | c :: r,b,off,h=>by
   rw[celsIn_cons] at h;obtain⟨⟨u,hu,hc⟩,hr⟩:=h;obtain⟨us,h1,h2⟩:=CelsIn.vals hr;refine⟨u :: us,⟨hc,h1⟩,fun j v hj=>?_⟩
   cases j with
   | zero=>
     obtain rfl:u=v:=by simpa using hj
     exact hu
   | succ j=>
     have:=h2 j v (by simpa using hj)
     rwa [show off+1+j=off+(j+1) from by omega] at this
end
def Sl {X:Type} (w:World) (S:Nat→Prop) (enc:X→List Cel) (k:Nat) (xs:List X) (A:Option Addr) (m cp:Nat):Prop:=
 xs.length=m∧m≤cp∧cp≤maxLen∧(0<m→∃ b off,A=some ⟨b,off,none⟩∧S b∧CelsIn w S (xs.flatMap enc) b off)
abbrev Lt (B:Nat):Nat→Prop:=fun b=>b<B
section
variable {X:Type} {w w':World} {S S':Nat→Prop} {enc:X→List Cel} {k:Nat} {xs:List X} {A:Option Addr} {m cp B:Nat}
theorem Sl.len (h:Sl w S enc k xs A m cp):xs.length=m:=h.1
theorem Sl.cap (h:Sl w S enc k xs A m cp):m≤9223372036854775807:=Nat.le_trans h.2.1 h.2.2.1
theorem Sl.nil:Sl w S enc k ([]:List X) none 0 0:=⟨rfl,Nat.le_refl _,Nat.zero_le _,fun h=>absurd h (by omega)⟩
theorem Sl.keep (h:Sl w S enc k xs A m cp) (hS:∀ b,S b→S' b) (hk:∀ p:Addr,S p.block→w'.cell? p=w.cell? p):Sl w' S' enc k xs A m cp:=by
 refine⟨h.1,h.2.1,h.2.2.1,fun hm=>?_⟩;obtain⟨b,off,e,hb,hr⟩:=h.2.2.2 hm;exact⟨b,off,e,hS _ hb,CelsIn.keep hS hk _ b off hb hr⟩
theorem Sl.mono (h:Sl w S enc k xs A m cp) (hS:∀ b,S b→S' b):Sl w S' enc k xs A m cp:=h.keep hS fun _ _=>rfl
theorem Sl.below (h:Sl w (Lt B) enc k xs A m cp) (hb:Below B w w'):Sl w' (Lt B) enc k xs A m cp:=h.keep (fun _ h=>h) fun _ hp=>hb.cell hp
theorem Sl.fresh (h:Sl w (Lt w.heap.size) enc k xs A m cp) (hb:Below w.heap.size w w'):Sl w' (Lt w'.heap.size) enc k xs A m cp:=h.keep (fun _ h=>Nat.lt_of_lt_of_le h hb.size) fun _ hp=>hb.cell hp
theorem Sl.at_ (hk:∀ x,(enc x).length=k) (h:Sl w S enc k xs A m cp) (hm:0<m):∃ b off,A=some ⟨b,off,none⟩∧S b∧∀ i (h:i<xs.length),CelsIn w S (enc xs[i]) b (off+i * k):=by
 obtain⟨b,off,e,hb,hr⟩:=h.2.2.2 hm;exact⟨b,off,e,hb,CelsIn.row hk hr⟩
theorem sl_iff (hk:∀ x,(enc x).length=k) (hk0:0<k) {u:Value}:CelIn w S (.s k (xs.flatMap enc)) u↔∃ A m cp,u=.slice A m cp∧Sl w S enc k xs A m cp:=by
 rw[celIn_s];refine⟨fun⟨A,m,cp,e0,e1,e2,e3,e4⟩=>⟨A,m,cp,e0,?_,e2,e3,e4⟩,fun⟨A,m,cp,e0,e1,e2,e3,e4⟩=>⟨A,m,cp,e0,?_,e2,e3,e4⟩⟩
 · rw[flat_len hk] at e1
   exact Nat.eq_of_mul_eq_mul_right hk0 e1
 · rw[flat_len hk,e1]
end
def OwnC (w:World) (base:Nat) (e:TypeId) (k:Nat) (R:Nat→Prop) (v:Value) (n:Nat) (l:List Cel):Prop:=
 l.length=n * k∧∃ cs,w.ownsRow base e k v n cs∧CelsV w (fun b=>b<w.heap.size∧some b≠v.ownBlock∧¬ R b) l cs
section
variable {w w':World} {base:Nat} {e:TypeId} {k:Nat} {R R':Nat→Prop} {v:Value} {n:Nat} {l:List Cel}
theorem OwnC.form (h:OwnC w base e k R v n l):∃ A c,v=.slice A n c:=by
 obtain⟨_,cs,h1,_⟩:=h;exact ownsRow_form h1
theorem OwnC.lt (h:OwnC w base e k R v n l) (g:Nat) (hg:v.ownBlock=some g):base≤g∧g<w.heap.size:=by
 obtain⟨_,cs,h1,_⟩:=h;exact h1.lt g hg
theorem OwnC.nil:OwnC w base e k R (.slice none 0 0) 0 []:=⟨by simp,[],World.ownsRow_nil _ _ _ _,trivial⟩
theorem OwnC.beyond (h:OwnC w base e k R v n l) (hb:Below w.heap.size w w'):OwnC w' base e k R v n l:=by
 obtain⟨h0,cs,h1,h2⟩:=h;exact⟨h0,cs,ownsRow_beyond h1 hb,h2.keep (fun b h=>⟨Nat.lt_of_lt_of_le h.1 hb.size,h.2⟩) fun p hp=>hb.cell hp.1⟩
theorem OwnC.set (h:OwnC w base e k R v n l) {p:Addr} (hp:p.block<base) (hR:R p.block) (u:Value):OwnC (w.setCell p u) base e k R v n l:=by
 obtain⟨h0,cs,h1,h2⟩:=h
 refine⟨h0,cs,ownsRow_setCell_below h1 hp u,h2.keep (fun b h=>by rw[World.size_setCell]; exact h) fun q hq=>?_⟩
 exact World.cell?_setCell_other _ _ _ _ (fun e=>hq.2.2 (by rw[← e]; exact hR))
theorem OwnC.low (h:OwnC w base e k R v n l) {base':Nat} (hb:base'≤base):OwnC w base' e k R v n l:=by
 obtain⟨h0,cs,h1,h2⟩:=h;refine⟨h0,cs,?_,h2⟩
 rcases h1.2 with h3 | ⟨g,cap,cur,e0,hg,h3⟩
 · exact⟨h1.1,.inl h3⟩
 · exact⟨h1.1,.inr ⟨g,cap,cur,e0,Nat.le_trans hb hg,h3⟩⟩
theorem OwnC.cel (h:OwnC w base e k R v n l) (hR:∀ b,R' b→R b) (hb:∀ b,base≤b→¬ R' b):CelIn w (fun b=>b<w.heap.size∧¬ R' b) (.s k l) v:=by
 obtain⟨h0,cs,h1,h2⟩:=h;have h3:CelsV w (fun b=>b<w.heap.size∧¬ R' b) l cs:=h2.keep (fun b h=>⟨h.1,fun h3=>h.2.2 (hR b h3)⟩) fun _ _=>rfl;rw[celIn_s]
 rcases h1.2 with ⟨e0,hn⟩ | ⟨g,cap,cur,e0,hg,hblk,hn,hm,hs,ht⟩
 · exact⟨none,0,0,e0,by rw[h0,hn],Nat.le_refl _,Nat.zero_le _,fun h=>absurd h (by omega)⟩
 · refine⟨some ⟨g,0,none⟩,n,cap,e0,h0,hn,hm,fun _=>⟨g,0,rfl,⟨(Array.getElem?_eq_some_iff.1 hblk).1,hb g hg⟩,h3.in_ fun j u hu=>?_⟩⟩
   subst e0;have:=h1.cells (g:=g) rfl j u hu
   rwa [show(Addr.add ⟨g,0,none⟩ j)=⟨g,0+j,none⟩ from by unfold Addr.add; split <;> simp_all] at this
theorem OwnC.sl {X:Type} {enc:X→List Cel} {xs:List X} {A:Option Addr} {c:Nat} (hk:∀ x,(enc x).length=k) (hk0:0<k) (h:OwnC w base e k R (.slice A n c) n (xs.flatMap enc)):Sl w (Lt w.heap.size) enc k xs A n c:=by
 have h2:=(h.cel (R':=fun _=>False) (fun _ h=>h.elim) (fun _ _ h=>h)).mono (S':=Lt w.heap.size) fun b hb=>hb.1;obtain⟨A',m',c',e,h3⟩:=(sl_iff hk hk0).1 h2
 injection e with e1 e2 e3
 subst e1; subst e2; subst e3
 exact h3
variable {P:Program}
theorem wpList_append_cel {ops:Array Oper} {rest:List Oper} {o:Oper} {a:Act} {Q:Exit→Act→World→Prop} {B0:Nat} (w0 w:World) (hgd:o.guard=none) (s x:Operand) (t:TypeId)
  (ho:o.op=.call { callee:=.builtin .append,args:=#[s,x],argTypes:=#[t,t] })
  (base:Nat) (e:TypeId) (i:TypeInfo) (z:Value) (k bytes:Nat) (ht:P.underlying t=some (.slice e)) (hi:P.info? e=some i) (hz:i.zero=some z)
  (hsize:i.size=k) (hby:i.bytes=bytes) (hzs:z.cells.size=k) (hsz:0<k) (R:Nat→Prop)
  (v:Value) (n:Nat) (l:List Cel) (hs:a.eval s=v) (cs:List Value) (c:List Cel) (hcs:cs.length=k) (h1:∀ u∈cs,u.oneCell'=true) (hx:a.eval x=.slice (some ⟨w.heap.size,0,none⟩) 1 1)
  (hown:OwnC w base e k R v n l) (hc:CelsV w (fun b=>b<w.heap.size∧some b≠v.ownBlock∧¬ R b) c cs) (h63:n+1≤maxLen) (hbytes:(n+1) * bytes≤140737488355328) (hbel:Below B0 w0 w) (hB0:B0≤base) (hbase:base≤w.heap.size)
  (h:∀ A' c' w',OwnC w' base e k R (.slice A' (n+1) c') (n+1) (l++c)→Below B0 w0 w'→w.grownBy w' v.ownBlock→w.heap.size≤w'.heap.size→((Value.slice A' (n+1) c').ownBlock=v.ownBlock∨(Value.slice A' (n+1) c').ownBlock=some (w.heap.size+1))→wpList P ops Q rest (a.put o.dst (.slice A' (n+1) c')) w'):
  wpList P ops Q (o :: rest) a (w.alloc (Obj.cells cs.toArray e)):=by
 obtain⟨hl,cs0,hown0,hv0⟩:=hown
 have hrd:Rd (w.alloc (Obj.cells cs.toArray e)) (w.heap.size+1) k (some ⟨w.heap.size,0,none⟩) 1 cs:=
  ⟨by rw[hcs,Nat.one_mul],fun _=>⟨w.heap.size,0,rfl,Nat.lt_succ_self _,fun j u hu=>by rw[Nat.zero_add,World.cell?_alloc_new]; simpa using hu⟩⟩
 refine wpList_append_rd (w.alloc (Obj.cells cs.toArray e)) hgd s x t ho base e i z k bytes ht hi hz hsize hby hzs hsz v n cs0 hs (hown0.alloc _) (w.heap.size+1) _ 1 1 cs hx hrd h1 h63 hbytes (by rw[World.size_alloc]; omega) fun v' w' h2 h3 h4=>?_
 obtain⟨A',c',rfl⟩:=ownsRow_form h2
 have hg:w.grownBy w' v.ownBlock:=⟨h3.os,h3.tape,h3.output,Nat.le_trans (by rw[World.size_alloc]; omega) h3.size,fun k hk hne=>(h3.block k (by rw[World.size_alloc]; omega) hne).trans (Below.heap_alloc w _ k hk)⟩
 rw[World.size_alloc] at h4
 have hne:∀ b,b<w.heap.size→some b≠v.ownBlock→some b≠(Value.slice A' (n+1) c').ownBlock:=fun b hb hn e=>by
  rcases h4 with h4 | h4
  · exact hn (by rw[e,h4])
  · rw[h4] at e
    injection e with e
    omega
 have hkk:∀ p:Addr,(p.block<w.heap.size∧some p.block≠v.ownBlock∧¬ R p.block)→w'.cell? p=w.cell? p:=fun p hp=>World.cell?_of_block (hg.block p.block hp.1 hp.2.1);refine h A' c' w' ⟨?_,cs0++cs,h2,?_⟩ ?_ hg hg.size h4
 · have:=hc.len
   rw[List.length_append,hl,Nat.add_mul,Nat.one_mul];omega
 · refine CelsV.keep (fun b hb=>⟨Nat.lt_of_lt_of_le hb.1 hg.size,hne b hb.1 hb.2.1,hb.2.2⟩) hkk (hv0.append hc)
 · have hb2:Below base w0 w'→Below B0 w0 w':=fun h=>h.mono hB0
   refine⟨h3.os.trans hbel.os,h3.tape.trans hbel.tape,h3.output.trans hbel.output,Nat.le_trans hbel.size hg.size,fun b hb=>?_⟩
   have hbw:b<w.heap.size:=by omega
   refine(hg.block b hbw fun e=>?_).trans (hbel.block b hb);have:=(hown0.lt b e.symm).1;omega
end
end Go.Proofs.YtgpeijkjmkocgaaDoor
namespace Go.Proofs.YtgpeijkjmkocgaaDoor
open Go.RowKit
section
variable {P:Program}
theorem step_append_cel {ops:Array Oper} {o:Oper} {a:Act} {K:Act→World→Prop} {Q:Exit→Act→World→Prop} {E:Prop} {B0:Nat} (w0 w:World) (hgd:o.guard=none) (s x:Operand) (t:TypeId)
  (ho:o.op=.call { callee:=.builtin .append,args:=#[s,x],argTypes:=#[t,t] })
  (base:Nat) (e:TypeId) (i:TypeInfo) (z:Value) (k bytes:Nat) (ht:P.underlying t=some (.slice e)) (hi:P.info? e=some i) (hz:i.zero=some z)
  (hsize:i.size=k) (hby:i.bytes=bytes) (hzs:z.cells.size=k) (hsz:0<k) (R:Nat→Prop)
  (v:Value) (n:Nat) (l:List Cel) (hs:a.eval s=v) (cs:List Value) (c:List Cel) (hcs:cs.length=k) (h1:∀ u∈cs,u.oneCell'=true) (hx:a.eval x=.slice (some ⟨w.heap.size,0,none⟩) 1 1)
  (hown:OwnC w base e k R v n l) (hc:CelsV w (fun b=>b<w.heap.size∧some b≠v.ownBlock∧¬ R b) c cs) (h63:n+1≤maxLen) (hbytes:(n+1) * bytes≤140737488355328) (hbel:Below B0 w0 w) (hB0:B0≤base) (hbase:base≤w.heap.size)
  (h:∀ A' c' w',OwnC w' base e k R (.slice A' (n+1) c') (n+1) (l++c)→Below B0 w0 w'→w.grownBy w' v.ownBlock→w.heap.size≤w'.heap.size→((Value.slice A' (n+1) c').ownBlock=v.ownBlock∨(Value.slice A' (n+1) c').ownBlock=some (w.heap.size+1))→K (a.put o.dst (.slice A' (n+1) c')) w'):
  if Region.wanted o (yielded ops a.tmps)=true then Oper.wp P o a (w.alloc (Obj.cells cs.toArray e)) K Q else E:=by
 obtain⟨hl,cs0,hown0,hv0⟩:=hown
 have hrd:Rd (w.alloc (Obj.cells cs.toArray e)) (w.heap.size+1) k (some ⟨w.heap.size,0,none⟩) 1 cs:=
  ⟨by rw[hcs,Nat.one_mul],fun _=>⟨w.heap.size,0,rfl,Nat.lt_succ_self _,fun j u hu=>by rw[Nat.zero_add,World.cell?_alloc_new]; simpa using hu⟩⟩
 refine step_append_rd (w.alloc (Obj.cells cs.toArray e)) hgd s x t ho base e i z k bytes ht hi hz hsize hby hzs hsz v n cs0 hs (hown0.alloc _) (w.heap.size+1) _ 1 1 cs hx hrd h1 h63 hbytes (by rw[World.size_alloc]; omega) fun v' w' h2 h3 h4=>?_
 obtain⟨A',c',rfl⟩:=ownsRow_form h2
 have hg:w.grownBy w' v.ownBlock:=⟨h3.os,h3.tape,h3.output,Nat.le_trans (by rw[World.size_alloc]; omega) h3.size,fun k hk hne=>(h3.block k (by rw[World.size_alloc]; omega) hne).trans (Below.heap_alloc w _ k hk)⟩
 rw[World.size_alloc] at h4
 have hne:∀ b,b<w.heap.size→some b≠v.ownBlock→some b≠(Value.slice A' (n+1) c').ownBlock:=fun b hb hn e=>by
  rcases h4 with h4 | h4
  · exact hn (by rw[e,h4])
  · rw[h4] at e
    injection e with e
    omega
 have hkk:∀ p:Addr,(p.block<w.heap.size∧some p.block≠v.ownBlock∧¬ R p.block)→w'.cell? p=w.cell? p:=fun p hp=>World.cell?_of_block (hg.block p.block hp.1 hp.2.1);refine h A' c' w' ⟨?_,cs0++cs,h2,?_⟩ ?_ hg hg.size h4
 · have:=hc.len
   rw[List.length_append,hl,Nat.add_mul,Nat.one_mul];omega
 · refine CelsV.keep (fun b hb=>⟨Nat.lt_of_lt_of_le hb.1 hg.size,hne b hb.1 hb.2.1,hb.2.2⟩) hkk (hv0.append hc)
 · have hb2:Below base w0 w'→Below B0 w0 w':=fun h=>h.mono hB0
   refine⟨h3.os.trans hbel.os,h3.tape.trans hbel.tape,h3.output.trans hbel.output,Nat.le_trans hbel.size hg.size,fun b hb=>?_⟩
   have hbw:b<w.heap.size:=by omega
   refine(hg.block b hbw fun e=>?_).trans (hbel.block b hb);have:=(hown0.lt b e.symm).1;omega
end
end Go.Proofs.YtgpeijkjmkocgaaDoor
