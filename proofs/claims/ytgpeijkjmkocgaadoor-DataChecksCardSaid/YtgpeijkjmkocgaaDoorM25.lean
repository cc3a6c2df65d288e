import Derived.Test.YtgpeijkjmkocgaaDoorM14
import Derived.Test.YtgpeijkjmkocgaaDoorM15
import Derived.Test.YtgpeijkjmkocgaaDoorM13
set_option linter.unusedVariables false
set_option linter.unusedSimpArgs false
namespace Go.Proofs.YtgpeijkjmkocgaaDoor
open Go.RowKit
theorem But.grows {g:Nat} {w w':World} (h:But g w w'):w.grownBy w' (some g):=⟨h.os,h.tape,h.output,h.size,fun k hk hne=>h.block k hk fun e=>hne (by rw[e])⟩
theorem OwnC.but {w w':World} {g base:Nat} {e:TypeId} {k:Nat} {R:Nat→Prop} {v:Value} {n:Nat} {l:List Cel} (h:OwnC w base e k R v n l) (hb:But g w w') (hg:g<base) (hR:R g):OwnC w' base e k R v n l:=
 h.grown hb.grows (fun b hbe=>by
  injection hbe with hbe
  subst hbe
  exact fun e=>by have:=(h.lt _ e).1; omega) (fun b hbe=>by
  injection hbe with hbe
  subst hbe
  exact .inl hR) (fun _ _ h=>h)
structure TyMk (w:World) (g:Nat) (t:TyW) (A:Option Addr) (m cp:Nat) (vd a1:Value) (d:DiagD) (k n c:Int) (xs:List TyD) (A5:Option Addr) (c5:Nat) (wx:World):Prop where
 bt:Blk wx w.heap.size 47 (wCells t A m cp)
 br:Blk wx (w.heap.size+1) 63 (tCells 0 0 0 0 (.slice none 0 0))
 bo:OutAt wx (w.heap.size+1+1) (w.heap.size+1+1+1) (fun b=>0≤b∧b<w.heap.size+1+1+1) k n 0 c xs A5 c5
 bk:Blk wx g 91 (mkC vd a1 d)
 bu:But g w wx
 gw:g<w.heap.size
section
variable {w:World} {g:Nat} {t:TyW} {A:Option Addr} {m cp:Nat} {vd a1:Value} {d:DiagD} {k n c:Int} {xs:List TyD} {A5:Option Addr} {c5:Nat} {wx wy:World}
theorem TyMk.start (h:TyBx w g t A m cp vd a1 d k n 0 c wx):TyMk w g t A m cp vd a1 d k n c [] none 0 wx:=
 ⟨h.bt,h.br,⟨h.bo,OwnC.nil,⟨by omega,by omega⟩,by omega⟩,h.bk,h.bu,h.gw⟩
theorem TyMk.below (h:TyMk w g t A m cp vd a1 d k n c xs A5 c5 wx) (hb:Below wx.heap.size wx wy):TyMk w g t A m cp vd a1 d k n c xs A5 c5 wy:=
 ⟨h.bt.below hb h.bt.lt,h.br.below hb h.br.lt,h.bo.below hb,h.bk.below hb h.bk.lt,h.bu.then hb,h.gw⟩
theorem TyMk.diag (h:TyMk w g t A m cp vd a1 d k n c xs A5 c5 wx) {d':DiagD} (hk:Blk wy g 91 (mkC vd a1 d')) (hb:But g wx wy):TyMk w g t A m cp vd a1 d' k n c xs A5 c5 wy:=by
 have hg:=h.gw
 exact⟨h.bt.but hb (by omega),h.br.but hb (by omega),⟨h.bo.1.but hb (by omega),h.bo.2.1.but hb (by omega) ⟨by omega,by omega⟩,h.bo.2.2⟩,hk,h.bu.trans hb,hg⟩
theorem TyMk.own (h:TyMk w g t A m cp vd a1 d k n c xs A5 c5 wx) {b:Nat} (hb:b<w.heap.size+1+1+1):some b≠(Value.slice A5 xs.length c5).ownBlock:=fun e=>by
 have:=(h.bo.2.1.lt _ e.symm).1;omega
theorem TyMk.push (h:TyMk w g t A m cp vd a1 d k n c xs A5 c5 wx) (u:TyD) {A6:Option Addr} {c6:Nat} (ho:OwnC wy (w.heap.size+1+1+1) 63 5 (fun b=>0≤b∧b<w.heap.size+1+1+1) (.slice A6 (xs.length+1) c6) (xs.length+1) (xs.flatMap encT++encT u)) (hg:wx.grownBy wy (Value.slice A5 xs.length c5).ownBlock):
  TyMk w g t A m cp vd a1 d k n c (xs++[u]) A6 c6 (wy.setCell ⟨w.heap.size+1+1,4,none⟩ (.slice A6 (xs.length+1) c6)):=by
 have hgw:=h.gw;have hu:But g w wy:=⟨hg.os.trans h.bu.os,hg.tape.trans h.bu.tape,hg.output.trans h.bu.output,Nat.le_trans h.bu.size hg.size,fun i hi hne=>(hg.block i (Nat.lt_of_lt_of_le hi h.bu.size) (h.own (by omega))).trans (h.bu.block i hi hne)⟩;exact⟨(h.bt.grown hg (h.own (by omega))).other (by omega) _ _,(h.br.grown hg (h.own (by omega))).other (by omega) _ _,h.bo.push u ho hg,(h.bk.grown hg (h.own (by omega))).other (by omega) _ _,hu.setNew (by omega) _ _,hgw⟩
theorem TyMk.b (h:TyMk w g t A m cp vd a1 d k n c xs A5 c5 wx):wx.cell? ⟨w.heap.size,0,none⟩=some (.int .u8 t.k)∧wx.cell? ⟨w.heap.size,1,none⟩=some (.string t.s)∧wx.cell? ⟨w.heap.size,2,none⟩=some (.int .u8 t.m)∧wx.cell? ⟨w.heap.size,3,none⟩=some (.int .i64 t.p.at_)∧wx.cell? ⟨w.heap.size,4,none⟩=some (.int .i64 t.p.line)∧wx.cell? ⟨w.heap.size,5,none⟩=some (.int .i64 t.p.col)∧wx.cell? ⟨w.heap.size,6,none⟩=some (.slice A m cp):=
 ⟨h.bt.cell 0,h.bt.cell 1,h.bt.cell 2,h.bt.cell 3,h.bt.cell 4,h.bt.cell 5,h.bt.cell 6⟩
theorem TyMk.o (h:TyMk w g t A m cp vd a1 d k n c xs A5 c5 wx):wx.cell? ⟨w.heap.size+1+1,0,none⟩=some (.int .u8 k)∧wx.cell? ⟨w.heap.size+1+1,1,none⟩=some (.int .i64 n)∧wx.cell? ⟨w.heap.size+1+1,2,none⟩=some (.int .i64 0)∧wx.cell? ⟨w.heap.size+1+1,3,none⟩=some (.int .u8 c)∧wx.cell? ⟨w.heap.size+1+1,4,none⟩=some (.slice A5 xs.length c5):=
 ⟨h.bo.1.cell 0,h.bo.1.cell 1,h.bo.1.cell 2,h.bo.1.cell 3,h.bo.1.cell 4⟩
theorem TyMk.r (h:TyMk w g t A m cp vd a1 d k n c xs A5 c5 wx):wx.cell? ⟨w.heap.size+1,0,none⟩=some (.int .u8 0)∧wx.cell? ⟨w.heap.size+1,1,none⟩=some (.int .i64 0)∧wx.cell? ⟨w.heap.size+1,2,none⟩=some (.int .i64 0)∧wx.cell? ⟨w.heap.size+1,3,none⟩=some (.int .u8 0)∧wx.cell? ⟨w.heap.size+1,4,none⟩=some (.slice none 0 0):=
 ⟨h.br.cell 0,h.br.cell 1,h.br.cell 2,h.br.cell 3,h.br.cell 4⟩
theorem TyMk.de (h:TyMk w g t A m cp vd a1 d k n c xs A5 c5 wx):wx.cell? ⟨g,2,none⟩=some (.int .i64 d.e):=h.bk.cell 2
theorem TyMk.done (h:TyMk w g t A m cp vd a1 d k n c xs A5 c5 wx) {wz:World} (hz:set5 wx (w.heap.size+1) k n 0 c (.slice A5 xs.length c5)=wz):
  Blk wz (w.heap.size+1) 63 (tCells k n 0 c (.slice A5 xs.length c5))∧TysS wz (fun b=>w.heap.size≤b∧b<wz.heap.size) A5 xs.length c5 xs∧Blk wz g 91 (mkC vd a1 d)∧But g w wz:=by
 have hg:=h.gw
 have a1:w.heap.size+1≠w.heap.size+1+1:=by omega
 have a3:w.heap.size+1≠g:=by omega
 have a4:w.heap.size≤w.heap.size+1:=by omega
 have r1:w.heap.size+1<w.heap.size+1+1+1:=by omega
 have r2:0≤w.heap.size+1∧w.heap.size+1<w.heap.size+1+1+1:=⟨by omega,by omega⟩
 subst hz
 have ho:OutAt (set5 wx (w.heap.size+1) k n 0 c (.slice A5 xs.length c5)) (w.heap.size+1+1) (w.heap.size+1+1+1) (fun b=>0≤b∧b<w.heap.size+1+1+1) k n 0 c xs A5 c5:=
  ⟨((((h.bo.1.other a1 _ _).other a1 _ _).other a1 _ _).other a1 _ _).other a1 _ _,((((h.bo.2.1.set r1 r2 _).set r1 r2 _).set r1 r2 _).set r1 r2 _).set r1 r2 _,h.bo.2.2⟩
 exact⟨((((h.br.set_ 0 _).set_ 1 _).set_ 2 _).set_ 3 _).set_ 4 _,(OutAt.done (K:=0) (s:=w.heap.size) ho (by omega) (Nat.zero_le _)).mono (fun b hb=>by
  rcases hb with hb | hb
  · omega
  · exact hb),((((h.bk.other a3 _ _).other a3 _ _).other a3 _ _).other a3 _ _).other a3 _ _,((((h.bu.setNew a4 _ _).setNew a4 _ _).setNew a4 _ _).setNew a4 _ _).setNew a4 _ _⟩
end
def HeldU (s:Nat) (v:Value) (b:Nat) (x:TyW) (Ax:Option Addr) (mx cx:Nat) (w:World):Prop:=w.cell? ⟨s,4,none⟩=some v∧w.cell? ⟨b,0,none⟩=some (.int .u8 x.k)∧w.cell? ⟨b,1,none⟩=some (.string x.s)∧w.cell? ⟨b,2,none⟩=some (.int .u8 x.m)∧w.cell? ⟨b,3,none⟩=some (.int .i64 x.p.at_)∧w.cell? ⟨b,4,none⟩=some (.int .i64 x.p.line)∧w.cell? ⟨b,5,none⟩=some (.int .i64 x.p.col)∧w.cell? ⟨b,6,none⟩=some (.slice Ax mx cx)
theorem HeldU.keep {s:Nat} {v:Value} {b:Nat} {x:TyW} {Ax:Option Addr} {mx cx:Nat} {w1 w2:World} (h:HeldU s v b x Ax mx cx w1) (h1:w2.heap[s]?=w1.heap[s]?) (h2:w2.heap[b]?=w1.heap[b]?):HeldU s v b x Ax mx cx w2:=by
 have e1:∀ i,w2.cell? ⟨s,i,none⟩=w1.cell? ⟨s,i,none⟩:=fun i=>World.cell?_of_block h1;have e2:∀ i,w2.cell? ⟨b,i,none⟩=w1.cell? ⟨b,i,none⟩:=fun i=>World.cell?_of_block h2;unfold HeldU at h ⊢;rw[e1,e2,e2,e2,e2,e2,e2,e2];exact h
theorem wantD {ds:List DataD} {ps:List ByteArray} {t:TyW} (hpar:∀ x∈ds,x.params≤1000000) {r:(Int × Int × Int) × Int} (h:nodeD ds ps t=.ok r):r.2≤1000000:=by
 by_cases h1:t.k=1
 · rw[nodeD1 h1] at h
   split at h
   · cases h
   · injection h with h
     subst h;show(0:Int)≤1000000;omega
 · by_cases h2:t.k=2
   · rw[nodeD2 h2] at h
     split at h
     · split at h
       · cases h
       · injection h with h
         subst h;show((ds[(idxD ds t.s).toNat]?).map DataD.params).getD 0≤1000000
         cases e:ds[(idxD ds t.s).toNat]? with
         | none=>show(0:Int)≤1000000; omega
         | some x=>exact hpar x (List.mem_of_getElem? e)
     · injection h with h
       subst h;show(baseK t.s).2≤1000000;unfold baseK
       repeat' split
       all_goals decide
   · by_cases h3:t.k=3
     · rw[nodeD3 h3] at h
       split at h
       · cases h
       · injection h with h
         subst h;show(2:Int)≤1000000;omega
     · rw[nodeDx h1 h2 h3] at h
       cases h
theorem then_zero {X:Type} {d d':DiagD} {r:Except DiagD X} (h:d'=d.then_ r) (h0:d'.e=0):d.e=0∧((∃ y,r=.ok y)∨∃ g,r=.error g∧g.e=0):=by
 by_cases q:d.e=0
 · refine⟨q,?_⟩
   cases r with
   | ok y=>exact .inl ⟨y,rfl⟩
   | error g=>
     refine .inr ⟨g,rfl,?_⟩;rw[h] at h0;unfold DiagD.then_ at h0;rwa [if_neg (by simpa using q)] at h0
 · rw[h] at h0
   unfold DiagD.then_ at h0;rw[if_pos q] at h0;exact absurd h0 q
theorem fewD {ds:List DataD} {ps:List ByteArray} {t:TyW} {d d1 d2 d3:DiagD} {o:Int × Int × Int} {want:Int} {xs:List TyD} {l:List TyW} (hpar:∀ x∈ds,x.params≤1000000) (h1:d1=d.then_ (nodeD ds ps t)) (ho:∀ r,d.e=0→nodeD ds ps t=.ok r→r=(o,want)) (h2:d2=d1.then_ (lenD t want ()))
  (h3:Kids ds ps d2 l d3 xs) (h0:d3.e=0):(t.l.length:Int)≤1000000:=by
 obtain⟨e2,_⟩:=then_zero h3.1 h0;obtain⟨e1,hl⟩:=then_zero h2 e2;obtain⟨e0,hn⟩:=then_zero h1 e1
 have hl:(t.l.length:Int)=want:=by
  unfold lenD at hl
  by_cases q:(t.l.length:Int)≠want
  · rw[if_pos q] at hl
    rcases hl with ⟨y,h⟩ | ⟨g,h,hg⟩
    · cases h
    · injection h with h
      subst h;exact absurd hg (by decide:¬ (132:Int)=0)
  · omega
 rcases hn with ⟨y,h⟩ | ⟨g,h,hg⟩
 · have e:=ho y e0 h
   have:=wantD hpar h;rw[e] at this;rw[hl];exact this
 · exfalso
   unfold nodeD at h
   split at h
   · rename_i x hx
     injection h with h
     subst h;exact nodeE_ne hx hg
   · cases h
def dgC (d:DiagD):Array Value:=#[.int .i64 d.e,.int .i64 d.p.at_,.int .i64 d.p.line,.int .i64 d.p.col]
theorem dgC_one (d:DiagD):(dgC d).all (·.oneCell')=true:=by simp[dgC,Value.oneCell']
theorem tCells_one (k n v c:Int) (A:Option Addr) (m cp:Nat):(tCells k n v c (.slice A m cp)).all (·.oneCell')=true:=by simp[tCells,Value.oneCell']
def set4 (w:World) (g:Nat) (d:DiagD):World:=(((w.setCell ⟨g,0,none⟩ (.int .i64 d.e)).setCell ⟨g,1,none⟩ (.int .i64 d.p.at_)).setCell ⟨g,2,none⟩ (.int .i64 d.p.line)).setCell ⟨g,3,none⟩ (.int .i64 d.p.col)
structure RTy (w:World) (t:TyW) (A:Option Addr) (m cp:Nat) (v1 v2:Value) (k n c:Int) (xs:List TyD) (A5:Option Addr) (c5:Nat) (wx:World):Prop where
 bs:Blk wx w.heap.size 25 #[v1,v2]
 bt:Blk wx (w.heap.size+1) 47 (wCells t A m cp)
 r0:Blk wx (w.heap.size+1+1) 63 (tCells 0 0 0 0 (.slice none 0 0))
 r1:Blk wx (w.heap.size+1+1+1) 30 (dgC diagZ)
 out:OutAt wx (w.heap.size+1+1+1+1) (w.heap.size+1+1+1+1+1) (fun b=>0≤b∧b<w.heap.size+1+1+1+1+1) k n 0 c xs A5 c5
 bel:Below w.heap.size w wx
section
variable {w:World} {t:TyW} {A:Option Addr} {m cp:Nat} {v1 v2:Value} {k n c:Int} {xs:List TyD} {A5:Option Addr} {c5:Nat} {wx wy:World}
theorem RTy.below (h:RTy w t A m cp v1 v2 k n c xs A5 c5 wx) (hb:Below wx.heap.size wx wy):RTy w t A m cp v1 v2 k n c xs A5 c5 wy:=
 ⟨h.bs.below hb h.bs.lt,h.bt.below hb h.bt.lt,h.r0.below hb h.r0.lt,h.r1.below hb h.r1.lt,h.out.below hb,h.bel.trans (hb.mono h.bel.size)⟩
theorem RTy.kind (h:RTy w t A m cp v1 v2 k n c [] none 0 wx) (k':Int):RTy w t A m cp v1 v2 k' n c [] none 0 (wx.setCell ⟨w.heap.size+1+1+1+1,0,none⟩ (.int .u8 k')):=
 ⟨h.bs.other (by omega) _ _,h.bt.other (by omega) _ _,h.r0.other (by omega) _ _,h.r1.other (by omega) _ _,⟨h.out.1.set_ 0 _,OwnC.nil,h.out.2.2⟩,h.bel.setCell (p:=⟨w.heap.size+1+1+1+1,0,none⟩) (by show w.heap.size≤w.heap.size+1+1+1+1; omega) _⟩
theorem RTy.put (h:RTy w t A m cp v1 v2 k n c [] none 0 wx) (k' n' c':Int):RTy w t A m cp v1 v2 k' n' c' [] none 0 (set5 wx (w.heap.size+1+1+1+1) k' n' 0 c' (.slice none 0 0)):=by
 have a1:w.heap.size+1+1+1+1≠w.heap.size:=by omega
 have a2:w.heap.size+1+1+1+1≠w.heap.size+1:=by omega
 have a3:w.heap.size+1+1+1+1≠w.heap.size+1+1:=by omega
 have a4:w.heap.size+1+1+1+1≠w.heap.size+1+1+1:=by omega
 have a5:w.heap.size≤w.heap.size+1+1+1+1:=by omega
 exact⟨((((h.bs.other a1 _ _).other a1 _ _).other a1 _ _).other a1 _ _).other a1 _ _,((((h.bt.other a2 _ _).other a2 _ _).other a2 _ _).other a2 _ _).other a2 _ _,((((h.r0.other a3 _ _).other a3 _ _).other a3 _ _).other a3 _ _).other a3 _ _,
  ((((h.r1.other a4 _ _).other a4 _ _).other a4 _ _).other a4 _ _).other a4 _ _,⟨((((h.out.1.set_ 0 _).set_ 1 _).set_ 2 _).set_ 3 _).set_ 4 _,OwnC.nil,h.out.2.2⟩,
  ((((h.bel.setCell (p:=⟨w.heap.size+1+1+1+1,0,none⟩) a5 _).setCell (p:=⟨w.heap.size+1+1+1+1,1,none⟩) a5 _).setCell (p:=⟨w.heap.size+1+1+1+1,2,none⟩) a5 _).setCell (p:=⟨w.heap.size+1+1+1+1,3,none⟩) a5 _).setCell (p:=⟨w.heap.size+1+1+1+1,4,none⟩) a5 _⟩
theorem RTy.own (h:RTy w t A m cp v1 v2 k n c xs A5 c5 wx) {b:Nat} (hb:b<w.heap.size+1+1+1+1+1):some b≠(Value.slice A5 xs.length c5).ownBlock:=fun e=>by
 have:=(h.out.2.1.lt _ e.symm).1;omega
theorem RTy.push (h:RTy w t A m cp v1 v2 k n c xs A5 c5 wx) (u:TyD) {A6:Option Addr} {c6:Nat} (ho:OwnC wy (w.heap.size+1+1+1+1+1) 63 5 (fun b=>0≤b∧b<w.heap.size+1+1+1+1+1) (.slice A6 (xs.length+1) c6) (xs.length+1) (xs.flatMap encT++encT u)) (hg:wx.grownBy wy (Value.slice A5 xs.length c5).ownBlock):
  RTy w t A m cp v1 v2 k n c (xs++[u]) A6 c6 (wy.setCell ⟨w.heap.size+1+1+1+1,4,none⟩ (.slice A6 (xs.length+1) c6)):=by
 have hu:Below w.heap.size w wy:=⟨hg.os.trans h.bel.os,hg.tape.trans h.bel.tape,hg.output.trans h.bel.output,Nat.le_trans h.bel.size hg.size,fun i hi=>(hg.block i (Nat.lt_of_lt_of_le hi h.bel.size) (h.own (by omega))).trans (h.bel.block i hi)⟩
 exact⟨(h.bs.grown hg (h.own (by omega))).other (by omega) _ _,(h.bt.grown hg (h.own (by omega))).other (by omega) _ _,(h.r0.grown hg (h.own (by omega))).other (by omega) _ _,(h.r1.grown hg (h.own (by omega))).other (by omega) _ _,h.out.push u ho hg,hu.setCell (p:=⟨w.heap.size+1+1+1+1,4,none⟩) (by show w.heap.size≤w.heap.size+1+1+1+1; omega) _⟩
theorem RTy.b (h:RTy w t A m cp v1 v2 k n c xs A5 c5 wx):wx.cell? ⟨w.heap.size+1,0,none⟩=some (.int .u8 t.k)∧wx.cell? ⟨w.heap.size+1,1,none⟩=some (.string t.s)∧wx.cell? ⟨w.heap.size+1,2,none⟩=some (.int .u8 t.m)∧wx.cell? ⟨w.heap.size+1,3,none⟩=some (.int .i64 t.p.at_)∧wx.cell? ⟨w.heap.size+1,4,none⟩=some (.int .i64 t.p.line)∧wx.cell? ⟨w.heap.size+1,5,none⟩=some (.int .i64 t.p.col)∧wx.cell? ⟨w.heap.size+1,6,none⟩=some (.slice A m cp):=
 ⟨h.bt.cell 0,h.bt.cell 1,h.bt.cell 2,h.bt.cell 3,h.bt.cell 4,h.bt.cell 5,h.bt.cell 6⟩
theorem RTy.o (h:RTy w t A m cp v1 v2 k n c xs A5 c5 wx):wx.cell? ⟨w.heap.size+1+1+1+1,0,none⟩=some (.int .u8 k)∧wx.cell? ⟨w.heap.size+1+1+1+1,1,none⟩=some (.int .i64 n)∧wx.cell? ⟨w.heap.size+1+1+1+1,2,none⟩=some (.int .i64 0)∧wx.cell? ⟨w.heap.size+1+1+1+1,3,none⟩=some (.int .u8 c)∧wx.cell? ⟨w.heap.size+1+1+1+1,4,none⟩=some (.slice A5 xs.length c5):=
 ⟨h.out.1.cell 0,h.out.1.cell 1,h.out.1.cell 2,h.out.1.cell 3,h.out.1.cell 4⟩
theorem RTy.s (h:RTy w t A m cp v1 v2 k n c xs A5 c5 wx):wx.cell? ⟨w.heap.size,0,none⟩=some v1∧wx.cell? ⟨w.heap.size,1,none⟩=some v2:=⟨h.bs.cell 0,h.bs.cell 1⟩
theorem RTy.r (h:RTy w t A m cp v1 v2 k n c xs A5 c5 wx):(wx.cell? ⟨w.heap.size+1+1,0,none⟩=some (.int .u8 0)∧wx.cell? ⟨w.heap.size+1+1,1,none⟩=some (.int .i64 0)∧wx.cell? ⟨w.heap.size+1+1,2,none⟩=some (.int .i64 0)∧wx.cell? ⟨w.heap.size+1+1,3,none⟩=some (.int .u8 0)∧wx.cell? ⟨w.heap.size+1+1,4,none⟩=some (.slice none 0 0)) ∧
  (wx.cell? ⟨w.heap.size+1+1+1,0,none⟩=some (.int .i64 0)∧wx.cell? ⟨w.heap.size+1+1+1,1,none⟩=some (.int .i64 0)∧wx.cell? ⟨w.heap.size+1+1+1,2,none⟩=some (.int .i64 0)∧wx.cell? ⟨w.heap.size+1+1+1,3,none⟩=some (.int .i64 0)):=
 ⟨⟨h.r0.cell 0,h.r0.cell 1,h.r0.cell 2,h.r0.cell 3,h.r0.cell 4⟩,h.r1.cell 0,h.r1.cell 1,h.r1.cell 2,h.r1.cell 3⟩
theorem RTy.fin (h:RTy w t A m cp v1 v2 k n c xs A5 c5 wx) (d:DiagD) {wz:World} (hz:set4 (set5 wx (w.heap.size+1+1) k n 0 c (.slice A5 xs.length c5)) (w.heap.size+1+1+1) d=wz):
  Blk wz (w.heap.size+1+1) 63 (tCells k n 0 c (.slice A5 xs.length c5))∧Blk wz (w.heap.size+1+1+1) 30 (dgC d)∧TysS wz (fun b=>w.heap.size≤b∧b<wz.heap.size) A5 xs.length c5 xs∧Below w.heap.size w wz:=by
 have a1:w.heap.size+1+1≠w.heap.size+1+1+1:=by omega
 have a2:w.heap.size+1+1+1≠w.heap.size+1+1:=by omega
 have a4:w.heap.size≤w.heap.size+1+1:=by omega
 have a5:w.heap.size≤w.heap.size+1+1+1:=by omega
 have k1:=((((h.r0.set_ 0 (.int .u8 k)).set_ 1 (.int .i64 n)).set_ 2 (.int .i64 0)).set_ 3 (.int .u8 c)).set_ 4 (.slice A5 xs.length c5);have k2:=((((h.r1.other a1 0 (.int .u8 k)).other a1 1 (.int .i64 n)).other a1 2 (.int .i64 0)).other a1 3 (.int .u8 c)).other a1 4 (.slice A5 xs.length c5);have k3:=(((k1.other a2 0 (.int .i64 d.e)).other a2 1 (.int .i64 d.p.at_)).other a2 2 (.int .i64 d.p.line)).other a2 3 (.int .i64 d.p.col);have k4:=(((k2.set_ 0 (.int .i64 d.e)).set_ 1 (.int .i64 d.p.at_)).set_ 2 (.int .i64 d.p.line)).set_ 3 (.int .i64 d.p.col);have hb:=((((((((h.bel.setCell (p:=⟨w.heap.size+1+1,0,none⟩) a4 (.int .u8 k)).setCell (p:=⟨w.heap.size+1+1,1,none⟩) a4 (.int .i64 n)).setCell (p:=⟨w.heap.size+1+1,2,none⟩) a4 (.int .i64 0)).setCell (p:=⟨w.heap.size+1+1,3,none⟩) a4 (.int .u8 c)).setCell (p:=⟨w.heap.size+1+1,4,none⟩) a4 (.slice A5 xs.length c5)).setCell (p:=⟨w.heap.size+1+1+1,0,none⟩) a5 (.int .i64 d.e)).setCell (p:=⟨w.heap.size+1+1+1,1,none⟩) a5 (.int .i64 d.p.at_)).setCell (p:=⟨w.heap.size+1+1+1,2,none⟩) a5 (.int .i64 d.p.line)).setCell (p:=⟨w.heap.size+1+1+1,3,none⟩) a5 (.int .i64 d.p.col);have hT:=OutAt.done (K:=0) (s:=w.heap.size+1+1+1+1+1) h.out (Nat.le_refl _) (Nat.zero_le _);subst hz;refine⟨k3,k4,hT.keep (fun b hb=>?_) fun p hp=>?_,hb⟩
 · rcases hb with hb | hb
   · omega
   · refine⟨by omega,?_⟩
     unfold set4 set5;simp only[World.size_setCell];exact hb.2
 · have q1:p.block≠w.heap.size+1+1:=by rcases hp with hp | hp <;> omega
   have q2:p.block≠w.heap.size+1+1+1:=by rcases hp with hp | hp <;> omega
   have c1:∀ (W':World) (g o:Nat) (v:Value),p.block≠g→(W'.setCell ⟨g,o,none⟩ v).cell? p=W'.cell? p:=fun W' g o v hne=>World.cell?_setCell_other _ _ _ _ (fun e=>hne (by rw[← e]));unfold set4 set5;rw[c1 _ _ _ _ q2,c1 _ _ _ _ q2,c1 _ _ _ _ q2,c1 _ _ _ _ q2,c1 _ _ _ _ q1,c1 _ _ _ _ q1,c1 _ _ _ _ q1,c1 _ _ _ _ q1,c1 _ _ _ _ q1]
end
def HeldR (s:Nat) (k n c:Int) (sl:Value) (p:PosD) (w':World):Prop:=w'.cell? ⟨s+1+1+1+1,0,none⟩=some (.int .u8 k)∧w'.cell? ⟨s+1+1+1+1,1,none⟩=some (.int .i64 n)∧w'.cell? ⟨s+1+1+1+1,2,none⟩=some (.int .i64 0)∧w'.cell? ⟨s+1+1+1+1,3,none⟩=some (.int .u8 c)∧w'.cell? ⟨s+1+1+1+1,4,none⟩=some sl∧w'.cell? ⟨s+1,3,none⟩=some (.int .i64 p.at_)∧w'.cell? ⟨s+1,4,none⟩=some (.int .i64 p.line)∧w'.cell? ⟨s+1,5,none⟩=some (.int .i64 p.col)
theorem cell_set5 {w:World} {g:Nat} {k n v c:Int} {sl:Value} {p:Addr} (h:p.block≠g):(set5 w g k n v c sl).cell? p=w.cell? p:=by
 have c1:∀ (W':World) (o:Nat) (v:Value),(W'.setCell ⟨g,o,none⟩ v).cell? p=W'.cell? p:=fun W' o v=>World.cell?_setCell_other _ _ _ _ (fun e=>h (by rw[← e]));unfold set5;rw[c1,c1,c1,c1,c1]
theorem HeldR.set5 {s:Nat} {k n c:Int} {sl:Value} {p:PosD} {w:World} (h:HeldR s k n c sl p w) (k' n' v' c':Int) (sl':Value):HeldR s k n c sl p (set5 w (s+1+1) k' n' v' c' sl'):=by
 unfold HeldR at h ⊢
 rw[cell_set5 (p:=⟨s+1+1+1+1,0,none⟩) (by show s+1+1+1+1≠s+1+1; omega),cell_set5 (p:=⟨s+1+1+1+1,1,none⟩) (by show s+1+1+1+1≠s+1+1; omega),cell_set5 (p:=⟨s+1+1+1+1,2,none⟩) (by show s+1+1+1+1≠s+1+1; omega),cell_set5 (p:=⟨s+1+1+1+1,3,none⟩) (by show s+1+1+1+1≠s+1+1; omega),cell_set5 (p:=⟨s+1+1+1+1,4,none⟩) (by show s+1+1+1+1≠s+1+1; omega),
  cell_set5 (p:=⟨s+1,3,none⟩) (by show s+1≠s+1+1; omega),cell_set5 (p:=⟨s+1,4,none⟩) (by show s+1≠s+1+1; omega),cell_set5 (p:=⟨s+1,5,none⟩) (by show s+1≠s+1+1; omega)]
 exact h
def HeldE (s:Nat) (k n c:Int) (sl:Value) (y:Nat) (d:DiagD) (w':World):Prop:=w'.cell? ⟨s+1+1+1+1,0,none⟩=some (.int .u8 k)∧w'.cell? ⟨s+1+1+1+1,1,none⟩=some (.int .i64 n)∧w'.cell? ⟨s+1+1+1+1,2,none⟩=some (.int .i64 0)∧w'.cell? ⟨s+1+1+1+1,3,none⟩=some (.int .u8 c)∧w'.cell? ⟨s+1+1+1+1,4,none⟩=some sl∧w'.cell? ⟨y,0,none⟩=some (.int .i64 d.e)∧w'.cell? ⟨y,1,none⟩=some (.int .i64 d.p.at_)∧w'.cell? ⟨y,2,none⟩=some (.int .i64 d.p.line)∧w'.cell? ⟨y,3,none⟩=some (.int .i64 d.p.col)
theorem HeldE.set5 {s:Nat} {k n c:Int} {sl:Value} {y:Nat} {d:DiagD} {w:World} (h:HeldE s k n c sl y d w) (hy:y≠s+1+1) (k' n' v' c':Int) (sl':Value):HeldE s k n c sl y d (set5 w (s+1+1) k' n' v' c' sl'):=by
 unfold HeldE at h ⊢
 rw[cell_set5 (p:=⟨s+1+1+1+1,0,none⟩) (by show s+1+1+1+1≠s+1+1; omega),cell_set5 (p:=⟨s+1+1+1+1,1,none⟩) (by show s+1+1+1+1≠s+1+1; omega),cell_set5 (p:=⟨s+1+1+1+1,2,none⟩) (by show s+1+1+1+1≠s+1+1; omega),cell_set5 (p:=⟨s+1+1+1+1,3,none⟩) (by show s+1+1+1+1≠s+1+1; omega),cell_set5 (p:=⟨s+1+1+1+1,4,none⟩) (by show s+1+1+1+1≠s+1+1; omega),
  cell_set5 (p:=⟨y,0,none⟩) hy,cell_set5 (p:=⟨y,1,none⟩) hy,cell_set5 (p:=⟨y,2,none⟩) hy,cell_set5 (p:=⟨y,3,none⟩) hy]
 exact h
def HeldZ (s b o:Nat) (v1 v2 vl:Value) (x:TyW) (Ax:Option Addr) (mx cx:Nat) (w':World):Prop:=w'.cell? ⟨s,0,none⟩=some v1∧w'.cell? ⟨s,1,none⟩=some v2∧w'.cell? ⟨s+1,6,none⟩=some vl∧w'.cell? ⟨b,o,none⟩=some (.int .u8 x.k)∧w'.cell? ⟨b,o+1,none⟩=some (.string x.s)∧w'.cell? ⟨b,o+2,none⟩=some (.int .u8 x.m)∧w'.cell? ⟨b,o+3,none⟩=some (.int .i64 x.p.at_)∧w'.cell? ⟨b,o+4,none⟩=some (.int .i64 x.p.line)∧w'.cell? ⟨b,o+5,none⟩=some (.int .i64 x.p.col)∧w'.cell? ⟨b,o+6,none⟩=some (.slice Ax mx cx)
theorem HeldZ.below {s b o:Nat} {v1 v2 vl:Value} {x:TyW} {Ax:Option Addr} {mx cx:Nat} {w w':World} (h:HeldZ s b o v1 v2 vl x Ax mx cx w) (hb:Below w.heap.size w w'):HeldZ s b o v1 v2 vl x Ax mx cx w':=by
 obtain⟨h0,h1,h2,h3,h4,h5,h6,h7,h8,h9⟩:=h;have key:∀ {p:Addr} {v:Value},w.cell? p=some v→w'.cell? p=some v:=fun h=>(hb.cell (block_lt_of_cell h)).trans h;exact⟨key h0,key h1,key h2,key h3,key h4,key h5,key h6,key h7,key h8,key h9⟩
def TySp (ds:List DataD) (ps:List ByteArray) (t:TyW) (x:TyD) (d:DiagD):Prop:=(∀ g,tyE ds ps t=.error g→d=g)∧∀ y,tyE ds ps t=.ok y→x=y∧d=diagZ
def KidR (ds:List DataD) (ps:List ByteArray) (x:TyW) (R:Nat→Prop) (u0 u1:Array Value) (w:World):Prop:=
 ∃ (y:TyD) (A':Option Addr) (m' c':Nat) (d':DiagD),u0=tCells y.k y.n y.v y.c (.slice A' m' c')∧u1=dgC d'∧TysS w R A' m' c' y.l∧TySp ds ps x y d'
def RTyPost (ds:List DataD) (ps:List ByteArray) (t:TyW) (w:World) (e:Ending) (w':World):Prop:=
 ∃ (x:TyD) (A':Option Addr) (m' c':Nat) (d':DiagD),e=.returned (.tuple #[.agg (tCells x.k x.n x.v x.c (.slice A' m' c')),.agg (dgC d')])∧TysS w' (fun b=>w.heap.size≤b∧b<w'.heap.size) A' m' c' x.l∧TySp ds ps t x d'∧Below w.heap.size w w'
def SwR (w:World) (t:TyW) (A:Option Addr) (m cp:Nat) (v1 v2:Value) (ds:List DataD) (ps:List ByteArray) (z ez:Value) (wx:World):Prop:=
 ∃ (k n c want e:Int),z=.int .i64 want∧ez=.int .i64 e∧RTy w t A m cp v1 v2 k n c [] none 0 wx∧(e≠0→nodeD ds ps t=.error ⟨e,t.p⟩)∧(e=0→nodeD ds ps t=.ok ((k,n,c),want))
theorem KidR.keep {ds:List DataD} {ps:List ByteArray} {x:TyW} {R:Nat→Prop} {u0 u1:Array Value} {w w':World} (h:KidR ds ps x R u0 u1 w) (hk:∀ b,R b→w'.heap[b]?=w.heap[b]?):KidR ds ps x R u0 u1 w':=by
 obtain⟨y,A',m',c',d',h1,h2,h3,h4⟩:=h;exact⟨y,A',m',c',d',h1,h2,h3.keep (fun _ h=>h) (fun p hp=>World.cell?_of_block (hk _ hp)),h4⟩
theorem tyE_node {ds:List DataD} {ps:List ByteArray} {t:TyW}:tyE ds ps t=match nodeD ds ps t with
  | .error g=>.error g
  | .ok ((k,n,c),want)=>if (t.l.length:Int)≠want then .error ⟨132,t.p⟩ else match tyE.tyEL ds ps t.l with
    | .error g=>.error g
    | .ok ks=>.ok (.mk k n 0 c ks):=by
 rw[tyE_eq];unfold nodeD
 cases nodeE ds ps t.k t.s t.m t.l.length <;> rfl
theorem tyE_err {ds:List DataD} {ps:List ByteArray} {t:TyW} {g:DiagD} (h:nodeD ds ps t=.error g):tyE ds ps t=.error g:=by rw[tyE_node,h]
theorem tyE_len {ds:List DataD} {ps:List ByteArray} {t:TyW} {k n c want:Int} (h:nodeD ds ps t=.ok ((k,n,c),want)) (h1:(t.l.length:Int)≠want):tyE ds ps t=.error ⟨132,t.p⟩:=by
 rw[tyE_node,h];simp only;rw[if_pos h1]
theorem tyE_go {ds:List DataD} {ps:List ByteArray} {t:TyW} {k n c want:Int} (h:nodeD ds ps t=.ok ((k,n,c),want)) (h1:(t.l.length:Int)=want):tyE ds ps t=match tyE.tyEL ds ps t.l with
  | .error g=>.error g
  | .ok ks=>.ok (.mk k n 0 c ks):=by
 rw[tyE_node,h];simp only;rw[if_neg (by omega)]
theorem tyEL_step {ds:List DataD} {ps:List ByteArray}:∀ (l:List TyW) (xs:List TyD) (t:TyW) (y:TyD),tyE.tyEL ds ps l=.ok xs→tyE ds ps t=.ok y→tyE.tyEL ds ps (l++[t])=.ok (xs++[y])
 | [],xs,t,y,h,ht=>by
   rw[tyE.tyEL] at h
   injection h with h
   subst h;rw[List.nil_append,tyE.tyEL,ht,tyE.tyEL];rfl
 | u :: l,xs,t,y,h,ht=>by
   rw[tyE.tyEL] at h
   cases hu:tyE ds ps u with
   | error g=>rw[hu] at h; cases h
   | ok v=>
     rw[hu] at h
     cases hl:tyE.tyEL ds ps l with
     | error g=>rw[hl] at h; cases h
     | ok vs=>
       rw[hl] at h
       injection h with h
       subst h;rw[List.cons_append,tyE.tyEL,hu,tyEL_step l vs t y hl ht];rfl
theorem tyEL_stop {ds:List DataD} {ps:List ByteArray} {g:DiagD}:∀ (l:List TyW) (xs:List TyD) (t:TyW) (r:List TyW),tyE.tyEL ds ps l=.ok xs→tyE ds ps t=.error g→tyE.tyEL ds ps (l++t :: r)=.error g
 | [],xs,t,r,h,ht=>by rw[List.nil_append,tyE.tyEL,ht]
 | u :: l,xs,t,r,h,ht=>by
   rw[tyE.tyEL] at h
   cases hu:tyE ds ps u with
   | error g=>rw[hu] at h; cases h
   | ok v=>
     rw[hu] at h
     cases hl:tyE.tyEL ds ps l with
     | error g=>rw[hl] at h; cases h
     | ok vs=>rw[List.cons_append,tyE.tyEL,hu,tyEL_stop l vs t r hl ht]
end Go.Proofs.YtgpeijkjmkocgaaDoor
