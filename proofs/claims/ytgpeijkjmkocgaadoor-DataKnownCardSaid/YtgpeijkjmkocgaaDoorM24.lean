import Derived.Test.YtgpeijkjmkocgaaDoorM13
import Derived.Test.YtgpeijkjmkocgaaDoorM14
set_option linter.unusedVariables false
set_option linter.unusedSimpArgs false
namespace Go.Proofs.YtgpeijkjmkocgaaDoor
open Go.RowKit
theorem But.grows {g:Nat} {w w':World} (h:But g w w'):w.grownBy w' (some g):=⟨h.os,h.tape,h.output,h.size,fun k hk hne=>h.block k hk fun e=>hne (by rw[e])⟩
theorem OwnC.but {w w':World} {g base:Nat} {e:TypeId} {k:Nat} {R:Nat→Prop} {v:Value} {n:Nat} {l:List Cel} (h:OwnC w base e k R v n l) (hb:But g w w') (hg:g<base) (hR:R g):OwnC w' base e k R v n l:=
 h.grown hb.grows (fun b hbe=>by
  injection hbe with hbe
  subst hbe
  exact fun e=>by have:=(h.lt _ e).1; omega) (fun b hbe=>by
  injection hbe with hbe
  subst hbe
  exact .inl hR) (fun _ _ h=>h)
structure TyMk (w:World) (g:Nat) (t:TyW) (A:Option Addr) (m cp:Nat) (vd a1:Value) (d:DiagD) (k n c:Int) (xs:List TyD) (A5:Option Addr) (c5:Nat) (wx:World):Prop where
 bt:Blk wx w.heap.size 47 (wCells t A m cp)
 br:Blk wx (w.heap.size+1) 63 (tCells 0 0 0 0 (.slice none 0 0))
 bo:OutAt wx (w.heap.size+1+1) (w.heap.size+1+1+1) (fun b=>0≤b∧b<w.heap.size+1+1+1) k n 0 c xs A5 c5
 bk:Blk wx g 91 (mkC vd a1 d)
 bu:But g w wx
 gw:g<w.heap.size
section
variable {w:World} {g:Nat} {t:TyW} {A:Option Addr} {m cp:Nat} {vd a1:Value} {d:DiagD} {k n c:Int} {xs:List TyD} {A5:Option Addr} {c5:Nat} {wx wy:World}
theorem TyMk.start (h:TyBx w g t A m cp vd a1 d k n 0 c wx):TyMk w g t A m cp vd a1 d k n c [] none 0 wx:=
 ⟨h.bt,h.br,⟨h.bo,OwnC.nil,⟨by omega,by omega⟩,by omega⟩,h.bk,h.bu,h.gw⟩
theorem TyMk.below (h:TyMk w g t A m cp vd a1 d k n c xs A5 c5 wx) (hb:Below wx.heap.size wx wy):TyMk w g t A m cp vd a1 d k n c xs A5 c5 wy:=
 ⟨h.bt.below hb h.bt.lt,h.br.below hb h.br.lt,h.bo.below hb,h.bk.below hb h.bk.lt,h.bu.then hb,h.gw⟩
theorem TyMk.diag (h:TyMk w g t A m cp vd a1 d k n c xs A5 c5 wx) {d':DiagD} (hk:Blk wy g 91 (mkC vd a1 d')) (hb:But g wx wy):TyMk w g t A m cp vd a1 d' k n c xs A5 c5 wy:=by
 have hg:=h.gw
 exact⟨h.bt.but hb (by omega),h.br.but hb (by omega),⟨h.bo.1.but hb (by omega),h.bo.2.1.but hb (by omega) ⟨by omega,by omega⟩,h.bo.2.2⟩,hk,h.bu.trans hb,hg⟩
theorem TyMk.own (h:TyMk w g t A m cp vd a1 d k n c xs A5 c5 wx) {b:Nat} (hb:b<w.heap.size+1+1+1):some b≠(Value.slice A5 xs.length c5).ownBlock:=fun e=>by
 have:=(h.bo.2.1.lt _ e.symm).1;omega
theorem TyMk.push (h:TyMk w g t A m cp vd a1 d k n c xs A5 c5 wx) (u:TyD) {A6:Option Addr} {c6:Nat} (ho:OwnC wy (w.heap.size+1+1+1) 63 5 (fun b=>0≤b∧b<w.heap.size+1+1+1) (.slice A6 (xs.length+1) c6) (xs.length+1) (xs.flatMap encT++encT u)) (hg:wx.grownBy wy (Value.slice A5 xs.length c5).ownBlock):
  TyMk w g t A m cp vd a1 d k n c (xs++[u]) A6 c6 (wy.setCell ⟨w.heap.size+1+1,4,none⟩ (.slice A6 (xs.length+1) c6)):=by
 have hgw:=h.gw;have hu:But g w wy:=⟨hg.os.trans h.bu.os,hg.tape.trans h.bu.tape,hg.output.trans h.bu.output,Nat.le_trans h.bu.size hg.size,fun i hi hne=>(hg.block i (Nat.lt_of_lt_of_le hi h.bu.size) (h.own (by omega))).trans (h.bu.block i hi hne)⟩;exact⟨(h.bt.grown hg (h.own (by omega))).other (by omega) _ _,(h.br.grown hg (h.own (by omega))).other (by omega) _ _,h.bo.push u ho hg,(h.bk.grown hg (h.own (by omega))).other (by omega) _ _,hu.setNew (by omega) _ _,hgw⟩
theorem TyMk.b (h:TyMk w g t A m cp vd a1 d k n c xs A5 c5 wx):wx.cell? ⟨w.heap.size,0,none⟩=some (.int .u8 t.k)∧wx.cell? ⟨w.heap.size,1,none⟩=some (.string t.s)∧wx.cell? ⟨w.heap.size,2,none⟩=some (.int .u8 t.m)∧wx.cell? ⟨w.heap.size,3,none⟩=some (.int .i64 t.p.at_)∧wx.cell? ⟨w.heap.size,4,none⟩=some (.int .i64 t.p.line)∧wx.cell? ⟨w.heap.size,5,none⟩=some (.int .i64 t.p.col)∧wx.cell? ⟨w.heap.size,6,none⟩=some (.slice A m cp):=
 ⟨h.bt.cell 0,h.bt.cell 1,h.bt.cell 2,h.bt.cell 3,h.bt.cell 4,h.bt.cell 5,h.bt.cell 6⟩
theorem TyMk.o (h:TyMk w g t A m cp vd a1 d k n c xs A5 c5 wx):wx.cell? ⟨w.heap.size+1+1,0,none⟩=some (.int .u8 k)∧wx.cell? ⟨w.heap.size+1+1,1,none⟩=some (.int .i64 n)∧wx.cell? ⟨w.heap.size+1+1,2,none⟩=some (.int .i64 0)∧wx.cell? ⟨w.heap.size+1+1,3,none⟩=some (.int .u8 c)∧wx.cell? ⟨w.heap.size+1+1,4,none⟩=some (.slice A5 xs.length c5):=
 ⟨h.bo.1.cell 0,h.bo.1.cell 1,h.bo.1.cell 2,h.bo.1.cell 3,h.bo.1.cell 4⟩
theorem TyMk.r (h:TyMk w g t A m cp vd a1 d k n c xs A5 c5 wx):wx.cell? ⟨w.heap.size+1,0,none⟩=some (.int .u8 0)∧wx.cell? ⟨w.heap.size+1,1,none⟩=some (.int .i64 0)∧wx.cell? ⟨w.heap.size+1,2,none⟩=some (.int .i64 0)∧wx.cell? ⟨w.heap.size+1,3,none⟩=some (.int .u8 0)∧wx.cell? ⟨w.heap.size+1,4,none⟩=some (.slice none 0 0):=
 ⟨h.br.cell 0,h.br.cell 1,h.br.cell 2,h.br.cell 3,h.br.cell 4⟩
theorem TyMk.de (h:TyMk w g t A m cp vd a1 d k n c xs A5 c5 wx):wx.cell? ⟨g,2,none⟩=some (.int .i64 d.e):=h.bk.cell 2
theorem TyMk.done (h:TyMk w g t A m cp vd a1 d k n c xs A5 c5 wx) {wz:World} (hz:set5 wx (w.heap.size+1) k n 0 c (.slice A5 xs.length c5)=wz):
  Blk wz (w.heap.size+1) 63 (tCells k n 0 c (.slice A5 xs.length c5))∧TysS wz (fun b=>w.heap.size≤b∧b<wz.heap.size) A5 xs.length c5 xs∧Blk wz g 91 (mkC vd a1 d)∧But g w wz:=by
 have hg:=h.gw
 have a1:w.heap.size+1≠w.heap.size+1+1:=by omega
 have a3:w.heap.size+1≠g:=by omega
 have a4:w.heap.size≤w.heap.size+1:=by omega
 have r1:w.heap.size+1<w.heap.size+1+1+1:=by omega
 have r2:0≤w.heap.size+1∧w.heap.size+1<w.heap.size+1+1+1:=⟨by omega,by omega⟩
 subst hz
 have ho:OutAt (set5 wx (w.heap.size+1) k n 0 c (.slice A5 xs.length c5)) (w.heap.size+1+1) (w.heap.size+1+1+1) (fun b=>0≤b∧b<w.heap.size+1+1+1) k n 0 c xs A5 c5:=
  ⟨((((h.bo.1.other a1 _ _).other a1 _ _).other a1 _ _).other a1 _ _).other a1 _ _,((((h.bo.2.1.set r1 r2 _).set r1 r2 _).set r1 r2 _).set r1 r2 _).set r1 r2 _,h.bo.2.2⟩
 exact⟨((((h.br.set_ 0 _).set_ 1 _).set_ 2 _).set_ 3 _).set_ 4 _,(OutAt.done (K:=0) (s:=w.heap.size) ho (by omega) (Nat.zero_le _)).mono (fun b hb=>by
  rcases hb with hb | hb
  · omega
  · exact hb),((((h.bk.other a3 _ _).other a3 _ _).other a3 _ _).other a3 _ _).other a3 _ _,((((h.bu.setNew a4 _ _).setNew a4 _ _).setNew a4 _ _).setNew a4 _ _).setNew a4 _ _⟩
end
def HeldU (s:Nat) (v:Value) (b:Nat) (x:TyW) (Ax:Option Addr) (mx cx:Nat) (w:World):Prop:=w.cell? ⟨s,4,none⟩=some v∧w.cell? ⟨b,0,none⟩=some (.int .u8 x.k)∧w.cell? ⟨b,1,none⟩=some (.string x.s)∧w.cell? ⟨b,2,none⟩=some (.int .u8 x.m)∧w.cell? ⟨b,3,none⟩=some (.int .i64 x.p.at_)∧w.cell? ⟨b,4,none⟩=some (.int .i64 x.p.line)∧w.cell? ⟨b,5,none⟩=some (.int .i64 x.p.col)∧w.cell? ⟨b,6,none⟩=some (.slice Ax mx cx)
theorem HeldU.keep {s:Nat} {v:Value} {b:Nat} {x:TyW} {Ax:Option Addr} {mx cx:Nat} {w1 w2:World} (h:HeldU s v b x Ax mx cx w1) (h1:w2.heap[s]?=w1.heap[s]?) (h2:w2.heap[b]?=w1.heap[b]?):HeldU s v b x Ax mx cx w2:=by
 have e1:∀ i,w2.cell? ⟨s,i,none⟩=w1.cell? ⟨s,i,none⟩:=fun i=>World.cell?_of_block h1;have e2:∀ i,w2.cell? ⟨b,i,none⟩=w1.cell? ⟨b,i,none⟩:=fun i=>World.cell?_of_block h2;unfold HeldU at h ⊢;rw[e1,e2,e2,e2,e2,e2,e2,e2];exact h
theorem wantD {ds:List DataD} {ps:List ByteArray} {t:TyW} (hpar:∀ x∈ds,x.params≤1000000) {r:(Int × Int × Int) × Int} (h:nodeD ds ps t=.ok r):r.2≤1000000:=by
 by_cases h1:t.k=1
 · rw[nodeD1 h1] at h
   split at h
   · cases h
   · injection h with h
     subst h;show(0:Int)≤1000000;omega
 · by_cases h2:t.k=2
   · rw[nodeD2 h2] at h
     split at h
     · split at h
       · cases h
       · injection h with h
         subst h;show((ds[(idxD ds t.s).toNat]?).map DataD.params).getD 0≤1000000
         cases e:ds[(idxD ds t.s).toNat]? with
         | none=>show(0:Int)≤1000000; omega
         | some x=>exact hpar x (List.mem_of_getElem? e)
     · injection h with h
       subst h;show(baseK t.s).2≤1000000;unfold baseK
       repeat' split
       all_goals decide
   · by_cases h3:t.k=3
     · rw[nodeD3 h3] at h
       split at h
       · cases h
       · injection h with h
         subst h;show(2:Int)≤1000000;omega
     · rw[nodeDx h1 h2 h3] at h
       cases h
theorem then_zero {X:Type} {d d':DiagD} {r:Except DiagD X} (h:d'=d.then_ r) (h0:d'.e=0):d.e=0∧((∃ y,r=.ok y)∨∃ g,r=.error g∧g.e=0):=by
 by_cases q:d.e=0
 · refine⟨q,?_⟩
   cases r with
   | ok y=>exact .inl ⟨y,rfl⟩
   | error g=>
     refine .inr ⟨g,rfl,?_⟩;rw[h] at h0;unfold DiagD.then_ at h0;rwa [if_neg (by simpa using q)] at h0
 · rw[h] at h0
   unfold DiagD.then_ at h0;rw[if_pos q] at h0;exact absurd h0 q
theorem fewD {ds:List DataD} {ps:List ByteArray} {t:TyW} {d d1 d2 d3:DiagD} {o:Int × Int × Int} {want:Int} {xs:List TyD} {l:List TyW} (hpar:∀ x∈ds,x.params≤1000000) (h1:d1=d.then_ (nodeD ds ps t)) (ho:∀ r,d.e=0→nodeD ds ps t=.ok r→r=(o,want)) (h2:d2=d1.then_ (lenD t want ()))
  (h3:Kids ds ps d2 l d3 xs) (h0:d3.e=0):(t.l.length:Int)≤1000000:=by
 obtain⟨e2,_⟩:=then_zero h3.1 h0;obtain⟨e1,hl⟩:=then_zero h2 e2;obtain⟨e0,hn⟩:=then_zero h1 e1
 have hl:(t.l.length:Int)=want:=by
  unfold lenD at hl
  by_cases q:(t.l.length:Int)≠want
  · rw[if_pos q] at hl
    rcases hl with ⟨y,h⟩ | ⟨g,h,hg⟩
    · cases h
    · injection h with h
      subst h;exact absurd hg (by decide:¬ (132:Int)=0)
  · omega
 rcases hn with ⟨y,h⟩ | ⟨g,h,hg⟩
 · have e:=ho y e0 h
   have:=wantD hpar h;rw[e] at this;rw[hl];exact this
 · exfalso
   unfold nodeD at h
   split at h
   · rename_i x hx
     injection h with h
     subst h;exact nodeE_ne hx hg
   · cases h
end Go.Proofs.YtgpeijkjmkocgaaDoor
