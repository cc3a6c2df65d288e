import Derived.Test.YtgpeijkjmkocgaaDoorM16
set_option linter.unusedVariables false
set_option linter.unusedSimpArgs false
set_option maxHeartbeats 4000000
set_option maxRecDepth 100000
namespace Go.Proofs.YtgpeijkjmkocgaaDoor
open Go.RowKit
section
variable {w wr wy:World} {bx:Array Value} {v5 v6:Value} {k5 k6:Nat} {cs us:List Value}
theorem ConH.put {g n c:Nat} (h:ConH w bx (.slice (some ⟨g,0,none⟩) n c) n cs v6 k6 us wr) (i:Nat) (u:Value):ConH w bx (.slice (some ⟨g,0,none⟩) n c) n (cs.set i u) v6 k6 us (wr.setCell ⟨g,i,none⟩ u):=by
 have hg:=own_lt h.rt (b:=g) rfl
 refine⟨h.bx.other (by omega) i u,(h.rt.stored i u).1,own_block h.rm fun b e=>Below.heap_setCell _ _ _ _ fun e2=>h.sep g rfl (by have e3:b=g:=e2; rw[← e3]; exact e),h.sep,h.bel.setCell (p:=⟨g,i,none⟩) (by show w.heap.size≤g; omega) u⟩
theorem set5A (cs:List Value) (k:Nat) (hk:cs.length=k * 5) (z0 z1 z2 z3 z4 u0 u1 u2 u3 u4:Value):(((((cs++[z0,z1,z2,z3,z4]).set (k * 5) u0).set (k * 5+1) u1).set (k * 5+2) u2).set (k * 5+3) u3).set (k * 5+4) u4=cs++[u0,u1,u2,u3,u4]:=by
 rw[← hk];simp[List.set_append]
end
def HeldA (b tb:Nat) (v5:Value) (t:TyD) (Ax:Option Addr) (mx cx:Nat) (w:World):Prop:=w.cell? ⟨b,2,none⟩=some v5∧w.cell? ⟨tb,0,none⟩=some (.int .u8 t.k)∧w.cell? ⟨tb,1,none⟩=some (.int .i64 t.n)∧w.cell? ⟨tb,2,none⟩=some (.int .i64 t.v)∧w.cell? ⟨tb,3,none⟩=some (.int .u8 t.c)∧w.cell? ⟨tb,4,none⟩=some (.slice Ax mx cx)
theorem HeldA.keep {b tb:Nat} {v5:Value} {t:TyD} {Ax:Option Addr} {mx cx:Nat} {w1 w2:World} (h:HeldA b tb v5 t Ax mx cx w1) (h1:w2.heap[b]?=w1.heap[b]?) (h2:w2.heap[tb]?=w1.heap[tb]?):HeldA b tb v5 t Ax mx cx w2:=by
 have e1:∀ i,w2.cell? ⟨b,i,none⟩=w1.cell? ⟨b,i,none⟩:=fun i=>World.cell?_of_block h1;have e2:∀ i,w2.cell? ⟨tb,i,none⟩=w1.cell? ⟨tb,i,none⟩:=fun i=>World.cell?_of_block h2;unfold HeldA at h ⊢;rw[e1,e2,e2,e2,e2,e2];exact h
def AddPost (w wr:World) (A5 A6:Option Addr) (c5 c6:Nat) (name:ByteArray) (n:Int) (k:Nat) (cs us:List Value) (m:Int) (t:TyD) (Ax:Option Addr) (mx cx:Nat) (e:Ending) (w':World):Prop:=
 e=.returned (.tuple #[])∧∃ A7 c7 A8 c8,ConH w #[.string name,.int .i64 n,.slice A7 (k+1) c7,.slice A8 (k+1) c8] (.slice A7 (k+1) c7) (k+1) (cs++[.int .u8 t.k,.int .i64 t.n,.int .i64 t.v,.int .u8 t.c,.slice Ax mx cx]) (.slice A8 (k+1) c8) (k+1) (us++[.int .u8 m]) w'
  ∧ ∀ b,b<wr.heap.size→b≠w.heap.size→some b≠(Value.slice A5 k c5).ownBlock→some b≠(Value.slice A6 k c6).ownBlock→w'.heap[b]?=wr.heap[b]?
def AddPostR (w wr:World) (A5 A6:Option Addr) (c5 c6:Nat) (name:ByteArray) (n:Int) (k:Nat) (cs us:List Value) (m:Int) (t:TyD) (Ax:Option Addr) (mx cx:Nat) (e:Ending) (w':World):Prop:=
 e=.returned (.tuple #[])∧∃ A7 c7 A8 c8,ConH w #[.string name,.int .i64 n,.slice A7 (k+1) c7,.slice A8 (k+1) c8] (.slice A7 (k+1) c7) (k+1) (cs++[.int .u8 t.k,.int .i64 t.n,.int .i64 t.v,.int .u8 t.c,.slice Ax mx cx]) (.slice A8 (k+1) c8) (k+1) (us++[.int .u8 m]) w'
  ∧ (∀ b,b<wr.heap.size→b≠w.heap.size→some b≠(Value.slice A5 k c5).ownBlock→some b≠(Value.slice A6 k c6).ownBlock→w'.heap[b]?=wr.heap[b]?)
  ∧ (∀ b,b<wr.heap.size→(Value.slice A7 (k+1) c7).ownBlock=some b→(Value.slice A5 k c5).ownBlock=some b)∧∀ b,b<wr.heap.size→(Value.slice A8 (k+1) c8).ownBlock=some b→(Value.slice A6 k c6).ownBlock=some b
theorem add13_anyR (w wr:World) (name:ByteArray) (n:Int) (k:Nat) (cs us:List Value) (A5:Option Addr) (c5:Nat) (A6:Option Addr) (c6:Nat) (m:Int) (t:TyD) (Ax:Option Addr) (mx cx:Nat) (hk:k≤1000)
  (h:ConH w #[.string name,.int .i64 n,.slice A5 k c5,.slice A6 k c6] (.slice A5 k c5) k cs (.slice A6 k c6) k us wr) (hcs:cs.length=k * 5):
  Calls Tryd.prog 49 #[.pointer (some ⟨w.heap.size,0,none⟩),.int .u8 m,.agg #[.int .u8 t.k,.int .i64 t.n,.int .i64 t.v,.int .u8 t.c,.slice Ax mx cx]] wr (AddPostR w wr A5 A6 c5 c6 name n k cs us m t Ax mx cx):=by
 have hbx:=below_box (w:=wr) (Obj.cells #[.int .u8 t.k,.int .i64 t.n,.int .i64 t.v,.int .u8 t.c,.slice Ax mx cx] 63);have hkx:=blk_new wr #[.int .u8 t.k,.int .i64 t.n,.int .i64 t.v,.int .u8 t.c,.slice Ax mx cx] 63;obtain⟨W,hW⟩:∃ q,wr.alloc (Obj.cells #[.int .u8 t.k,.int .i64 t.n,.int .i64 t.v,.int .u8 t.c,.slice Ax mx cx] 63)=q:=⟨_,rfl⟩
 have HsW:Hid (W.heap.size=wr.heap.size+1):=qq (by rw[← hW]; simp)
 rw[hW] at hbx hkx;have hz:=h.below hbx;have hwr:w.heap.size<wr.heap.size:=h.bx.lt;have x2:W.cell? ⟨w.heap.size,2,none⟩=some (.slice A5 k c5):=hz.bx.cell 2;have x3:W.cell? ⟨w.heap.size,3,none⟩=some (.slice A6 k c6):=hz.bx.cell 3;have ho6:∀ b,(Value.slice A6 k c6).ownBlock=some b→w.heap.size+1≤b∧b<wr.heap.size:=fun b e=>own_lt h.rm e;have ho5:∀ b,(Value.slice A5 k c5).ownBlock=some b→w.heap.size+1≤b∧b<wr.heap.size:=fun b e=>own_lt h.rt e;obtain⟨i0,hi0,hz0,hz1,hz2⟩:=info_parts typeInfo;obtain⟨j0,hj0,hy0,hy1,hy2⟩:=info_parts mult13Info;have HW:=qq hW;have HZ:=qq hz;have HK:=qq hkx;have HbX:=qq hbx;have Ho6:=qq ho6;have Ho5:=qq ho5;have Hcs:=qq hcs;have HrI:=qq (rd_newk W [.int .u8 m] 1 rfl 44);have hbI:=below_box (w:=W) (Obj.cells #[.int .u8 m] 44);have HzI:=qq (hz.below hbI);have HkI:=qq (hkx.below hbI hkx.lt)
 have hsI:(W.alloc (Obj.cells #[.int .u8 m] 44)).heap.size=W.heap.size+1:=by simp
 have HsI:=qq hsI;clear hW hbx hkx hz h ho6 ho5 hcs hbI hsI
 go_enter Tryd.func49,Tryd.ntmps49
 go_upto_region 1 with fail;rw[HW.out];clear HW
 go_upto_region 2 with (at_builtin; refine wpList_append_rd _ rfl (.tmp 10) (.tmp 12) 55 rfl (w.heap.size+1) 44 j0 _ 1 1 Tryd.underlying55 hj0 hy0 hy1 hy2 rfl (by omega) (.slice A6 k c6) k us rfl HzI.out.rm (W.heap.size+1) (some ⟨W.heap.size,0,none⟩) 1 1 [.int .u8 m] rfl HrI.out (by intro u hu; simp at hu; subst hu; rfl) (by unfold maxLen; omega) (by omega) (by have:=HsI.out; have:=HsW.out; omega) ?_; intro v7 w7 ho7 hg7 hat7; obtain⟨A8,c8,rfl⟩:=ownsRow_form ho7; have hz7:=HzI.out.app6 ho7 hg7 hat7; have hk7:=HkI.out.grown hg7 (fun e=>by have:=Ho6.out _ e.symm; have:=HsW.out; omega); have x3:w7.cell? ⟨w.heap.size,3,none⟩=some (.slice A6 k c6):=hz7.bx.cell 3; have f3:=hz7.bx.frozen 3)
 have hz8:=hz7.set 3 (.slice A8 (k+1) c8);have hk8:=hk7.other (g':=w.heap.size) (by omega) 3 (.slice A8 (k+1) c8);obtain⟨w8,hw8⟩:∃ q,w7.setCell ⟨w.heap.size,3,none⟩ (.slice A8 (k+1) c8)=q:=⟨_,rfl⟩
 have hs8:w8.heap.size=w7.heap.size:=by rw[← hw8,World.size_setCell]
 have hs78:=hg7.size
 have hk8':∀ b,b<wr.heap.size→b≠w.heap.size→some b≠(Value.slice A5 k c5).ownBlock→some b≠(Value.slice A6 k c6).ownBlock→w8.heap[b]?=wr.heap[b]?:=fun b h1 h2 h3 h4=>by
  rw[← hw8]
  exact(Below.heap_setCell _ _ _ _ h2).trans (((hg7.block b (by have:=HsI.out; have:=HsW.out; omega) h4).trans (Below.heap_alloc _ _ _ (by have:=HsW.out; omega))).trans (HbX.out.block b h1))
 have HR8:=qq (fun b (h1:b<wr.heap.size) (e:(Value.slice A8 (k+1) c8).ownBlock=some b)=>(show(Value.slice A6 k c6).ownBlock=some b from by
  rcases hat7 with q | q
  · rw[← q]; exact e
  · rw[e] at q
    have e2:b=_:=Option.some.inj q;have:=HsI.out;have:=HsW.out
    omega))
 rw[hw8] at hz8 hk8 ⊢;clear x2 x3 f3 hz7 hk7 ho7 hg7 hat7 hw8 HZ HK HzI HkI HrI;have HZ:=qq hz8;have HK:=qq hk8;have hheld:HeldA w.heap.size wr.heap.size (.slice A5 k c5) t Ax mx cx w8:=⟨hz8.bx.cell 2,hk8.cell 0,hk8.cell 1,hk8.cell 2,hk8.cell 3,hk8.cell 4⟩;refine wp_region_noPanic ?_;refine wp_region_T (fun w'=>w'.cell? ⟨wr.heap.size,0,none⟩=some (.int .u8 t.k)∧w'.cell? ⟨wr.heap.size,1,none⟩=some (.int .i64 t.n)∧w'.cell? ⟨wr.heap.size,2,none⟩=some (.int .i64 t.v)∧w'.cell? ⟨wr.heap.size,3,none⟩=some (.int .u8 t.c)∧w'.cell? ⟨wr.heap.size,4,none⟩=some (.slice Ax mx cx)) 13 (by kernel_rfl) hheld.2 (fun hHeld=>?_);have hbd:Below w8.heap.size w8 w8.drew:=Below.drew (Below.refl _ _);have hZd:=hz8.below hbd;have hKd:=hk8.below hbd hk8.lt;have hsd:w8.heap.size≤w8.drew.heap.size:=hbd.size
 have hheldd:HeldA w.heap.size wr.heap.size (.slice A5 k c5) t Ax mx cx w8.drew:=hheld.keep (hbd.block _ (by have:=HsI.out; have:=HsW.out; omega)) (hbd.block _ hk8.lt)
 have hdr:=hbd.block;clear hheld hbd hz8 hk8 HZ HK
 have hkb:∀ b,b<wr.heap.size→b≠w.heap.size→some b≠(Value.slice A5 k c5).ownBlock→some b≠(Value.slice A6 k c6).ownBlock→w8.drew.heap[b]?=wr.heap[b]?:=fun b h1 h2 h3 h4=>(hdr b (by have:=HsI.out; have:=HsW.out; omega)).trans (hk8' b h1 h2 h3 h4)
 clear hdr hk8';generalize w8.drew=W0 at hHeld hZd hKd hsd hheldd hkb ⊢;have HKb:=qq hkb;clear hkb;have HrT:=qq (rd_newk W0 [.int .u8 0,.int .i64 0,.int .i64 0,.int .u8 0,.slice none 0 0] 5 rfl 63);have hbT:=below_box (w:=W0) (Obj.cells #[.int .u8 0,.int .i64 0,.int .i64 0,.int .u8 0,.slice none 0 0] 63);have HzT:=qq (hZd.below hbT);have HkT:=qq (hKd.below hbT hKd.lt)
 have hsT:(W0.alloc (Obj.cells #[.int .u8 0,.int .i64 0,.int .i64 0,.int .u8 0,.slice none 0 0] 63)).heap.size=W0.heap.size+1:=by simp
 have HhT:=qq (hheldd.keep (hbT.block w.heap.size (by have:=HsI.out; have:=HsW.out; omega)) (hbT.block wr.heap.size hKd.lt))
 have HsT:=qq hsT;have hKl:=hKd.lt;have hh0:=hheldd;clear hZd hKd hbT hsT hheldd;have x2:W0.cell? ⟨w.heap.size,2,none⟩=some (.slice A5 k c5):=hh0.1;refine nx0 0 ?_
 iterate 3 (refine nx (v:=?_) rfl (by kernel_rfl) (fun _ _ _ h=>h) (by kernel_rfl) ?_ (by assumption) ?_; rotate_left; (focus (intro w hSw; (try dsimp only at hSw); first | (go_simp; done) | (go_simp; with_reducible rfl))); try simp only[Act.put,qg,qe,qf,qd,qh,qi,Nat.reduceAdd])
 refine nx9 ?_
 refine wpAnyT_take (i:=4) (v:=?_) rfl (by kernel_rfl) (by kernel_rfl) (by kernel_rfl) (by kernel_rfl) (fun _ _ _ h=>h) (Or.inl ⟨by kernel_rfl,?_⟩) (by assumption) ?_
 rotate_left
 · (intro w hSw; (try dsimp only at hSw); first | (go_simp; done) | (go_simp; with_reducible rfl))
 try simp only[Act.put,qg,qe,qf,qd,qh,qi]
 refine wpAnyT_two (i:=3) (j:=6) (by kernel_rfl) rfl rfl (fun K hK=>?_) (fun K hK=>?_)
 · go_simp
   refine hK.out _ _ (hh0.2) ?_;clear hK K
   try simp only[Act.put,qg,qe,qf,qd,qh,qi]
   clear x2
   refine wpAnyT_take (i:=5) (v:=?_) rfl (by kernel_rfl) (by kernel_rfl) (by kernel_rfl) (by kernel_rfl) (fun _ _ _ h=>h) (Or.inl ⟨by kernel_rfl,?_⟩) (by assumption) ?_
   rotate_left
   · (intro w hSw; (try dsimp only at hSw); first | (go_simp; done) | (go_simp; with_reducible rfl))
   try simp only[Act.put,qg,qe,qf,qd,qh,qi]
   refine wpAnyT_step (i:=6) (by kernel_rfl) rfl (fun K hK=>?_);go_simp;refine hK.out _ _ HhT.out.2 ?_;clear hK K
   try simp only[Act.put,qg,qe,qf,qd,qh,qi]
   refine wpAnyT_step (i:=7) (by kernel_rfl) rfl (fun K hK=>?_)
   (refine step_append_rd _ (by rfl) (.tmp 19) (.tmp 22) 56 (by rfl) (w.heap.size+1) 63 i0 _ 5 56 Tryd.underlying56 hi0 hz0 hz1 hz2 rfl (by omega) (.slice A5 k c5) k _ (by rfl) HzT.out.rt _ _ 1 1 [.int .u8 0,.int .i64 0,.int .i64 0,.int .u8 0,.slice none 0 0] (by rfl) HrT.out (by intro u hu; simp at hu; rcases hu with rfl | rfl | rfl | rfl | rfl <;> rfl) (by unfold maxLen; omega) (by omega) (by have:=HsT.out; have:=HsI.out; have:=HsW.out; omega) ?_; intro v9 w9 ho9 hg9 hat9; obtain⟨A9,c9,rfl⟩:=ownsRow_form ho9; have hh9:=HhT.out.keep (hg9.block w.heap.size (by have:=HsT.out; have:=HsI.out; have:=HsW.out; omega) (HzT.out.own5 (by omega))) (hg9.block wr.heap.size HkT.out.lt (fun e=>by have:=Ho5.out _ e.symm; omega)))
   refine hK.out _ _ hh9.2 ?_;clear hK K
   try simp only[Act.put,qg,qe,qf,qd,qh,qi]
   have hz9:=HzT.out.app5 ho9 hg9 hat9;obtain⟨gr,rfl,hgo,hg1,hg2,hgc,hgf⟩:=own_addr ho9 (by omega)
   have hgT:gr≠wr.heap.size:=by
    rcases hat9 with q | q
    · have:=Ho5.out gr (by rw[← q]; rfl)
      omega
    · have e:gr=_:=Option.some.inj q
      have:=HkT.out.lt;omega
   have k63:(k:Int)+1≤9223372036854775807:=by omega
   have k1:(0:Int)≤(k:Int):=by omega
   have k2:(k:Int)<(k:Int)+1:=by omega
   have hgw:gr≠w.heap.size:=by omega
   have hcl:=Hcs.out
   have z0:w9.cell? ⟨gr,k * 5,none⟩=some (.int .u8 0):=hgc (k * 5) _ (by rw[← hcl,List.getElem?_append_right (Nat.le_refl _),Nat.sub_self]; rfl)
   have z1:w9.cell? ⟨gr,k * 5+1,none⟩=some (.int .i64 0):=hgc (k * 5+1) _ (by rw[← hcl,List.getElem?_append_right (by omega),show cs.length+1 - cs.length=1 from by omega]; rfl)
   have z2:w9.cell? ⟨gr,k * 5+2,none⟩=some (.int .i64 0):=hgc (k * 5+2) _ (by rw[← hcl,List.getElem?_append_right (by omega),show cs.length+2 - cs.length=2 from by omega]; rfl)
   have z3:w9.cell? ⟨gr,k * 5+3,none⟩=some (.int .u8 0):=hgc (k * 5+3) _ (by rw[← hcl,List.getElem?_append_right (by omega),show cs.length+3 - cs.length=3 from by omega]; rfl)
   have z4:w9.cell? ⟨gr,k * 5+4,none⟩=some (.slice none 0 0):=hgc (k * 5+4) _ (by rw[← hcl,List.getElem?_append_right (by omega),show cs.length+4 - cs.length=4 from by omega]; rfl)
   have f0:=hgf (k * 5);have f1:=hgf (k * 5+1);have f2:=hgf (k * 5+2);have f3:=hgf (k * 5+3);have f4:=hgf (k * 5+4)
   have hgF:∀ b,b<wr.heap.size→some b≠(Value.slice A5 k c5).ownBlock→b≠gr:=fun b h1 h2 e=>by
    subst e
    rcases hat9 with q | q
    · exact h2 q
    · have e:b=_:=Option.some.inj q
      have:=HsT.out;have:=HsI.out;have:=HsW.out;omega
   have hk9:∀ b,b<wr.heap.size→b≠w.heap.size→some b≠(Value.slice A5 k c5).ownBlock→some b≠(Value.slice A6 k c6).ownBlock→w9.heap[b]?=wr.heap[b]?:=fun b h1 h2 h3 h4=>((hg9.block b (by have:=HsT.out; have:=HsI.out; have:=HsW.out; omega) h3).trans (Below.heap_alloc _ _ _ (by have:=HsI.out; have:=HsW.out; omega))).trans (HKb.out b h1 h2 h3 h4)
   have HKc:=qq hk9;have HgF:=qq hgF;clear hk9 hgF;have HZ9:=qq hz9;have Hh9:=qq hh9;clear hz9 hh9 ho9 hg9 hat9 hgc hgf;have hHeld:=Hh9.out.2
   refine wpAnyT_take (i:=8) (v:=?_) rfl (by kernel_rfl) (by kernel_rfl) (by kernel_rfl) (by kernel_rfl) (fun _ _ _ h=>h) (Or.inl ⟨by kernel_rfl,?_⟩) (by assumption) ?_
   rotate_left
   · (intro w hSw; (try dsimp only at hSw); first | (go_simp; done) | (go_simp; with_reducible rfl))
   try simp only[Act.put,qg,qe,qf,qd,qh,qi]
   refine nx0 10 ?_
   iterate 2 (refine nx (v:=?_) rfl (by kernel_rfl) (fun _ _ _ h=>h) (by kernel_rfl) ?_ (by assumption) ?_; rotate_left; (focus (intro w hSw; (try dsimp only at hSw); first | (go_simp; done) | (go_simp; with_reducible rfl))); try simp only[Act.put,qg,qe,qf,qd,qh,qi,Nat.reduceAdd])
   refine nx9 ?_;refine wpAnyT_two (i:=9) (j:=12) (by kernel_rfl) rfl rfl (fun K hK=>?_) (fun K hK=>?_)
   · go_simp
     have ha:=((((HZ9.out.put (k * 5) (.int .u8 t.k)).put (k * 5+1) (.int .i64 t.n)).put (k * 5+2) (.int .i64 t.v)).put (k * 5+3) (.int .u8 t.c)).put (k * 5+4) (.slice Ax mx cx);rw[set5A cs k hcl] at ha
     have hb:∀ b,b≠gr→(((((w9.setCell ⟨gr,k * 5,none⟩ (.int .u8 t.k)).setCell ⟨gr,k * 5+1,none⟩ (.int .i64 t.n)).setCell ⟨gr,k * 5+2,none⟩ (.int .i64 t.v)).setCell ⟨gr,k * 5+3,none⟩ (.int .u8 t.c)).setCell ⟨gr,k * 5+4,none⟩ (.slice Ax mx cx)).heap[b]?=w9.heap[b]?:=fun b hne=>by
      rw[Below.heap_setCell _ _ _ _ hne,Below.heap_setCell _ _ _ _ hne,Below.heap_setCell _ _ _ _ hne,Below.heap_setCell _ _ _ _ hne,Below.heap_setCell _ _ _ _ hne]
     generalize ((((w9.setCell ⟨gr,k * 5,none⟩ (.int .u8 t.k)).setCell ⟨gr,k * 5+1,none⟩ (.int .i64 t.n)).setCell ⟨gr,k * 5+2,none⟩ (.int .i64 t.v)).setCell ⟨gr,k * 5+3,none⟩ (.int .u8 t.c)).setCell ⟨gr,k * 5+4,none⟩ (.slice Ax mx cx)=wA at ha hb ⊢;have hhA:=Hh9.out.keep (hb _ (fun e=>hgw e.symm)) (hb _ (fun e=>hgT e.symm));refine hK.out _ _ (hhA.2) ?_;clear hK K
     try simp only[Act.put,qg,qe,qf,qd,qh,qi]
     have y2:wA.cell? ⟨w.heap.size,2,none⟩=some _:=ha.bx.cell 2;have g2:=ha.bx.frozen 2;have HF:=qq (ha.set 2 (.slice (some ⟨gr,0,none⟩) (k+1) c9));have HFK:Hid (∀ b,b<wr.heap.size→b≠w.heap.size→some b≠(Value.slice A5 k c5).ownBlock→some b≠(Value.slice A6 k c6).ownBlock→(wA.setCell ⟨w.heap.size,2,none⟩ (.slice (some ⟨gr,0,none⟩) (k+1) c9)).heap[b]?=wr.heap[b]?):=qq (fun b h1 h2 h3 h4=>(Below.heap_setCell _ _ _ _ h2).trans ((hb b (HgF.out b h1 h3)).trans (HKc.out b h1 h2 h3 h4)));have hhB:=hhA.2;clear z0 z1 z2 z3 z4 f0 f1 f2 f3 f4 hb ha;refine wpAnyT_step (i:=12) (by kernel_rfl) rfl (fun K hK=>?_);go_simp
     refine hK.out _ _ (⟨(World.cell?_setCell_other _ _ _ _ (fun e=>by have:w.heap.size=wr.heap.size:=congrArg Addr.block e; omega)).trans hhB.1,(World.cell?_setCell_other _ _ _ _ (fun e=>by have:w.heap.size=wr.heap.size:=congrArg Addr.block e; omega)).trans hhB.2.1,(World.cell?_setCell_other _ _ _ _ (fun e=>by have:w.heap.size=wr.heap.size:=congrArg Addr.block e; omega)).trans hhB.2.2.1,(World.cell?_setCell_other _ _ _ _ (fun e=>by have:w.heap.size=wr.heap.size:=congrArg Addr.block e; omega)).trans hhB.2.2.2.1,(World.cell?_setCell_other _ _ _ _ (fun e=>by have:w.heap.size=wr.heap.size:=congrArg Addr.block e; omega)).trans hhB.2.2.2.2⟩) ?_
     clear hK K
     try simp only[Act.put,qg,qe,qf,qd,qh,qi]
     clear HZ9 Hh9;refine wpAnyT_seq 13 (by omega) (by rfl) (by kernel_rfl) ?_;simp only[List.drop_succ_cons,List.drop_zero];go_wp2_with fail;refine NoPanic.normal ?_;go_wp2_with fail
     go_end0
     exact⟨rfl,_,_,_,_,HF.out,HFK.out,fun b h1 e=>Classical.byContradiction fun hn=>HgF.out b h1 (fun q=>hn q.symm) (Option.some.inj (show some gr=some b from e)).symm,HR8.out⟩
   · have y2:w9.cell? ⟨w.heap.size,2,none⟩=some _:=HZ9.out.bx.cell 2
     have g2:=HZ9.out.bx.frozen 2;go_simp;have ha:=HZ9.out.set 2 (.slice (some ⟨gr,0,none⟩) (k+1) c9)
     have hhB:(w9.setCell ⟨w.heap.size,2,none⟩ (.slice (some ⟨gr,0,none⟩) (k+1) c9)).cell? ⟨wr.heap.size,0,none⟩=some (.int .u8 t.k)∧(w9.setCell ⟨w.heap.size,2,none⟩ (.slice (some ⟨gr,0,none⟩) (k+1) c9)).cell? ⟨wr.heap.size,1,none⟩=some (.int .i64 t.n)∧(w9.setCell ⟨w.heap.size,2,none⟩ (.slice (some ⟨gr,0,none⟩) (k+1) c9)).cell? ⟨wr.heap.size,2,none⟩=some (.int .i64 t.v)∧(w9.setCell ⟨w.heap.size,2,none⟩ (.slice (some ⟨gr,0,none⟩) (k+1) c9)).cell? ⟨wr.heap.size,3,none⟩=some (.int .u8 t.c)∧(w9.setCell ⟨w.heap.size,2,none⟩ (.slice (some ⟨gr,0,none⟩) (k+1) c9)).cell? ⟨wr.heap.size,4,none⟩=some (.slice Ax mx cx):=
      ⟨(World.cell?_setCell_other _ _ _ _ (fun e=>by have:w.heap.size=wr.heap.size:=congrArg Addr.block e; omega)).trans Hh9.out.2.1,(World.cell?_setCell_other _ _ _ _ (fun e=>by have:w.heap.size=wr.heap.size:=congrArg Addr.block e; omega)).trans Hh9.out.2.2.1,(World.cell?_setCell_other _ _ _ _ (fun e=>by have:w.heap.size=wr.heap.size:=congrArg Addr.block e; omega)).trans Hh9.out.2.2.2.1,(World.cell?_setCell_other _ _ _ _ (fun e=>by have:w.heap.size=wr.heap.size:=congrArg Addr.block e; omega)).trans Hh9.out.2.2.2.2.1,(World.cell?_setCell_other _ _ _ _ (fun e=>by have:w.heap.size=wr.heap.size:=congrArg Addr.block e; omega)).trans Hh9.out.2.2.2.2.2⟩
     have hne:∀ i,(⟨w.heap.size,2,none⟩:Addr)≠⟨gr,i,none⟩:=fun i e=>hgw (congrArg Addr.block e).symm;have y0:=(World.cell?_setCell_other w9 ⟨w.heap.size,2,none⟩ ⟨gr,k * 5,none⟩ (.slice (some ⟨gr,0,none⟩) (k+1) c9) (hne _)).trans z0;have y1:=(World.cell?_setCell_other w9 ⟨w.heap.size,2,none⟩ ⟨gr,k * 5+1,none⟩ (.slice (some ⟨gr,0,none⟩) (k+1) c9) (hne _)).trans z1;have y2':=(World.cell?_setCell_other w9 ⟨w.heap.size,2,none⟩ ⟨gr,k * 5+2,none⟩ (.slice (some ⟨gr,0,none⟩) (k+1) c9) (hne _)).trans z2;have y3:=(World.cell?_setCell_other w9 ⟨w.heap.size,2,none⟩ ⟨gr,k * 5+3,none⟩ (.slice (some ⟨gr,0,none⟩) (k+1) c9) (hne _)).trans z3;have y4:=(World.cell?_setCell_other w9 ⟨w.heap.size,2,none⟩ ⟨gr,k * 5+4,none⟩ (.slice (some ⟨gr,0,none⟩) (k+1) c9) (hne _)).trans z4;have hfr:∀ i,(w9.setCell ⟨w.heap.size,2,none⟩ (.slice (some ⟨gr,0,none⟩) (k+1) c9)).frozen? ⟨gr,k * 5+i,none⟩=w9.frozen? ⟨gr,k * 5+i,none⟩:=fun i=>World.frozen?_of_block (Below.heap_setCell _ _ _ _ hgw);have q0:(w9.setCell ⟨w.heap.size,2,none⟩ (.slice (some ⟨gr,0,none⟩) (k+1) c9)).frozen? ⟨gr,k * 5,none⟩=false:=(hfr 0).trans f0;have q1:=(hfr 1).trans f1;have q2:=(hfr 2).trans f2;have q3:=(hfr 3).trans f3;have q4:=(hfr 4).trans f4;clear z0 z1 z2 z3 z4 f0 f1 f2 f3 f4 hfr y2 g2;have hkA:∀ b,b<wr.heap.size→b≠w.heap.size→some b≠(Value.slice A5 k c5).ownBlock→some b≠(Value.slice A6 k c6).ownBlock→(w9.setCell ⟨w.heap.size,2,none⟩ (.slice (some ⟨gr,0,none⟩) (k+1) c9)).heap[b]?=wr.heap[b]?:=fun b h1 h2 h3 h4=>(Below.heap_setCell _ _ _ _ h2).trans (HKc.out b h1 h2 h3 h4);generalize w9.setCell ⟨w.heap.size,2,none⟩ (.slice (some ⟨gr,0,none⟩) (k+1) c9)=wA at hkA ha hhB y0 y1 y2' y3 y4 q0 q1 q2 q3 q4 ⊢;refine hK.out _ _ (hhB) ?_;clear hK K
     try simp only[Act.put,qg,qe,qf,qd,qh,qi]
     have hb:=((((ha.put (k * 5) (.int .u8 t.k)).put (k * 5+1) (.int .i64 t.n)).put (k * 5+2) (.int .i64 t.v)).put (k * 5+3) (.int .u8 t.c)).put (k * 5+4) (.slice Ax mx cx);rw[set5A cs k hcl] at hb
     have hbk:∀ b,b≠gr→(((((wA.setCell ⟨gr,k * 5,none⟩ (.int .u8 t.k)).setCell ⟨gr,k * 5+1,none⟩ (.int .i64 t.n)).setCell ⟨gr,k * 5+2,none⟩ (.int .i64 t.v)).setCell ⟨gr,k * 5+3,none⟩ (.int .u8 t.c)).setCell ⟨gr,k * 5+4,none⟩ (.slice Ax mx cx)).heap[b]?=wA.heap[b]?:=fun b hne=>by
      rw[Below.heap_setCell _ _ _ _ hne,Below.heap_setCell _ _ _ _ hne,Below.heap_setCell _ _ _ _ hne,Below.heap_setCell _ _ _ _ hne,Below.heap_setCell _ _ _ _ hne]
     have HF:=qq hb;have HFK:=qq (fun b (h1:b<wr.heap.size) (h2:b≠w.heap.size) (h3:some b≠(Value.slice A5 k c5).ownBlock) (h4:some b≠(Value.slice A6 k c6).ownBlock)=>(hbk b (HgF.out b h1 h3)).trans (hkA b h1 h2 h3 h4));clear hkA;have hcb:∀ i,(((((wA.setCell ⟨gr,k * 5,none⟩ (.int .u8 t.k)).setCell ⟨gr,k * 5+1,none⟩ (.int .i64 t.n)).setCell ⟨gr,k * 5+2,none⟩ (.int .i64 t.v)).setCell ⟨gr,k * 5+3,none⟩ (.int .u8 t.c)).setCell ⟨gr,k * 5+4,none⟩ (.slice Ax mx cx)).cell? ⟨wr.heap.size,i,none⟩=wA.cell? ⟨wr.heap.size,i,none⟩:=fun i=>World.cell?_of_block (hbk _ (fun e=>hgT e.symm));have hhC:=And.intro ((hcb 0).trans hhB.1) (And.intro ((hcb 1).trans hhB.2.1) (And.intro ((hcb 2).trans hhB.2.2.1) (And.intro ((hcb 3).trans hhB.2.2.2.1) ((hcb 4).trans hhB.2.2.2.2))));clear hb ha hbk hcb;refine wpAnyT_step (i:=9) (by kernel_rfl) rfl (fun K hK=>?_);go_simp;refine hK.out _ _ hhC ?_;clear hK K
     try simp only[Act.put,qg,qe,qf,qd,qh,qi]
     clear HZ9 Hh9;refine wpAnyT_seq 13 (by omega) (by rfl) (by kernel_rfl) ?_;simp only[List.drop_succ_cons,List.drop_zero];go_wp2_with fail;refine NoPanic.normal ?_;go_wp2_with fail
     go_end0
     exact⟨rfl,_,_,_,_,HF.out,HFK.out,fun b h1 e=>Classical.byContradiction fun hn=>HgF.out b h1 (fun q=>hn q.symm) (Option.some.inj (show some gr=some b from e)).symm,HR8.out⟩
 · go_simp
   refine hK.out _ _ (HhT.out.2) ?_;clear hK K
   try simp only[Act.put,qg,qe,qf,qd,qh,qi]
   have x2':(W0.alloc (Obj.cells #[.int .u8 0,.int .i64 0,.int .i64 0,.int .u8 0,.slice none 0 0] 63)).cell? ⟨w.heap.size,2,none⟩=some (.slice A5 k c5):=HhT.out.1;refine wpAnyT_step (i:=3) (by kernel_rfl) rfl (fun K hK=>?_);go_simp;refine hK.out _ _ HhT.out.2 ?_;clear hK K
   try simp only[Act.put,qg,qe,qf,qd,qh,qi]
   clear x2 x2';have hHeld:=HhT.out.2
   refine wpAnyT_take (i:=5) (v:=?_) rfl (by kernel_rfl) (by kernel_rfl) (by kernel_rfl) (by kernel_rfl) (fun _ _ _ h=>h) (Or.inl ⟨by kernel_rfl,?_⟩) (by assumption) ?_
   rotate_left
   · (intro w hSw; (try dsimp only at hSw); first | (go_simp; done) | (go_simp; with_reducible rfl))
   try simp only[Act.put,qg,qe,qf,qd,qh,qi]
   refine wpAnyT_step (i:=7) (by kernel_rfl) rfl (fun K hK=>?_)
   (refine step_append_rd _ (by rfl) (.tmp 19) (.tmp 22) 56 (by rfl) (w.heap.size+1) 63 i0 _ 5 56 Tryd.underlying56 hi0 hz0 hz1 hz2 rfl (by omega) (.slice A5 k c5) k _ (by rfl) HzT.out.rt _ _ 1 1 [.int .u8 0,.int .i64 0,.int .i64 0,.int .u8 0,.slice none 0 0] (by rfl) HrT.out (by intro u hu; simp at hu; rcases hu with rfl | rfl | rfl | rfl | rfl <;> rfl) (by unfold maxLen; omega) (by omega) (by have:=HsT.out; have:=HsI.out; have:=HsW.out; omega) ?_; intro v9 w9 ho9 hg9 hat9; obtain⟨A9,c9,rfl⟩:=ownsRow_form ho9; have hh9:=HhT.out.keep (hg9.block w.heap.size (by have:=HsT.out; have:=HsI.out; have:=HsW.out; omega) (HzT.out.own5 (by omega))) (hg9.block wr.heap.size HkT.out.lt (fun e=>by have:=Ho5.out _ e.symm; omega)))
   refine hK.out _ _ hh9.2 ?_;clear hK K
   try simp only[Act.put,qg,qe,qf,qd,qh,qi]
   have hz9:=HzT.out.app5 ho9 hg9 hat9;obtain⟨gr,rfl,hgo,hg1,hg2,hgc,hgf⟩:=own_addr ho9 (by omega)
   have hgT:gr≠wr.heap.size:=by
    rcases hat9 with q | q
    · have:=Ho5.out gr (by rw[← q]; rfl)
      omega
    · have e:gr=_:=Option.some.inj q
      have:=HkT.out.lt;omega
   have k63:(k:Int)+1≤9223372036854775807:=by omega
   have k1:(0:Int)≤(k:Int):=by omega
   have k2:(k:Int)<(k:Int)+1:=by omega
   have hgw:gr≠w.heap.size:=by omega
   have hcl:=Hcs.out
   have z0:w9.cell? ⟨gr,k * 5,none⟩=some (.int .u8 0):=hgc (k * 5) _ (by rw[← hcl,List.getElem?_append_right (Nat.le_refl _),Nat.sub_self]; rfl)
   have z1:w9.cell? ⟨gr,k * 5+1,none⟩=some (.int .i64 0):=hgc (k * 5+1) _ (by rw[← hcl,List.getElem?_append_right (by omega),show cs.length+1 - cs.length=1 from by omega]; rfl)
   have z2:w9.cell? ⟨gr,k * 5+2,none⟩=some (.int .i64 0):=hgc (k * 5+2) _ (by rw[← hcl,List.getElem?_append_right (by omega),show cs.length+2 - cs.length=2 from by omega]; rfl)
   have z3:w9.cell? ⟨gr,k * 5+3,none⟩=some (.int .u8 0):=hgc (k * 5+3) _ (by rw[← hcl,List.getElem?_append_right (by omega),show cs.length+3 - cs.length=3 from by omega]; rfl)
   have z4:w9.cell? ⟨gr,k * 5+4,none⟩=some (.slice none 0 0):=hgc (k * 5+4) _ (by rw[← hcl,List.getElem?_append_right (by omega),show cs.length+4 - cs.length=4 from by omega]; rfl)
   have f0:=hgf (k * 5);have f1:=hgf (k * 5+1);have f2:=hgf (k * 5+2);have f3:=hgf (k * 5+3);have f4:=hgf (k * 5+4)
   have hgF:∀ b,b<wr.heap.size→some b≠(Value.slice A5 k c5).ownBlock→b≠gr:=fun b h1 h2 e=>by
    subst e
    rcases hat9 with q | q
    · exact h2 q
    · have e:b=_:=Option.some.inj q
      have:=HsT.out;have:=HsI.out;have:=HsW.out;omega
   have hk9:∀ b,b<wr.heap.size→b≠w.heap.size→some b≠(Value.slice A5 k c5).ownBlock→some b≠(Value.slice A6 k c6).ownBlock→w9.heap[b]?=wr.heap[b]?:=fun b h1 h2 h3 h4=>((hg9.block b (by have:=HsT.out; have:=HsI.out; have:=HsW.out; omega) h3).trans (Below.heap_alloc _ _ _ (by have:=HsI.out; have:=HsW.out; omega))).trans (HKb.out b h1 h2 h3 h4)
   have HKc:=qq hk9;have HgF:=qq hgF;clear hk9 hgF;have HZ9:=qq hz9;have Hh9:=qq hh9;clear hz9 hh9 ho9 hg9 hat9 hgc hgf;have hHeld:=Hh9.out.2
   refine wpAnyT_take (i:=8) (v:=?_) rfl (by kernel_rfl) (by kernel_rfl) (by kernel_rfl) (by kernel_rfl) (fun _ _ _ h=>h) (Or.inl ⟨by kernel_rfl,?_⟩) (by assumption) ?_
   rotate_left
   · (intro w hSw; (try dsimp only at hSw); first | (go_simp; done) | (go_simp; with_reducible rfl))
   try simp only[Act.put,qg,qe,qf,qd,qh,qi]
   refine nx0 10 ?_
   iterate 2 (refine nx (v:=?_) rfl (by kernel_rfl) (fun _ _ _ h=>h) (by kernel_rfl) ?_ (by assumption) ?_; rotate_left; (focus (intro w hSw; (try dsimp only at hSw); first | (go_simp; done) | (go_simp; with_reducible rfl))); try simp only[Act.put,qg,qe,qf,qd,qh,qi,Nat.reduceAdd])
   refine nx9 ?_;refine wpAnyT_two (i:=9) (j:=12) (by kernel_rfl) rfl rfl (fun K hK=>?_) (fun K hK=>?_)
   · go_simp
     have ha:=((((HZ9.out.put (k * 5) (.int .u8 t.k)).put (k * 5+1) (.int .i64 t.n)).put (k * 5+2) (.int .i64 t.v)).put (k * 5+3) (.int .u8 t.c)).put (k * 5+4) (.slice Ax mx cx);rw[set5A cs k hcl] at ha
     have hb:∀ b,b≠gr→(((((w9.setCell ⟨gr,k * 5,none⟩ (.int .u8 t.k)).setCell ⟨gr,k * 5+1,none⟩ (.int .i64 t.n)).setCell ⟨gr,k * 5+2,none⟩ (.int .i64 t.v)).setCell ⟨gr,k * 5+3,none⟩ (.int .u8 t.c)).setCell ⟨gr,k * 5+4,none⟩ (.slice Ax mx cx)).heap[b]?=w9.heap[b]?:=fun b hne=>by
      rw[Below.heap_setCell _ _ _ _ hne,Below.heap_setCell _ _ _ _ hne,Below.heap_setCell _ _ _ _ hne,Below.heap_setCell _ _ _ _ hne,Below.heap_setCell _ _ _ _ hne]
     generalize ((((w9.setCell ⟨gr,k * 5,none⟩ (.int .u8 t.k)).setCell ⟨gr,k * 5+1,none⟩ (.int .i64 t.n)).setCell ⟨gr,k * 5+2,none⟩ (.int .i64 t.v)).setCell ⟨gr,k * 5+3,none⟩ (.int .u8 t.c)).setCell ⟨gr,k * 5+4,none⟩ (.slice Ax mx cx)=wA at ha hb ⊢;have hhA:=Hh9.out.keep (hb _ (fun e=>hgw e.symm)) (hb _ (fun e=>hgT e.symm));refine hK.out _ _ (hhA.2) ?_;clear hK K
     try simp only[Act.put,qg,qe,qf,qd,qh,qi]
     have y2:wA.cell? ⟨w.heap.size,2,none⟩=some _:=ha.bx.cell 2;have g2:=ha.bx.frozen 2;have HF:=qq (ha.set 2 (.slice (some ⟨gr,0,none⟩) (k+1) c9));have HFK:Hid (∀ b,b<wr.heap.size→b≠w.heap.size→some b≠(Value.slice A5 k c5).ownBlock→some b≠(Value.slice A6 k c6).ownBlock→(wA.setCell ⟨w.heap.size,2,none⟩ (.slice (some ⟨gr,0,none⟩) (k+1) c9)).heap[b]?=wr.heap[b]?):=qq (fun b h1 h2 h3 h4=>(Below.heap_setCell _ _ _ _ h2).trans ((hb b (HgF.out b h1 h3)).trans (HKc.out b h1 h2 h3 h4)));have hhB:=hhA.2;clear z0 z1 z2 z3 z4 f0 f1 f2 f3 f4 hb ha;refine wpAnyT_step (i:=12) (by kernel_rfl) rfl (fun K hK=>?_);go_simp
     refine hK.out _ _ (⟨(World.cell?_setCell_other _ _ _ _ (fun e=>by have:w.heap.size=wr.heap.size:=congrArg Addr.block e; omega)).trans hhB.1,(World.cell?_setCell_other _ _ _ _ (fun e=>by have:w.heap.size=wr.heap.size:=congrArg Addr.block e; omega)).trans hhB.2.1,(World.cell?_setCell_other _ _ _ _ (fun e=>by have:w.heap.size=wr.heap.size:=congrArg Addr.block e; omega)).trans hhB.2.2.1,(World.cell?_setCell_other _ _ _ _ (fun e=>by have:w.heap.size=wr.heap.size:=congrArg Addr.block e; omega)).trans hhB.2.2.2.1,(World.cell?_setCell_other _ _ _ _ (fun e=>by have:w.heap.size=wr.heap.size:=congrArg Addr.block e; omega)).trans hhB.2.2.2.2⟩) ?_
     clear hK K
     try simp only[Act.put,qg,qe,qf,qd,qh,qi]
     clear HZ9 Hh9;refine wpAnyT_seq 13 (by omega) (by rfl) (by kernel_rfl) ?_;simp only[List.drop_succ_cons,List.drop_zero];go_wp2_with fail;refine NoPanic.normal ?_;go_wp2_with fail
     go_end0
     exact⟨rfl,_,_,_,_,HF.out,HFK.out,fun b h1 e=>Classical.byContradiction fun hn=>HgF.out b h1 (fun q=>hn q.symm) (Option.some.inj (show some gr=some b from e)).symm,HR8.out⟩
   · have y2:w9.cell? ⟨w.heap.size,2,none⟩=some _:=HZ9.out.bx.cell 2
     have g2:=HZ9.out.bx.frozen 2;go_simp;have ha:=HZ9.out.set 2 (.slice (some ⟨gr,0,none⟩) (k+1) c9)
     have hhB:(w9.setCell ⟨w.heap.size,2,none⟩ (.slice (some ⟨gr,0,none⟩) (k+1) c9)).cell? ⟨wr.heap.size,0,none⟩=some (.int .u8 t.k)∧(w9.setCell ⟨w.heap.size,2,none⟩ (.slice (some ⟨gr,0,none⟩) (k+1) c9)).cell? ⟨wr.heap.size,1,none⟩=some (.int .i64 t.n)∧(w9.setCell ⟨w.heap.size,2,none⟩ (.slice (some ⟨gr,0,none⟩) (k+1) c9)).cell? ⟨wr.heap.size,2,none⟩=some (.int .i64 t.v)∧(w9.setCell ⟨w.heap.size,2,none⟩ (.slice (some ⟨gr,0,none⟩) (k+1) c9)).cell? ⟨wr.heap.size,3,none⟩=some (.int .u8 t.c)∧(w9.setCell ⟨w.heap.size,2,none⟩ (.slice (some ⟨gr,0,none⟩) (k+1) c9)).cell? ⟨wr.heap.size,4,none⟩=some (.slice Ax mx cx):=
      ⟨(World.cell?_setCell_other _ _ _ _ (fun e=>by have:w.heap.size=wr.heap.size:=congrArg Addr.block e; omega)).trans Hh9.out.2.1,(World.cell?_setCell_other _ _ _ _ (fun e=>by have:w.heap.size=wr.heap.size:=congrArg Addr.block e; omega)).trans Hh9.out.2.2.1,(World.cell?_setCell_other _ _ _ _ (fun e=>by have:w.heap.size=wr.heap.size:=congrArg Addr.block e; omega)).trans Hh9.out.2.2.2.1,(World.cell?_setCell_other _ _ _ _ (fun e=>by have:w.heap.size=wr.heap.size:=congrArg Addr.block e; omega)).trans Hh9.out.2.2.2.2.1,(World.cell?_setCell_other _ _ _ _ (fun e=>by have:w.heap.size=wr.heap.size:=congrArg Addr.block e; omega)).trans Hh9.out.2.2.2.2.2⟩
     have hne:∀ i,(⟨w.heap.size,2,none⟩:Addr)≠⟨gr,i,none⟩:=fun i e=>hgw (congrArg Addr.block e).symm;have y0:=(World.cell?_setCell_other w9 ⟨w.heap.size,2,none⟩ ⟨gr,k * 5,none⟩ (.slice (some ⟨gr,0,none⟩) (k+1) c9) (hne _)).trans z0;have y1:=(World.cell?_setCell_other w9 ⟨w.heap.size,2,none⟩ ⟨gr,k * 5+1,none⟩ (.slice (some ⟨gr,0,none⟩) (k+1) c9) (hne _)).trans z1;have y2':=(World.cell?_setCell_other w9 ⟨w.heap.size,2,none⟩ ⟨gr,k * 5+2,none⟩ (.slice (some ⟨gr,0,none⟩) (k+1) c9) (hne _)).trans z2;have y3:=(World.cell?_setCell_other w9 ⟨w.heap.size,2,none⟩ ⟨gr,k * 5+3,none⟩ (.slice (some ⟨gr,0,none⟩) (k+1) c9) (hne _)).trans z3;have y4:=(World.cell?_setCell_other w9 ⟨w.heap.size,2,none⟩ ⟨gr,k * 5+4,none⟩ (.slice (some ⟨gr,0,none⟩) (k+1) c9) (hne _)).trans z4;have hfr:∀ i,(w9.setCell ⟨w.heap.size,2,none⟩ (.slice (some ⟨gr,0,none⟩) (k+1) c9)).frozen? ⟨gr,k * 5+i,none⟩=w9.frozen? ⟨gr,k * 5+i,none⟩:=fun i=>World.frozen?_of_block (Below.heap_setCell _ _ _ _ hgw);have q0:(w9.setCell ⟨w.heap.size,2,none⟩ (.slice (some ⟨gr,0,none⟩) (k+1) c9)).frozen? ⟨gr,k * 5,none⟩=false:=(hfr 0).trans f0;have q1:=(hfr 1).trans f1;have q2:=(hfr 2).trans f2;have q3:=(hfr 3).trans f3;have q4:=(hfr 4).trans f4;clear z0 z1 z2 z3 z4 f0 f1 f2 f3 f4 hfr y2 g2;have hkA:∀ b,b<wr.heap.size→b≠w.heap.size→some b≠(Value.slice A5 k c5).ownBlock→some b≠(Value.slice A6 k c6).ownBlock→(w9.setCell ⟨w.heap.size,2,none⟩ (.slice (some ⟨gr,0,none⟩) (k+1) c9)).heap[b]?=wr.heap[b]?:=fun b h1 h2 h3 h4=>(Below.heap_setCell _ _ _ _ h2).trans (HKc.out b h1 h2 h3 h4);generalize w9.setCell ⟨w.heap.size,2,none⟩ (.slice (some ⟨gr,0,none⟩) (k+1) c9)=wA at hkA ha hhB y0 y1 y2' y3 y4 q0 q1 q2 q3 q4 ⊢;refine hK.out _ _ (hhB) ?_;clear hK K
     try simp only[Act.put,qg,qe,qf,qd,qh,qi]
     have hb:=((((ha.put (k * 5) (.int .u8 t.k)).put (k * 5+1) (.int .i64 t.n)).put (k * 5+2) (.int .i64 t.v)).put (k * 5+3) (.int .u8 t.c)).put (k * 5+4) (.slice Ax mx cx);rw[set5A cs k hcl] at hb
     have hbk:∀ b,b≠gr→(((((wA.setCell ⟨gr,k * 5,none⟩ (.int .u8 t.k)).setCell ⟨gr,k * 5+1,none⟩ (.int .i64 t.n)).setCell ⟨gr,k * 5+2,none⟩ (.int .i64 t.v)).setCell ⟨gr,k * 5+3,none⟩ (.int .u8 t.c)).setCell ⟨gr,k * 5+4,none⟩ (.slice Ax mx cx)).heap[b]?=wA.heap[b]?:=fun b hne=>by
      rw[Below.heap_setCell _ _ _ _ hne,Below.heap_setCell _ _ _ _ hne,Below.heap_setCell _ _ _ _ hne,Below.heap_setCell _ _ _ _ hne,Below.heap_setCell _ _ _ _ hne]
     have HF:=qq hb;have HFK:=qq (fun b (h1:b<wr.heap.size) (h2:b≠w.heap.size) (h3:some b≠(Value.slice A5 k c5).ownBlock) (h4:some b≠(Value.slice A6 k c6).ownBlock)=>(hbk b (HgF.out b h1 h3)).trans (hkA b h1 h2 h3 h4));clear hkA;have hcb:∀ i,(((((wA.setCell ⟨gr,k * 5,none⟩ (.int .u8 t.k)).setCell ⟨gr,k * 5+1,none⟩ (.int .i64 t.n)).setCell ⟨gr,k * 5+2,none⟩ (.int .i64 t.v)).setCell ⟨gr,k * 5+3,none⟩ (.int .u8 t.c)).setCell ⟨gr,k * 5+4,none⟩ (.slice Ax mx cx)).cell? ⟨wr.heap.size,i,none⟩=wA.cell? ⟨wr.heap.size,i,none⟩:=fun i=>World.cell?_of_block (hbk _ (fun e=>hgT e.symm));have hhC:=And.intro ((hcb 0).trans hhB.1) (And.intro ((hcb 1).trans hhB.2.1) (And.intro ((hcb 2).trans hhB.2.2.1) (And.intro ((hcb 3).trans hhB.2.2.2.1) ((hcb 4).trans hhB.2.2.2.2))));clear hb ha hbk hcb;refine wpAnyT_step (i:=9) (by kernel_rfl) rfl (fun K hK=>?_);go_simp;refine hK.out _ _ hhC ?_;clear hK K
     try simp only[Act.put,qg,qe,qf,qd,qh,qi]
     clear HZ9 Hh9;refine wpAnyT_seq 13 (by omega) (by rfl) (by kernel_rfl) ?_;simp only[List.drop_succ_cons,List.drop_zero];go_wp2_with fail;refine NoPanic.normal ?_;go_wp2_with fail
     go_end0
     exact⟨rfl,_,_,_,_,HF.out,HFK.out,fun b h1 e=>Classical.byContradiction fun hn=>HgF.out b h1 (fun q=>hn q.symm) (Option.some.inj (show some gr=some b from e)).symm,HR8.out⟩
theorem add13_any (w wr:World) (name:ByteArray) (n:Int) (k:Nat) (cs us:List Value) (A5:Option Addr) (c5:Nat) (A6:Option Addr) (c6:Nat) (m:Int) (t:TyD) (Ax:Option Addr) (mx cx:Nat) (hk:k≤1000)
  (h:ConH w #[.string name,.int .i64 n,.slice A5 k c5,.slice A6 k c6] (.slice A5 k c5) k cs (.slice A6 k c6) k us wr) (hcs:cs.length=k * 5):
  Calls Tryd.prog 49 #[.pointer (some ⟨w.heap.size,0,none⟩),.int .u8 m,.agg #[.int .u8 t.k,.int .i64 t.n,.int .i64 t.v,.int .u8 t.c,.slice Ax mx cx]] wr (AddPost w wr A5 A6 c5 c6 name n k cs us m t Ax mx cx):=
 (add13_anyR w wr name n k cs us A5 c5 A6 c6 m t Ax mx cx hk h hcs).mono fun _ _ ⟨h1,A7,c7,A8,c8,h2,h3,_⟩=>⟨h1,A7,c7,A8,c8,h2,h3⟩
end Go.Proofs.YtgpeijkjmkocgaaDoor
