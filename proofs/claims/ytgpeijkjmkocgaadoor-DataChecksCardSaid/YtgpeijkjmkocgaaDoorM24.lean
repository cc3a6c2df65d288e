import Derived.Test.YtgpeijkjmkocgaaDoorM23
set_option linter.unusedVariables false
set_option linter.unusedSimpArgs false
set_option maxHeartbeats 8000000
set_option maxRecDepth 100000
namespace Go.Proofs.YtgpeijkjmkocgaaDoor
open Go.RowKit
theorem refGivenM_any (w:World):Calls Tryd.prog 19 #[] w fun e w'=>∃ Ad cd Ac cc vs,e=.returned (.agg #[.slice Ad 9 cd,.slice Ac 15 cc])∧SigM w' (w.heap.size+4) (fun b=>b<w.heap.size+4) givenS (.slice Ad 9 cd) (.slice Ac 15 cc) vs∧Below w.heap.size w w':=by
 obtain⟨W0,W1,W2,W3,h0,h1,h2,h3,s0,s1,s2,hg⟩:=Gd1.make w;unfold arrN at h2;unfold arrP at h3;have H0:=qq h0;have H1:=qq h1;have H2:=qq h2;have H3:=qq h3;have HG:=qq hg;obtain⟨i0,hi0,hz0,hz1,hz2⟩:=info_parts dataInfo2;clear h0 h1 h2 h3 hg
 go_enter Tryd.func19,Tryd.ntmps19
 go_upto_region 1 with fail;rw[H0.out];go_upto_region 2 with fail;rw[H1.out];go_upto_region 3 with fail;rw[H2.out];go_upto_region 4 with fail;rw[H3.out]
 try simp only[s0,s1,s2]
 clear H0 H1 H2 H3 s0 s1 s2;go_wp2_with fail
 go_loopg [4] 9 (fun gh i wr=>∃ (k:Nat) (vd:Value) (vs:List Value),k≤9∧gh=9 - k∧i=.int .i64 (k:Nat)∧Gd1 w k vd vs wr)
 case atStart=>exact⟨0,_,_,Nat.zero_le _,rfl,rfl,HG.out⟩
 case round=>
  clear HG;obtain⟨k,vd,vs,hk,rfl,rfl,hg⟩:=hrel;obtain⟨w5,hw5⟩:∃ q,q=wr:=⟨_,rfl⟩;subst hw5
  by_cases hk9:k<9
  · have d0:decide (k<9)=true:=by simpa using hk9
    have d0':decide ((k:Int)<9)=true:=by simp; omega
    obtain⟨Ad,cd,hvd⟩:=ownsRow_form hg.sm.od
    have hlk:(gvD.take k).length=k:=by rw[List.length_take]; show min k 9=k; omega
    rw[show(⟨gvD.take k,[]⟩:SigD).datas.length=k from hlk] at hvd
    subst hvd;obtain⟨nm,pm,hn1,hp1,hts⟩:=datAt hk9;have x0:w5.cell? ⟨w.heap.size+1,0,none⟩=some (.slice Ad k cd):=hg.bk.cell 0
    have y0:w5.cell? ⟨w.heap.size+2,k,none⟩=some (.string nm):=by rw[hg.nm.cell k]; exact hn1
    have y1:w5.cell? ⟨w.heap.size+3,k,none⟩=some (.int .i64 pm):=by rw[hg.ps.cell k]; exact hp1
    have k1:(0:Int)≤(k:Int):=by omega
    have k2:(k:Int)<9:=by omega
    have HG:=qq hg;have Hts:=qq hts;have Hlk:=qq hlk;clear hg hts hlk hn1 hp1;go_upto_region 7 with fail;refine wp_region_noPanic ?_;refine wp_region_T (fun w'=>w'.cell? ⟨w.heap.size+1,0,none⟩=some (.slice Ad k cd)∧w'.cell? ⟨w.heap.size+2,k,none⟩=some (.string nm)∧w'.cell? ⟨w.heap.size+3,k,none⟩=some (.int .i64 pm)) 11 (by kernel_rfl) ⟨x0,y0,y1⟩ (fun hHeld=>?_);have hbd:Below w5.heap.size w5 w5.drew:=Below.drew (Below.refl _ _);have hgd:=HG.out.below hbd;clear x0 y0 y1 hbd;generalize w5.drew=w6 at hHeld hgd ⊢;clear HG;have hbI:=below_box (w:=w6) (Obj.cells #[.string nm,.int .i64 pm,.slice none 0 0] 52);have HrI:=qq (rd_newk w6 [.string nm,.int .i64 pm,.slice none 0 0] 3 rfl 52);have HgI:=qq (hgd.below hbI)
    have hsI:(w6.alloc (Obj.cells #[.string nm,.int .i64 pm,.slice none 0 0] 52)).heap.size=w6.heap.size+1:=by simp
    have HsI:=qq hsI;have hq4:w.heap.size+4≤w6.heap.size:=hgd.ps.lt;have HhI:=qq (And.intro ((hbI.cell (block_lt_of_cell hHeld.1)).trans hHeld.1) (And.intro ((hbI.cell (block_lt_of_cell hHeld.2.1)).trans hHeld.2.1) ((hbI.cell (block_lt_of_cell hHeld.2.2)).trans hHeld.2.2)));have hod:=HgI.out.sm.od
    have hod':(w6.alloc (Obj.cells #[.string nm,.int .i64 pm,.slice none 0 0] 52)).ownsRow (w.heap.size+4) 52 3 (.slice Ad k cd) k (dCells (gvD.take k) vs):=by
     have h:=hod
     rw[show(⟨gvD.take k,[]⟩:SigD).datas=gvD.take k from rfl,Hlk.out] at h
     exact h
    have hno:∀ b,b<w.heap.size+4→some b≠(Value.slice Ad k cd).ownBlock:=fun b hb e=>by have:=own_lt hod' e.symm; omega
    have Hod:=qq hod';have Hno:=qq hno;clear hgd hbI hsI hod hod' hno;refine nx0 0 ?_
    iterate 9 (refine nx (v:=?_) rfl (by kernel_rfl) (fun _ _ _ h=>h) (by kernel_rfl) ?_ (by assumption) ?_; rotate_left; (focus (intro w hSw; (try dsimp only at hSw); first | (go_simp; done) | (go_simp; with_reducible rfl))); try simp only[Act.put,qg,qe,qf,qd,qh,qi,Nat.reduceAdd])
    refine nx9 ?_;refine wpAnyT_step (i:=9) (by kernel_rfl) rfl (fun K hK=>?_);go_simp;refine hK.out _ _ HhI.out ?_;clear hK K
    try simp only[Act.put,qg,qe,qf,qd,qh,qi]
    refine wpAnyT_step (i:=10) (by kernel_rfl) rfl (fun K hK=>?_)
    (refine step_append_rd _ (by rfl) (.tmp 20) (.tmp 28) 22 (by rfl) (w.heap.size+4) 52 i0 _ 3 48 Tryd.underlying22 hi0 hz0 hz1 hz2 rfl (by omega) (.slice Ad k cd) k _ (by rfl) Hod.out _ _ 1 1 [.string nm,.int .i64 pm,.slice none 0 0] (by rfl) HrI.out (by intro u hu; simp at hu; rcases hu with rfl | rfl | rfl <;> rfl) (by unfold maxLen; omega) (by omega) (by have:=HsI.out; omega) ?_; intro v7 w7 ho7 hg7 hat7; obtain⟨A7,c7,rfl⟩:=ownsRow_form ho7)
    refine hK.out _ _ (⟨(World.cell?_of_block (hg7.block _ (block_lt_of_cell HhI.out.1) (Hno.out (w.heap.size+1) (by omega)))).trans HhI.out.1,(World.cell?_of_block (hg7.block _ (block_lt_of_cell HhI.out.2.1) (Hno.out (w.heap.size+2) (by omega)))).trans HhI.out.2.1,(World.cell?_of_block (hg7.block _ (block_lt_of_cell HhI.out.2.2) (Hno.out (w.heap.size+3) (by omega)))).trans HhI.out.2.2⟩) ?_;clear hK K
    try simp only[Act.put,qg,qe,qf,qd,qh,qi]
    have hk7:=HgI.out.bk.grown hg7 (Hno.out _ (by omega));have x0:w7.cell? ⟨w.heap.size+1,0,none⟩=some _:=hk7.cell 0;have f0:=hk7.frozen 0
    have hG8:Gd1 w (k+1) (.slice A7 (k+1) c7) (vs++[.slice none 0 0]) (w7.setCell ⟨w.heap.size+1,0,none⟩ (.slice A7 (k+1) c7)):=by
     have hsm:=HgI.out.sm.data (vd':=.slice A7 (k+1) c7) (name:=nm) (params:=pm) (w':=w7) (by
      have h:=ho7;show w7.ownsRow _ _ _ _ ((gvD.take k).length+1) _;rw[Hlk.out]
      exact h) hg7 hat7
     have hnr:¬ RowB (.slice A7 (k+1) c7) (.slice none 0 0) (vs++[.slice none 0 0]) (w.heap.size+1):=fun h=>by
      have:=(hsm.rowB h).1;omega
     have hs9:=hsm.setR (p:=⟨w.heap.size+1,0,none⟩) hnr (by show w.heap.size+1<w.heap.size+4; omega) (.slice A7 (k+1) c7)
     have hoth:∀ b,b<w.heap.size+4→b≠w.heap.size+1→(w7.setCell ⟨w.heap.size+1,0,none⟩ (.slice A7 (k+1) c7)).heap[b]?=(w6.alloc (Obj.cells #[.string nm,.int .i64 pm,.slice none 0 0] 52)).heap[b]?:=fun b hb hne=>by
      have:=HsI.out;exact(Below.heap_setCell _ _ _ _ hne).trans (hg7.block b (by omega) (Hno.out b hb))
     refine⟨hk7.set_ 0 _,?_,(hoth _ (by omega) (by omega)).trans HgI.out.r0,(hoth _ (by omega) (by omega)).trans HgI.out.nm,(hoth _ (by omega) (by omega)).trans HgI.out.ps,⟨hg7.os.trans HgI.out.bel.os,hg7.tape.trans HgI.out.bel.tape,hg7.output.trans HgI.out.bel.output,by rw[World.size_setCell]; exact Nat.le_trans HgI.out.bel.size hg7.size,fun b hb=>(hoth b (by omega) (by omega)).trans (HgI.out.bel.block b hb)⟩⟩
     rw[Hts.out];exact hs9
    have HG8:=qq hG8;clear hG8 hk7 ho7 hg7 hat7 HgI HrI HhI Hod Hno hHeld;refine wpAnyT_seq 11 (by omega) (by rfl) (by kernel_rfl) ?_;simp only[List.drop_succ_cons,List.drop_zero];go_wp2_with fail;refine NoPanic.normal ?_;go_wp2_with fail;go_roundg (9 - (k+1))
    case measure=>omega
    case rel=>exact⟨k+1,_,_,by omega,rfl,by go_num,HG8.out⟩
  · obtain rfl:k=9:=by omega
    obtain⟨W5,W6,W7,W8,W9,W10,h5,h6,h7,h8,h9,h10,s5,s6,s7,s8,s9,ka,hg2⟩:=Gd2.make hg;obtain⟨lo,hlo⟩:∃ q,w5.heap.size=q:=⟨_,rfl⟩;rw[hlo] at s5 s6 s7 s8 s9 ka hg2 h10;unfold arrC at h5;unfold arrO at h6;have x0:W8.cell? ⟨lo+2,0,none⟩=some (.int .u8 1):=ka.cell 0;have x1:W8.cell? ⟨lo+2,1,none⟩=some (.int .i64 0):=ka.cell 1;have x2:W8.cell? ⟨lo+2,2,none⟩=some (.int .i64 0):=ka.cell 2;have x3:W8.cell? ⟨lo+2,3,none⟩=some (.int .u8 0):=ka.cell 3;have x4:W8.cell? ⟨lo+2,4,none⟩=some (.slice none 0 0):=ka.cell 4;have H5:=qq h5;have H6:=qq h6;have H7:=qq h7;have H8:=qq h8;have H9:=qq h9;have H10:=qq h10;have S:=qq (And.intro hlo (And.intro s5 (And.intro s6 (And.intro s7 s8))));have HG:=qq hg2;clear hg h5 h6 h7 h8 h9 h10 hlo s5 s6 s7 s8 s9 ka hg2;go_upto_region 9 with fail;rw[H5.out];go_upto_region 10 with fail;rw[H6.out];go_upto_region 11 with fail;rw[H7.out];go_upto_region 12 with fail;rw[H8.out];rw[S.out.1,S.out.2.1,S.out.2.2.1,S.out.2.2.2.1];go_upto_region 13 with fail;rw[H9.out,S.out.2.2.2.2,H10.out];clear x0 x1 x2 x3 x4 H5 H6 H7 H8 H9 H10 S;go_wp2_with fail
    go_loopg [10] 15 (fun gh i wr=>∃ (k:Nat) (vd vc:Value) (vs:List Value),k≤15∧gh=15 - k∧i=.int .i64 (k:Nat)∧Gd2 w lo (gv k) vd vc vs wr)
    case atStart=>exact⟨0,_,_,_,Nat.zero_le _,rfl,rfl,HG.out⟩
    case round=>
     clear HG;obtain⟨k,vd,vc,vs,hk,rfl,rfl,hg⟩:=hrel;obtain⟨w7,hw7⟩:∃ q,q=wr:=⟨_,rfl⟩;subst hw7
     by_cases hk9:k<15
     · have d0:decide (k<15)=true:=by simpa using hk9
       obtain⟨nm,n,l,hc,hc1,hc2,hn9⟩:=conAt hk9;obtain⟨Ad,cd,hvd⟩:=ownsRow_form hg.sm.od;rw[gv_datas] at hvd;subst hvd;obtain⟨Ac,cc,hvc⟩:=hg.sm.oc.form;rw[gv_clen hk] at hvc;subst hvc
       have y0:w7.cell? ⟨lo,k,none⟩=some (.string nm):=by rw[hg.bc.cell k]; exact hc1
       have y1:w7.cell? ⟨lo+1,k,none⟩=some (.int .i64 (n:Nat)):=by rw[hg.bo.cell k]; exact hc2
       have k1:(0:Int)≤(k:Int):=by omega
       have k2:(k:Int)<15:=by omega
       have HG:=qq hg;have Hc:=qq hc;have Hc2:=qq hc2;clear hg hc hc1 hc2;go_upto_region 16 with fail;refine wp_region_noPanic ?_;refine wp_region_T (fun w'=>w'.cell? ⟨lo,k,none⟩=some (.string nm)∧w'.cell? ⟨lo+1,k,none⟩=some (.int .i64 (n:Nat))) 8 (by kernel_rfl) ⟨y0,y1⟩ (fun hHeld=>?_);have hbd:Below w7.heap.size w7 w7.drew:=Below.drew (Below.refl _ _);have hgd:=HG.out.below hbd;clear y0 y1 hbd;generalize w7.drew=W0 at hHeld hgd ⊢;clear HG;have HG:=qq hgd;have hbI:=below_box (w:=W0) (Obj.cells #[.string ByteArray.empty,.int .i64 0,.slice none 0 0,.slice none 0 0] 58);have HhI:=qq (And.intro ((hbI.cell (block_lt_of_cell hHeld.1)).trans hHeld.1) ((hbI.cell (block_lt_of_cell hHeld.2)).trans hHeld.2));clear hgd hbI;refine nx0 0 ?_
       iterate 7 (refine nx (v:=?_) rfl (by kernel_rfl) (fun _ _ _ h=>h) (by kernel_rfl) ?_ (by assumption) ?_; rotate_left; (focus (intro w hSw; (try dsimp only at hSw); first | (go_simp; done) | (go_simp; with_reducible rfl))); try simp only[Act.put,qg,qe,qf,qd,qh,qi,Nat.reduceAdd])
       refine nx9 ?_;refine wpAnyT_step (i:=7) (by kernel_rfl) rfl (fun K hK=>?_);go_simp;refine hK.out _ _ HhI.out ?_;clear hK K
       try simp only[Act.put,qg,qe,qf,qd,qh,qi]
       refine wpAnyT_seq 8 (by omega) (by rfl) (by kernel_rfl) ?_;simp only[List.drop_succ_cons,List.drop_zero];clear HhI
       have hz0:ConH W0 #[.string nm,.int .i64 (n:Nat),.slice none 0 0,.slice none 0 0] (.slice none 0 0) 0 [] (.slice none 0 0) 0 [] (W0.alloc (Obj.cells #[.string nm,.int .i64 (n:Nat),.slice none 0 0,.slice none 0 0] 58)):=
        ⟨blk_new _ _ _,World.ownsRow_nil _ _ _ _,World.ownsRow_nil _ _ _ _,fun b e=>absurd e (by simp[Value.ownBlock]),below_box _⟩
       obtain⟨W1,hW1⟩:∃ q,W0.alloc (Obj.cells #[.string nm,.int .i64 (n:Nat),.slice none 0 0,.slice none 0 0] 58)=q:=⟨_,rfl⟩;rw[hW1] at hz0;have HW1:=qq hW1;have Hz:=qq hz0;clear hW1 hz0;go_wp2_with fail;refine NoPanic.normal ?_;rw[HW1.out]
       go_upto_block 4 with fail
       go_cut [] (fun wx=>ConR W0 (fun b=>(Value.slice Ac k cc).ownBlock=some b∨Apart (fun b=>b<w.heap.size+4) (.slice Ad 9 cd) vs b) nm n l wx)
       case first=>
        clear HW1 hHeld d0
        have Hn:Hid (∀ b,lo≤b∧b<lo+6→¬ ((Value.slice Ac k cc).ownBlock=some b∨Apart (fun b=>b<w.heap.size+4) (.slice Ad 9 cd) vs b)):=qq fun b hb h=>by
         have hl:=HG.out.lo4;have:=HG.out.no (Or.inr hb)
         rcases h with h | h | h | h
         · exact this (Or.inr (Or.inl h))
         · omega
         · exact this (Or.inl h)
         · exact this (Or.inr (Or.inr h))
        have Hf:Hid (∀ b,W0.heap.size≤b→¬ ((Value.slice Ac k cc).ownBlock=some b∨Apart (fun b=>b<w.heap.size+4) (.slice Ad 9 cd) vs b)):=qq fun b hb h=>by
         have hl:=HG.out.lo4;have hh:=HG.out.hi
         rcases h with h | h | h | h
         · have:=(HG.out.sm.rows (Or.inr (Or.inl h))).2
           omega
         · omega
         · have:=(HG.out.sm.rows (Or.inl h)).2
           omega
         · have:=(HG.out.sm.rows (Or.inr (Or.inr h))).2
           omega
        obtain rfl | rfl | rfl | rfl | rfl | rfl | rfl | rfl | rfl | rfl | rfl | rfl | rfl | rfl | rfl:k=0∨k=1∨k=2∨k=3∨k=4∨k=5∨k=6∨k=7∨k=8∨k=9∨k=10∨k=11∨k=12∨k=13∨k=14:=by omega
        · skip
          obtain rfl:l=[]:=Option.some.inj (show some l=some [] from(congrArg (Option.map fun(c:ByteArray × Nat × List (Int × TyD))=>c.2.2) Hc.out).symm)
          go_wp2_with fail;go_meet;exact⟨[],none,0,none,0,Hz.out,CelsV.nil⟩
        · skip
          obtain rfl:l=[]:=Option.some.inj (show some l=some [] from(congrArg (Option.map fun(c:ByteArray × Nat × List (Int × TyD))=>c.2.2) Hc.out).symm)
          go_wp2_with fail;go_meet;exact⟨[],none,0,none,0,Hz.out,CelsV.nil⟩
        · skip
          obtain rfl:l=[]:=Option.some.inj (show some l=some [] from(congrArg (Option.map fun(c:ByteArray × Nat × List (Int × TyD))=>c.2.2) Hc.out).symm)
          go_wp2_with fail;go_meet;exact⟨[],none,0,none,0,Hz.out,CelsV.nil⟩
        · skip
          obtain rfl:l=[(1,(leafT 1 0)),(1,(leafT 1 1))]:=Option.some.inj (show some l=some [(1,(leafT 1 0)),(1,(leafT 1 1))] from(congrArg (Option.map fun(c:ByteArray × Nat × List (Int × TyD))=>c.2.2) Hc.out).symm)
          have x0:W1.cell? ⟨lo+2,0,none⟩=some (.int .u8 1):=(Hz.out.bel.cell (p:=⟨lo+2,0,none⟩) (by show lo+2<W0.heap.size; have:=HG.out.hi; omega)).trans (HG.out.ba.cell 0)
          have x1:W1.cell? ⟨lo+2,1,none⟩=some (.int .i64 0):=(Hz.out.bel.cell (p:=⟨lo+2,1,none⟩) (by show lo+2<W0.heap.size; have:=HG.out.hi; omega)).trans (HG.out.ba.cell 1)
          have x2:W1.cell? ⟨lo+2,2,none⟩=some (.int .i64 0):=(Hz.out.bel.cell (p:=⟨lo+2,2,none⟩) (by show lo+2<W0.heap.size; have:=HG.out.hi; omega)).trans (HG.out.ba.cell 2)
          have x3:W1.cell? ⟨lo+2,3,none⟩=some (.int .u8 0):=(Hz.out.bel.cell (p:=⟨lo+2,3,none⟩) (by show lo+2<W0.heap.size; have:=HG.out.hi; omega)).trans (HG.out.ba.cell 3)
          have x4:W1.cell? ⟨lo+2,4,none⟩=some (.slice none 0 0):=(Hz.out.bel.cell (p:=⟨lo+2,4,none⟩) (by show lo+2<W0.heap.size; have:=HG.out.hi; omega)).trans (HG.out.ba.cell 4)
          go_wp2_with fail;refine(add13_any W0 W1 nm n 0 _ _ none 0 none 0 1 (leafT 1 0) none 0 0 (by omega) Hz.out rfl).mono ?_;rintro e w20 ⟨rfl,A1,c1,B1,d1,hz1,hf1⟩;clear x0 x1 x2 x3 x4;go_wp2_with fail;refine(add13_any W0 w20 nm n 1 _ _ A1 c1 B1 d1 1 (leafT 1 1) none 0 0 (by omega) hz1 rfl).mono ?_;rintro e w21 ⟨rfl,A2,c2,B2,d2,hz2,hf2⟩;go_wp2_with fail;go_meet;exact⟨_,_,_,_,_,hz2,CelsV.append celV_leaf (celV_one celV_leaf)⟩
        · skip
          obtain rfl:l=[]:=Option.some.inj (show some l=some [] from(congrArg (Option.map fun(c:ByteArray × Nat × List (Int × TyD))=>c.2.2) Hc.out).symm)
          go_wp2_with fail;go_meet;exact⟨[],none,0,none,0,Hz.out,CelsV.nil⟩
        · skip
          obtain rfl:l=[(1,(leafT 1 0)),(1,(.mk 8 3 0 0 [(leafT 1 0)]))]:=Option.some.inj (show some l=some [(1,(leafT 1 0)),(1,(.mk 8 3 0 0 [(leafT 1 0)]))] from(congrArg (Option.map fun(c:ByteArray × Nat × List (Int × TyD))=>c.2.2) Hc.out).symm)
          have x0:W1.cell? ⟨lo+2,0,none⟩=some (.int .u8 1):=(Hz.out.bel.cell (p:=⟨lo+2,0,none⟩) (by show lo+2<W0.heap.size; have:=HG.out.hi; omega)).trans (HG.out.ba.cell 0)
          have x1:W1.cell? ⟨lo+2,1,none⟩=some (.int .i64 0):=(Hz.out.bel.cell (p:=⟨lo+2,1,none⟩) (by show lo+2<W0.heap.size; have:=HG.out.hi; omega)).trans (HG.out.ba.cell 1)
          have x2:W1.cell? ⟨lo+2,2,none⟩=some (.int .i64 0):=(Hz.out.bel.cell (p:=⟨lo+2,2,none⟩) (by show lo+2<W0.heap.size; have:=HG.out.hi; omega)).trans (HG.out.ba.cell 2)
          have x3:W1.cell? ⟨lo+2,3,none⟩=some (.int .u8 0):=(Hz.out.bel.cell (p:=⟨lo+2,3,none⟩) (by show lo+2<W0.heap.size; have:=HG.out.hi; omega)).trans (HG.out.ba.cell 3)
          have x4:W1.cell? ⟨lo+2,4,none⟩=some (.slice none 0 0):=(Hz.out.bel.cell (p:=⟨lo+2,4,none⟩) (by show lo+2<W0.heap.size; have:=HG.out.hi; omega)).trans (HG.out.ba.cell 4)
          go_wp2_with fail;refine(add13_any W0 W1 nm n 0 _ _ none 0 none 0 1 (leafT 1 0) none 0 0 (by omega) Hz.out rfl).mono ?_;rintro e w20 ⟨rfl,A1,c1,B1,d1,hz1,hf1⟩;clear x0 x1 x2 x3 x4
          have x0:w20.cell? ⟨lo+2,0,none⟩=some (.int .u8 1):=(hz1.bel.cell (p:=⟨lo+2,0,none⟩) (by show lo+2<W0.heap.size; have:=HG.out.hi; omega)).trans (HG.out.ba.cell 0)
          have x1:w20.cell? ⟨lo+2,1,none⟩=some (.int .i64 0):=(hz1.bel.cell (p:=⟨lo+2,1,none⟩) (by show lo+2<W0.heap.size; have:=HG.out.hi; omega)).trans (HG.out.ba.cell 1)
          have x2:w20.cell? ⟨lo+2,2,none⟩=some (.int .i64 0):=(hz1.bel.cell (p:=⟨lo+2,2,none⟩) (by show lo+2<W0.heap.size; have:=HG.out.hi; omega)).trans (HG.out.ba.cell 2)
          have x3:w20.cell? ⟨lo+2,3,none⟩=some (.int .u8 0):=(hz1.bel.cell (p:=⟨lo+2,3,none⟩) (by show lo+2<W0.heap.size; have:=HG.out.hi; omega)).trans (HG.out.ba.cell 3)
          have x4:w20.cell? ⟨lo+2,4,none⟩=some (.slice none 0 0):=(hz1.bel.cell (p:=⟨lo+2,4,none⟩) (by show lo+2<W0.heap.size; have:=HG.out.hi; omega)).trans (HG.out.ba.cell 4)
          go_wp2_with fail;have hbL:=below_box (w:=w20) (Obj.cells #[.int .u8 1,.int .i64 0,.int .i64 0,.int .u8 0,.slice none 0 0] 63);have hkL:=blk_new w20 #[.int .u8 1,.int .i64 0,.int .i64 0,.int .u8 0,.slice none 0 0] 63;have hzL:=hz1.below hbL;refine(add13_any W0 _ nm n 1 _ _ A1 c1 B1 d1 1 (.mk 8 3 0 0 [(leafT 1 0)]) (some ⟨w20.heap.size,0,none⟩) 1 1 (by omega) hzL rfl).mono ?_;rintro e w21 ⟨rfl,A2,c2,B2,d2,hz2,hf2⟩
          have hkF:=(hf2 _ hkL.lt (fun e=>by have:=hz1.bx.lt; omega) (fun e=>by have:=own_lt hz1.rt e.symm; omega) (fun e=>by have:=own_lt hz1.rm e.symm; omega)).trans hkL
          replace hkF:Blk w21 w20.heap.size 63 #[.int .u8 1,.int .i64 0,.int .i64 0,.int .u8 0,.slice none 0 0]:=hkF;clear x0 x1 x2 x3 x4;go_wp2_with fail;go_meet
          exact⟨_,_,_,_,_,hz2,CelsV.append celV_leaf (celV_one (celV_ty (sl_blk (m:=1) hkF ⟨hkF.lt,own_two hz2.rt rfl hkF,Hf.out _ (by have:=hz1.bel.size; exact this)⟩ (celV_one celV_leaf) rfl (by omega))))⟩
        · skip
          obtain rfl:l=[(1,(leafT 5 0)),(1,(leafT 4 0))]:=Option.some.inj (show some l=some [(1,(leafT 5 0)),(1,(leafT 4 0))] from(congrArg (Option.map fun(c:ByteArray × Nat × List (Int × TyD))=>c.2.2) Hc.out).symm)
          have x0:W1.cell? ⟨lo+3,0,none⟩=some (.int .u8 5):=(Hz.out.bel.cell (p:=⟨lo+3,0,none⟩) (by show lo+3<W0.heap.size; have:=HG.out.hi; omega)).trans (HG.out.bf.cell 0)
          have x1:W1.cell? ⟨lo+3,1,none⟩=some (.int .i64 0):=(Hz.out.bel.cell (p:=⟨lo+3,1,none⟩) (by show lo+3<W0.heap.size; have:=HG.out.hi; omega)).trans (HG.out.bf.cell 1)
          have x2:W1.cell? ⟨lo+3,2,none⟩=some (.int .i64 0):=(Hz.out.bel.cell (p:=⟨lo+3,2,none⟩) (by show lo+3<W0.heap.size; have:=HG.out.hi; omega)).trans (HG.out.bf.cell 2)
          have x3:W1.cell? ⟨lo+3,3,none⟩=some (.int .u8 0):=(Hz.out.bel.cell (p:=⟨lo+3,3,none⟩) (by show lo+3<W0.heap.size; have:=HG.out.hi; omega)).trans (HG.out.bf.cell 3)
          have x4:W1.cell? ⟨lo+3,4,none⟩=some (.slice none 0 0):=(Hz.out.bel.cell (p:=⟨lo+3,4,none⟩) (by show lo+3<W0.heap.size; have:=HG.out.hi; omega)).trans (HG.out.bf.cell 4)
          go_wp2_with fail;refine(add13_any W0 W1 nm n 0 _ _ none 0 none 0 1 (leafT 5 0) none 0 0 (by omega) Hz.out rfl).mono ?_;rintro e w20 ⟨rfl,A1,c1,B1,d1,hz1,hf1⟩;clear x0 x1 x2 x3 x4;go_wp2_with fail;refine(add13_any W0 w20 nm n 1 _ _ A1 c1 B1 d1 1 (leafT 4 0) none 0 0 (by omega) hz1 rfl).mono ?_;rintro e w21 ⟨rfl,A2,c2,B2,d2,hz2,hf2⟩;go_wp2_with fail;go_meet;exact⟨_,_,_,_,_,hz2,CelsV.append celV_leaf (celV_one celV_leaf)⟩
        · skip
          obtain rfl:l=[(1,(leafT 4 0))]:=Option.some.inj (show some l=some [(1,(leafT 4 0))] from(congrArg (Option.map fun(c:ByteArray × Nat × List (Int × TyD))=>c.2.2) Hc.out).symm)
          go_wp2_with fail;refine(add13_any W0 W1 nm n 0 _ _ none 0 none 0 1 (leafT 4 0) none 0 0 (by omega) Hz.out rfl).mono ?_;rintro e w20 ⟨rfl,A1,c1,B1,d1,hz1,hf1⟩;go_wp2_with fail;go_meet;exact⟨_,_,_,_,_,hz1,celV_one celV_leaf⟩
        · skip
          obtain rfl:l=[(3,(leafT 3 0)),(1,(leafT 5 0))]:=Option.some.inj (show some l=some [(3,(leafT 3 0)),(1,(leafT 5 0))] from(congrArg (Option.map fun(c:ByteArray × Nat × List (Int × TyD))=>c.2.2) Hc.out).symm)
          go_wp2_with fail;refine(add13_any W0 W1 nm n 0 _ _ none 0 none 0 3 (leafT 3 0) none 0 0 (by omega) Hz.out rfl).mono ?_;rintro e w20 ⟨rfl,A1,c1,B1,d1,hz1,hf1⟩
          have x0:w20.cell? ⟨lo+3,0,none⟩=some (.int .u8 5):=(hz1.bel.cell (p:=⟨lo+3,0,none⟩) (by show lo+3<W0.heap.size; have:=HG.out.hi; omega)).trans (HG.out.bf.cell 0)
          have x1:w20.cell? ⟨lo+3,1,none⟩=some (.int .i64 0):=(hz1.bel.cell (p:=⟨lo+3,1,none⟩) (by show lo+3<W0.heap.size; have:=HG.out.hi; omega)).trans (HG.out.bf.cell 1)
          have x2:w20.cell? ⟨lo+3,2,none⟩=some (.int .i64 0):=(hz1.bel.cell (p:=⟨lo+3,2,none⟩) (by show lo+3<W0.heap.size; have:=HG.out.hi; omega)).trans (HG.out.bf.cell 2)
          have x3:w20.cell? ⟨lo+3,3,none⟩=some (.int .u8 0):=(hz1.bel.cell (p:=⟨lo+3,3,none⟩) (by show lo+3<W0.heap.size; have:=HG.out.hi; omega)).trans (HG.out.bf.cell 3)
          have x4:w20.cell? ⟨lo+3,4,none⟩=some (.slice none 0 0):=(hz1.bel.cell (p:=⟨lo+3,4,none⟩) (by show lo+3<W0.heap.size; have:=HG.out.hi; omega)).trans (HG.out.bf.cell 4)
          go_wp2_with fail;refine(add13_any W0 w20 nm n 1 _ _ A1 c1 B1 d1 1 (leafT 5 0) none 0 0 (by omega) hz1 rfl).mono ?_;rintro e w21 ⟨rfl,A2,c2,B2,d2,hz2,hf2⟩;clear x0 x1 x2 x3 x4;go_wp2_with fail;go_meet;exact⟨_,_,_,_,_,hz2,CelsV.append celV_leaf (celV_one celV_leaf)⟩
        · skip
          obtain rfl:l=[(1,(leafT 5 0))]:=Option.some.inj (show some l=some [(1,(leafT 5 0))] from(congrArg (Option.map fun(c:ByteArray × Nat × List (Int × TyD))=>c.2.2) Hc.out).symm)
          have x0:W1.cell? ⟨lo+3,0,none⟩=some (.int .u8 5):=(Hz.out.bel.cell (p:=⟨lo+3,0,none⟩) (by show lo+3<W0.heap.size; have:=HG.out.hi; omega)).trans (HG.out.bf.cell 0)
          have x1:W1.cell? ⟨lo+3,1,none⟩=some (.int .i64 0):=(Hz.out.bel.cell (p:=⟨lo+3,1,none⟩) (by show lo+3<W0.heap.size; have:=HG.out.hi; omega)).trans (HG.out.bf.cell 1)
          have x2:W1.cell? ⟨lo+3,2,none⟩=some (.int .i64 0):=(Hz.out.bel.cell (p:=⟨lo+3,2,none⟩) (by show lo+3<W0.heap.size; have:=HG.out.hi; omega)).trans (HG.out.bf.cell 2)
          have x3:W1.cell? ⟨lo+3,3,none⟩=some (.int .u8 0):=(Hz.out.bel.cell (p:=⟨lo+3,3,none⟩) (by show lo+3<W0.heap.size; have:=HG.out.hi; omega)).trans (HG.out.bf.cell 3)
          have x4:W1.cell? ⟨lo+3,4,none⟩=some (.slice none 0 0):=(Hz.out.bel.cell (p:=⟨lo+3,4,none⟩) (by show lo+3<W0.heap.size; have:=HG.out.hi; omega)).trans (HG.out.bf.cell 4)
          go_wp2_with fail;refine(add13_any W0 W1 nm n 0 _ _ none 0 none 0 1 (leafT 5 0) none 0 0 (by omega) Hz.out rfl).mono ?_;rintro e w20 ⟨rfl,A1,c1,B1,d1,hz1,hf1⟩;clear x0 x1 x2 x3 x4;go_wp2_with fail;go_meet;exact⟨_,_,_,_,_,hz1,celV_one celV_leaf⟩
        · skip
          obtain rfl:l=[(1,(leafT 5 0))]:=Option.some.inj (show some l=some [(1,(leafT 5 0))] from(congrArg (Option.map fun(c:ByteArray × Nat × List (Int × TyD))=>c.2.2) Hc.out).symm)
          have x0:W1.cell? ⟨lo+3,0,none⟩=some (.int .u8 5):=(Hz.out.bel.cell (p:=⟨lo+3,0,none⟩) (by show lo+3<W0.heap.size; have:=HG.out.hi; omega)).trans (HG.out.bf.cell 0)
          have x1:W1.cell? ⟨lo+3,1,none⟩=some (.int .i64 0):=(Hz.out.bel.cell (p:=⟨lo+3,1,none⟩) (by show lo+3<W0.heap.size; have:=HG.out.hi; omega)).trans (HG.out.bf.cell 1)
          have x2:W1.cell? ⟨lo+3,2,none⟩=some (.int .i64 0):=(Hz.out.bel.cell (p:=⟨lo+3,2,none⟩) (by show lo+3<W0.heap.size; have:=HG.out.hi; omega)).trans (HG.out.bf.cell 2)
          have x3:W1.cell? ⟨lo+3,3,none⟩=some (.int .u8 0):=(Hz.out.bel.cell (p:=⟨lo+3,3,none⟩) (by show lo+3<W0.heap.size; have:=HG.out.hi; omega)).trans (HG.out.bf.cell 3)
          have x4:W1.cell? ⟨lo+3,4,none⟩=some (.slice none 0 0):=(Hz.out.bel.cell (p:=⟨lo+3,4,none⟩) (by show lo+3<W0.heap.size; have:=HG.out.hi; omega)).trans (HG.out.bf.cell 4)
          go_wp2_with fail;refine(add13_any W0 W1 nm n 0 _ _ none 0 none 0 1 (leafT 5 0) none 0 0 (by omega) Hz.out rfl).mono ?_;rintro e w20 ⟨rfl,A1,c1,B1,d1,hz1,hf1⟩;clear x0 x1 x2 x3 x4;go_wp2_with fail;go_meet;exact⟨_,_,_,_,_,hz1,celV_one celV_leaf⟩
        · skip
          obtain rfl:l=[(1,(.mk 6 0 0 0 [(leafT 1 0)])),(3,(leafT 1 0))]:=Option.some.inj (show some l=some [(1,(.mk 6 0 0 0 [(leafT 1 0)])),(3,(leafT 1 0))] from(congrArg (Option.map fun(c:ByteArray × Nat × List (Int × TyD))=>c.2.2) Hc.out).symm)
          have x0:W1.cell? ⟨lo+5,0,none⟩=some (.int .u8 6):=(Hz.out.bel.cell (p:=⟨lo+5,0,none⟩) (by show lo+5<W0.heap.size; have:=HG.out.hi; omega)).trans (HG.out.bx.cell 0)
          have x1:W1.cell? ⟨lo+5,1,none⟩=some (.int .i64 0):=(Hz.out.bel.cell (p:=⟨lo+5,1,none⟩) (by show lo+5<W0.heap.size; have:=HG.out.hi; omega)).trans (HG.out.bx.cell 1)
          have x2:W1.cell? ⟨lo+5,2,none⟩=some (.int .i64 0):=(Hz.out.bel.cell (p:=⟨lo+5,2,none⟩) (by show lo+5<W0.heap.size; have:=HG.out.hi; omega)).trans (HG.out.bx.cell 2)
          have x3:W1.cell? ⟨lo+5,3,none⟩=some (.int .u8 0):=(Hz.out.bel.cell (p:=⟨lo+5,3,none⟩) (by show lo+5<W0.heap.size; have:=HG.out.hi; omega)).trans (HG.out.bx.cell 3)
          have x4:W1.cell? ⟨lo+5,4,none⟩=some (.slice (some ⟨lo+4,0,none⟩) 1 1):=(Hz.out.bel.cell (p:=⟨lo+5,4,none⟩) (by show lo+5<W0.heap.size; have:=HG.out.hi; omega)).trans (HG.out.bx.cell 4)
          go_wp2_with fail;refine(add13_any W0 W1 nm n 0 _ _ none 0 none 0 1 (.mk 6 0 0 0 [(leafT 1 0)]) (some ⟨lo+4,0,none⟩) 1 1 (by omega) Hz.out rfl).mono ?_;rintro e w20 ⟨rfl,A1,c1,B1,d1,hz1,hf1⟩;clear x0 x1 x2 x3 x4
          have x0:w20.cell? ⟨lo+2,0,none⟩=some (.int .u8 1):=(hz1.bel.cell (p:=⟨lo+2,0,none⟩) (by show lo+2<W0.heap.size; have:=HG.out.hi; omega)).trans (HG.out.ba.cell 0)
          have x1:w20.cell? ⟨lo+2,1,none⟩=some (.int .i64 0):=(hz1.bel.cell (p:=⟨lo+2,1,none⟩) (by show lo+2<W0.heap.size; have:=HG.out.hi; omega)).trans (HG.out.ba.cell 1)
          have x2:w20.cell? ⟨lo+2,2,none⟩=some (.int .i64 0):=(hz1.bel.cell (p:=⟨lo+2,2,none⟩) (by show lo+2<W0.heap.size; have:=HG.out.hi; omega)).trans (HG.out.ba.cell 2)
          have x3:w20.cell? ⟨lo+2,3,none⟩=some (.int .u8 0):=(hz1.bel.cell (p:=⟨lo+2,3,none⟩) (by show lo+2<W0.heap.size; have:=HG.out.hi; omega)).trans (HG.out.ba.cell 3)
          have x4:w20.cell? ⟨lo+2,4,none⟩=some (.slice none 0 0):=(hz1.bel.cell (p:=⟨lo+2,4,none⟩) (by show lo+2<W0.heap.size; have:=HG.out.hi; omega)).trans (HG.out.ba.cell 4)
          go_wp2_with fail;refine(add13_any W0 w20 nm n 1 _ _ A1 c1 B1 d1 3 (leafT 1 0) none 0 0 (by omega) hz1 rfl).mono ?_;rintro e w21 ⟨rfl,A2,c2,B2,d2,hz2,hf2⟩;clear x0 x1 x2 x3 x4;go_wp2_with fail;go_meet;have hbr:Blk w21 (lo+4) 63 #[.int .u8 1,.int .i64 0,.int .i64 0,.int .u8 0,.slice none 0 0]:=HG.out.br.below hz2.bel HG.out.br.lt
          have hbS:lo+4<w21.heap.size∧some (lo+4)≠(Value.slice A2 2 c2).ownBlock∧¬ _:=⟨hbr.lt,fun e=>by have:=(own_lt hz2.rt e.symm).1; have:=HG.out.br.lt; omega,Hn.out (lo+4) (by omega)⟩
          exact⟨_,_,_,_,_,hz2,CelsV.append (celV_ty (sl_blk (m:=1) hbr hbS (celV_one celV_leaf) rfl (by omega))) (celV_one celV_leaf)⟩
        · skip
          obtain rfl:l=[(1,(.mk 6 0 0 0 [(leafT 1 0)])),(3,(leafT 2 0))]:=Option.some.inj (show some l=some [(1,(.mk 6 0 0 0 [(leafT 1 0)])),(3,(leafT 2 0))] from(congrArg (Option.map fun(c:ByteArray × Nat × List (Int × TyD))=>c.2.2) Hc.out).symm)
          have x0:W1.cell? ⟨lo+5,0,none⟩=some (.int .u8 6):=(Hz.out.bel.cell (p:=⟨lo+5,0,none⟩) (by show lo+5<W0.heap.size; have:=HG.out.hi; omega)).trans (HG.out.bx.cell 0)
          have x1:W1.cell? ⟨lo+5,1,none⟩=some (.int .i64 0):=(Hz.out.bel.cell (p:=⟨lo+5,1,none⟩) (by show lo+5<W0.heap.size; have:=HG.out.hi; omega)).trans (HG.out.bx.cell 1)
          have x2:W1.cell? ⟨lo+5,2,none⟩=some (.int .i64 0):=(Hz.out.bel.cell (p:=⟨lo+5,2,none⟩) (by show lo+5<W0.heap.size; have:=HG.out.hi; omega)).trans (HG.out.bx.cell 2)
          have x3:W1.cell? ⟨lo+5,3,none⟩=some (.int .u8 0):=(Hz.out.bel.cell (p:=⟨lo+5,3,none⟩) (by show lo+5<W0.heap.size; have:=HG.out.hi; omega)).trans (HG.out.bx.cell 3)
          have x4:W1.cell? ⟨lo+5,4,none⟩=some (.slice (some ⟨lo+4,0,none⟩) 1 1):=(Hz.out.bel.cell (p:=⟨lo+5,4,none⟩) (by show lo+5<W0.heap.size; have:=HG.out.hi; omega)).trans (HG.out.bx.cell 4)
          go_wp2_with fail;refine(add13_any W0 W1 nm n 0 _ _ none 0 none 0 1 (.mk 6 0 0 0 [(leafT 1 0)]) (some ⟨lo+4,0,none⟩) 1 1 (by omega) Hz.out rfl).mono ?_;rintro e w20 ⟨rfl,A1,c1,B1,d1,hz1,hf1⟩;clear x0 x1 x2 x3 x4;go_wp2_with fail;refine(add13_any W0 w20 nm n 1 _ _ A1 c1 B1 d1 3 (leafT 2 0) none 0 0 (by omega) hz1 rfl).mono ?_;rintro e w21 ⟨rfl,A2,c2,B2,d2,hz2,hf2⟩;go_wp2_with fail;go_meet;have hbr:Blk w21 (lo+4) 63 #[.int .u8 1,.int .i64 0,.int .i64 0,.int .u8 0,.slice none 0 0]:=HG.out.br.below hz2.bel HG.out.br.lt
          have hbS:lo+4<w21.heap.size∧some (lo+4)≠(Value.slice A2 2 c2).ownBlock∧¬ _:=⟨hbr.lt,fun e=>by have:=(own_lt hz2.rt e.symm).1; have:=HG.out.br.lt; omega,Hn.out (lo+4) (by omega)⟩
          exact⟨_,_,_,_,_,hz2,CelsV.append (celV_ty (sl_blk (m:=1) hbr hbS (celV_one celV_leaf) rfl (by omega))) (celV_one celV_leaf)⟩
        · skip
          obtain rfl:l=[(1,(leafT 5 0))]:=Option.some.inj (show some l=some [(1,(leafT 5 0))] from(congrArg (Option.map fun(c:ByteArray × Nat × List (Int × TyD))=>c.2.2) Hc.out).symm)
          have x0:W1.cell? ⟨lo+3,0,none⟩=some (.int .u8 5):=(Hz.out.bel.cell (p:=⟨lo+3,0,none⟩) (by show lo+3<W0.heap.size; have:=HG.out.hi; omega)).trans (HG.out.bf.cell 0)
          have x1:W1.cell? ⟨lo+3,1,none⟩=some (.int .i64 0):=(Hz.out.bel.cell (p:=⟨lo+3,1,none⟩) (by show lo+3<W0.heap.size; have:=HG.out.hi; omega)).trans (HG.out.bf.cell 1)
          have x2:W1.cell? ⟨lo+3,2,none⟩=some (.int .i64 0):=(Hz.out.bel.cell (p:=⟨lo+3,2,none⟩) (by show lo+3<W0.heap.size; have:=HG.out.hi; omega)).trans (HG.out.bf.cell 2)
          have x3:W1.cell? ⟨lo+3,3,none⟩=some (.int .u8 0):=(Hz.out.bel.cell (p:=⟨lo+3,3,none⟩) (by show lo+3<W0.heap.size; have:=HG.out.hi; omega)).trans (HG.out.bf.cell 3)
          have x4:W1.cell? ⟨lo+3,4,none⟩=some (.slice none 0 0):=(Hz.out.bel.cell (p:=⟨lo+3,4,none⟩) (by show lo+3<W0.heap.size; have:=HG.out.hi; omega)).trans (HG.out.bf.cell 4)
          go_wp2_with fail;refine(add13_any W0 W1 nm n 0 _ _ none 0 none 0 1 (leafT 5 0) none 0 0 (by omega) Hz.out rfl).mono ?_;rintro e w20 ⟨rfl,A1,c1,B1,d1,hz1,hf1⟩;clear x0 x1 x2 x3 x4;go_wp2_with fail;go_meet;exact⟨_,_,_,_,_,hz1,celV_one celV_leaf⟩
        · skip
          obtain rfl:l=[(1,(leafT 5 0))]:=Option.some.inj (show some l=some [(1,(leafT 5 0))] from(congrArg (Option.map fun(c:ByteArray × Nat × List (Int × TyD))=>c.2.2) Hc.out).symm)
          have x0:W1.cell? ⟨lo+3,0,none⟩=some (.int .u8 5):=(Hz.out.bel.cell (p:=⟨lo+3,0,none⟩) (by show lo+3<W0.heap.size; have:=HG.out.hi; omega)).trans (HG.out.bf.cell 0)
          have x1:W1.cell? ⟨lo+3,1,none⟩=some (.int .i64 0):=(Hz.out.bel.cell (p:=⟨lo+3,1,none⟩) (by show lo+3<W0.heap.size; have:=HG.out.hi; omega)).trans (HG.out.bf.cell 1)
          have x2:W1.cell? ⟨lo+3,2,none⟩=some (.int .i64 0):=(Hz.out.bel.cell (p:=⟨lo+3,2,none⟩) (by show lo+3<W0.heap.size; have:=HG.out.hi; omega)).trans (HG.out.bf.cell 2)
          have x3:W1.cell? ⟨lo+3,3,none⟩=some (.int .u8 0):=(Hz.out.bel.cell (p:=⟨lo+3,3,none⟩) (by show lo+3<W0.heap.size; have:=HG.out.hi; omega)).trans (HG.out.bf.cell 3)
          have x4:W1.cell? ⟨lo+3,4,none⟩=some (.slice none 0 0):=(Hz.out.bel.cell (p:=⟨lo+3,4,none⟩) (by show lo+3<W0.heap.size; have:=HG.out.hi; omega)).trans (HG.out.bf.cell 4)
          go_wp2_with fail;refine(add13_any W0 W1 nm n 0 _ _ none 0 none 0 1 (leafT 5 0) none 0 0 (by omega) Hz.out rfl).mono ?_;rintro e w20 ⟨rfl,A1,c1,B1,d1,hz1,hf1⟩;clear x0 x1 x2 x3 x4;go_wp2_with fail;go_meet;exact⟨_,_,_,_,_,hz1,celV_one celV_leaf⟩
       case rest=>
       obtain⟨cs,A5,c5,A6,c6,hz,hcs⟩:=hcut;obtain⟨wx,hwx⟩:∃ q,q=wc:=⟨_,rfl⟩;subst hwx;clear HW1 hHeld d0 Hz;have hsz:=hz.bel.size;have hgx:=HG.out.below hz.bel
       have hrow:∀ b,((Value.slice Ac k cc).ownBlock=some b∨Apart (fun b=>b<w.heap.size+4) (.slice Ad 9 cd) vs b)→b<W0.heap.size:=fun b h=>by
        have hl:=HG.out.lo4;have hh:=HG.out.hi
        rcases h with h | h | h | h
        · exact(HG.out.sm.rows (Or.inr (Or.inl h))).2
        · omega
        · exact(HG.out.sm.rows (Or.inl h)).2
        · exact(HG.out.sm.rows (Or.inr (Or.inr h))).2
       have HcV:=qq ((con_cels hz hcs (fun b hb h=>by have:=hrow b h; omega)).keep (S':=fun b=>b<wx.heap.size∧some b≠(Value.slice Ac k cc).ownBlock∧¬ Apart (fun b=>b<w.heap.size+4) (.slice Ad 9 cd) vs b) (fun b hb=>⟨hb.1,fun e=>hb.2 (Or.inl e.symm),fun h=>hb.2 (Or.inr h)⟩) fun _ _=>rfl)
       have hoc:=hgx.sm.oc;rw[gv_clen hk] at hoc;have Hoc:=qq hoc;have x1:wx.cell? ⟨w.heap.size+1,1,none⟩=some (.slice Ac k cc):=hgx.bk.cell 1;have y0:wx.cell? ⟨W0.heap.size,0,none⟩=some (.string nm):=hz.bx.cell 0;have y1:wx.cell? ⟨W0.heap.size,1,none⟩=some (.int .i64 (n:Nat)):=hz.bx.cell 1;have y2:wx.cell? ⟨W0.heap.size,2,none⟩=some (.slice A5 l.length c5):=hz.bx.cell 2;have y3:wx.cell? ⟨W0.heap.size,3,none⟩=some (.slice A6 l.length c6):=hz.bx.cell 3;have hno1:some (w.heap.size+1)≠(Value.slice Ac k cc).ownBlock:=fun e=>hgx.no (Or.inl (by omega)) (Or.inr (Or.inl e.symm))
       have hb4:w.heap.size+4≤wx.heap.size:=by have:=hgx.hi; have:=hgx.lo4; omega
       have HGx:=qq hgx;obtain⟨l0,hl0,ha0,ha1,ha2⟩:=info_parts conInfo;clear hz hcs hrow hgx hoc hsz HG
       go_upto_region 44 with (at_builtin; refine wpList_append_cel (B0:=w.heap.size+4) wx wx rfl (.tmp 100) (.tmp 102) 23 rfl (w.heap.size+4) 58 l0 _ 4 72 Tryd.underlying23 hl0 ha0 ha1 ha2 rfl (by omega) (Apart (fun b=>b<w.heap.size+4) (.slice Ad 9 cd) vs) (.slice Ac k cc) k _ rfl [.string nm,.int .i64 (n:Nat),.slice A5 l.length c5,.slice A6 l.length c6] _ rfl (by intro u hu; simp at hu; rcases hu with rfl | rfl | rfl | rfl <;> rfl) rfl Hoc.out HcV.out (by unfold maxLen; omega) (by omega) (Below.refl _ _) (Nat.le_refl _) hb4 ?_; intro A8 c8 w8 ho8 hbel8 hg8 hsz8 hn8; have hG9:=HGx.out.con (vc':=.slice A8 (k+1) c8) (c:=⟨nm,n,l.map Prod.snd,l.map Prod.fst⟩) (by rw[gv_clen hk]; exact ho8) hg8 hsz8 hn8; have x1:w8.cell? ⟨w.heap.size+1,1,none⟩=some (.slice Ac k cc):=(HGx.out.bk.grown hg8 hno1).cell 1; have f1:=(HGx.out.bk.grown hg8 hno1).frozen 1)
       obtain⟨w9,hw9⟩:∃ q,w8.setCell ⟨w.heap.size+1,1,none⟩ (.slice A8 (k+1) c8)=q:=⟨_,rfl⟩;rw[hw9] at hG9 ⊢;have HG9:=qq hG9;clear x1 f1 ho8 hbel8 hg8 hsz8 hn8 hw9 hG9 y0 y1 y2 y3 hno1 HGx HcV Hoc hl0 ha0 ha1 ha2
       have hds:w9.ownsRow (w.heap.size+4) 52 3 (.slice Ad 9 cd) 9 (dCells (gv k).datas vs):=by
        have h:=HG9.out.sm.od;simp only[gv_datas] at h;exact h
       obtain⟨gd,rfl,hgd,hgd1,hgd2,hdc,hdf⟩:=own_addr hds (by omega)
       have hnd:n<(gv k).datas.length:=by rw[gv_datas]; exact hn9
       have hnv:n<vs.length:=by rw[HG9.out.sm.len]; exact hnd
       have hcell:=hdc (n * 3+2) _ (dCells_get HG9.out.sm.len n hnd hnv).2.2;obtain⟨Av,cv,hv⟩:=ownsRow_form (HG9.out.sm.oi n hnv hnd);have hoi:=HG9.out.sm.oi n hnv hnd;have hvm:=List.getElem_mem hnv;replace hv:vs[n]=.slice Av (gv k).datas[n].cons.length cv:=hv;rw[hv] at hcell hoi;have hcl:(gv k).datas[n].cons.length≤15:=gv_nums k _ (List.getElem_mem hnd);have hy0:w9.cell? ⟨w.heap.size+1,0,none⟩=some (.slice (some ⟨gd,0,none⟩) 9 cd):=HG9.out.bk.cell 0
       have hy1:w9.cell? ⟨lo+1,k,none⟩=some (.int .i64 (n:Nat)):=by rw[HG9.out.bo.cell k]; exact Hc2.out
       have n1:(0:Int)≤(n:Int):=by omega
       have n2:(n:Int)<9:=by omega
       have hnoV:∀ b,(b<w.heap.size+4∨lo≤b∧b<lo+6)→some b≠(Value.slice Av (gv k).datas[n].cons.length cv).ownBlock:=fun b h1 e=>HG9.out.no h1 (Or.inr (Or.inr ⟨vs[n],hvm,by rw[hv]; exact e.symm⟩))
       have hgdv:some gd≠(Value.slice Av (gv k).datas[n].cons.length cv).ownBlock:=fun e=>HG9.out.sm.sd gd hgd vs[n] hvm (by rw[hv]; exact e.symm)
       have HnoV:=qq hnoV;have Hgdv:=qq hgdv;have Hv:=qq hv;obtain⟨p0,hp0,hq0,hq1,hq2⟩:=info_parts int13Info;go_upto_region 44 with fail;refine wp_region_noPanic ?_;refine wp_region_T (fun w'=>w'.cell? ⟨w.heap.size+1,0,none⟩=some (.slice (some ⟨gd,0,none⟩) 9 cd)∧w'.cell? ⟨lo+1,k,none⟩=some (.int .i64 (n:Nat))∧w'.cell? ⟨gd,n * 3+2,none⟩=some (.slice Av (gv k).datas[n].cons.length cv)) 16 (by kernel_rfl) ⟨hy0,hy1,hcell⟩ (fun hHeld=>?_);have hbd:Below w9.heap.size w9 w9.drew:=Below.drew (Below.refl _ _);have hgd9:=HG9.out.below hbd;have hoi2:=ownsRow_beyond hoi hbd;have hgdd:gd<w9.drew.heap.size:=hgd2;have hfz:∀ j,w9.drew.frozen? ⟨gd,j,none⟩=false:=hdf;clear hbd hcell hoi hdc hdf hgd2 hy0 hy1 hds hnoV hgdv hv HG9;generalize w9.drew=W2 at hHeld hgd9 hoi2 hgdd hfz ⊢;have hbI:=below_box (w:=W2) (Obj.cells #[.int .i64 k] 3);have HGI:=qq (hgd9.below hbI);have HoI:=qq (ownsRow_beyond hoi2 hbI);have HrI:=qq (rd_newk W2 [.int .i64 k] 1 rfl 3);have HzI:Hid ((W2.alloc (Obj.cells #[.int .i64 k] 3)).heap.size=W2.heap.size+1):=qq (by simp);have HhI:=qq (And.intro ((hbI.cell (block_lt_of_cell hHeld.1)).trans hHeld.1) (And.intro ((hbI.cell (block_lt_of_cell hHeld.2.1)).trans hHeld.2.1) ((hbI.cell (block_lt_of_cell hHeld.2.2)).trans hHeld.2.2)));have Hfz:=qq hfz;have hlk:=hgd9.lo4;have hhk:=hgd9.hi;clear hgd9 hoi2 hbI hfz;refine nx0 0 ?_
       iterate 14 (refine nx (v:=?_) rfl (by kernel_rfl) (fun _ _ _ h=>h) (by kernel_rfl) ?_ (by assumption) ?_; rotate_left; (focus (intro w hSw; (try dsimp only at hSw); first | (go_simp; done) | (go_simp; with_reducible rfl))); try simp only[Act.put,qg,qe,qf,qd,qh,qi,Nat.reduceAdd])
       refine nx9 ?_;refine wpAnyT_step (i:=14) (by kernel_rfl) rfl (fun K hK=>?_);go_simp;refine hK.out _ _ HhI.out ?_;clear hK K
       try simp only[Act.put,qg,qe,qf,qd,qh,qi]
       refine wpAnyT_step (i:=15) (by kernel_rfl) rfl (fun K hK=>?_)
       (refine step_append_rd _ (by rfl) (.tmp 117) (.tmp 119) 50 (by rfl) (w.heap.size+4) 3 p0 _ 1 8 Tryd.underlying50 hp0 hq0 hq1 hq2 rfl (by omega) (.slice Av (gv k).datas[n].cons.length cv) (gv k).datas[n].cons.length _ (by rfl) HoI.out _ _ 1 1 [.int .i64 k] (by rfl) HrI.out (by intro u hu; simp at hu; subst hu; rfl) (by unfold maxLen; omega) (by omega) (by have:=HzI.out; omega) ?_; intro v7 wZ ho7 hg7 hat7; obtain⟨A9,c9,rfl⟩:=ownsRow_form ho7)
       refine hK.out _ _ (⟨(World.cell?_of_block (hg7.block _ (by have:=HzI.out; show w.heap.size+1<_; omega) (HnoV.out (w.heap.size+1) (Or.inl (by omega))))).trans HhI.out.1,(World.cell?_of_block (hg7.block _ (by have:=HzI.out; show lo+1<_; omega) (HnoV.out (lo+1) (Or.inr (by omega))))).trans HhI.out.2.1,(World.cell?_of_block (hg7.block _ (by have:=HzI.out; show gd<_; omega) Hgdv.out)).trans HhI.out.2.2⟩) ?_
       clear hK K
       try simp only[Act.put,qg,qe,qf,qd,qh,qi]
       have hgI:gd<(W2.alloc (Obj.cells #[.int .i64 k] 3)).heap.size:=by have:=HzI.out; omega
       have hbZ:wZ.heap[gd]?=W2.heap[gd]?:=(hg7.block gd hgI Hgdv.out).trans (Below.heap_alloc _ _ _ hgdd)
       have fz:wZ.frozen? ⟨gd,n * 3+2,none⟩=false:=by
        have h:=Hfz.out (n * 3+2);unfold World.frozen? at h ⊢
        rw[show wZ.heap[(⟨gd,n * 3+2,none⟩:Addr).block]?=W2.heap[(⟨gd,n * 3+2,none⟩:Addr).block]? from hbZ]
        exact h
       have xz:wZ.cell? ⟨gd,n * 3+2,none⟩=some (.slice Av (gv k).datas[n].cons.length cv):=(World.cell?_of_block (hg7.block gd hgI Hgdv.out)).trans HhI.out.2.2
       have hgN:=HGI.out.num hnd (v':=.slice A9 ((gv k).datas[n].cons.length+1) c9) (x:=(k:Int)) hnv ho7 (by rw[Hv.out]; exact hg7) (by rw[Hv.out]; exact hat7.imp id fun e=>⟨_,e,Nat.le_refl _⟩) hgd
       have HGN:=qq hgN;clear hgN ho7 hg7 hat7 hbZ hgI HGI HoI HrI HzI HhI Hfz;refine wpAnyT_seq 16 (by omega) (by rfl) (by kernel_rfl) ?_;simp only[List.drop_succ_cons,List.drop_zero];go_wp2_with fail;refine NoPanic.normal ?_;clear fz xz;go_wp2_with fail;go_roundg (15 - (k+1))
       case measure=>omega
       case rel=>exact⟨k+1,_,_,_,by omega,rfl,by go_num,by
        have e:gv (k+1)=⟨(gv k).datas.modify n fun d => { d with cons:=d.cons++[(k:Int)] },(gv k).cons++[⟨nm,n,l.map Prod.snd,l.map Prod.fst⟩]⟩:=by
         rw[gv_step Hc.out];unfold gvAdd addCon;rw[gv_clen hk]
        rw[e]
        exact HGN.out⟩
     · obtain rfl:k=15:=by omega
       obtain⟨Ad,cd,hvd⟩:=ownsRow_form hg.sm.od;rw[gv_datas] at hvd;subst hvd;obtain⟨Ac,cc,hvc⟩:=hg.sm.oc.form;rw[gv_clen hk] at hvc;subst hvc;have x0:w7.cell? ⟨w.heap.size+1,0,none⟩=some (.slice Ad 9 cd):=hg.bk.cell 0;have x1:w7.cell? ⟨w.heap.size+1,1,none⟩=some (.slice Ac 15 cc):=hg.bk.cell 1;have y0:w7.cell? ⟨w.heap.size,0,none⟩=some (.slice none 0 0):=hg.r0.cell 0;have y1:w7.cell? ⟨w.heap.size,1,none⟩=some (.slice none 0 0):=hg.r0.cell 1;have f0:=hg.r0.frozen 0;have f1:=hg.r0.frozen 1;have hno:¬ RowB (.slice Ad 9 cd) (.slice Ac 15 cc) vs w.heap.size:=hg.no (Or.inl (by omega))
       have hs:=(hg.sm.setR (p:=⟨w.heap.size,0,none⟩) hno (by show w.heap.size<w.heap.size+4; omega) (.slice Ad 9 cd)).setR (p:=⟨w.heap.size,1,none⟩) hno (by show w.heap.size<w.heap.size+4; omega) (.slice Ac 15 cc)
       have hbf:=(hg.bel.setCell (p:=⟨w.heap.size,0,none⟩) (Nat.le_refl _) (.slice Ad 9 cd)).setCell (p:=⟨w.heap.size,1,none⟩) (Nat.le_refl _) (.slice Ac 15 cc);have hkf:=(hg.r0.set_ 0 (.slice Ad 9 cd)).set_ 1 (.slice Ac 15 cc);have Hs:=qq hs;have Hbf:=qq hbf;have Hkf:=qq hkf;clear hs hbf hkf hno hg;go_wp2_with fail;have hs:=Hs.out;have hb9:=Hbf.out;have hkf:=Hkf.out;generalize (w7.setCell ⟨w.heap.size,0,none⟩ (.slice Ad 9 cd)).setCell ⟨w.heap.size,1,none⟩ (.slice Ac 15 cc)=W9 at hs hb9 hkf ⊢;replace hkf:Blk W9 w.heap.size 25 #[.slice Ad 9 cd,.slice Ac 15 cc]:=hkf;have d0:W9.cell? ⟨w.heap.size,0,none⟩=some (.slice Ad 9 cd):=hkf.cell 0;have d1:W9.cell? ⟨w.heap.size,1,none⟩=some (.slice Ac 15 cc):=hkf.cell 1;exact bodyPost_ret (v:=.agg #[.slice Ad 9 cd,.slice Ac 15 cc]) (by simp[results,Tryd.results19,go_sem,d0,d1]) rfl ⟨_,_,_,_,_,rfl,hs,hb9⟩
theorem SigM.sigR {w:World} {base:Nat} {R:Nat→Prop} {s:SigD} {Ad Ac:Option Addr} {nd cd nc cc:Nat} {vs:List Value} (hs:SigM w base R s (.slice Ad nd cd) (.slice Ac nc cc) vs):SigR w (Lt w.heap.size) s Ad s.datas.length cd Ac s.cons.length cc:=
 ⟨hs.dsl (S:=Lt w.heap.size) (fun b e=>(hs.rows e).2),hs.csl (S:=Lt w.heap.size) (fun b hb _=>hb)⟩
end Go.Proofs.YtgpeijkjmkocgaaDoor
