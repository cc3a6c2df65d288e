import Derived.Test.YtdmakpmbknindaaGreatDoorM29
namespace Go.Proofs.YtdmakpmbknindaaGreatDoor
set_option linter.unusedVariables false
set_option linter.unusedSimpArgs false
open Go.RowKit
set_option maxRecDepth 100000 in
set_option maxHeartbeats 8000000 in
theorem turnC (fv:Int→Option TyD) (fm:Int→Int × Int) (p1 p2:Nat) (N:Nat):∀ (t:TyD),nodes t≤N→mayT t=true→∀ (A:Option Addr) (m cp:Nat) (w:World),TysV w w.heap.size A m cp t.l →
 (∀ (n:Int) (w':World),0≤n→Below w.heap.size w w'→Calls Tryz.prog 105 (#[.int .i64 n]++#[.pointer (some ⟨p1,0,none⟩)]) w' (VPost fv n w')) →
 (∀ (n:Int) (w':World),0≤n→Below w.heap.size w w'→Calls Tryz.prog 107 (#[.int .i64 n]++#[.pointer (some ⟨p2,0,none⟩)]) w' fun e w''=>e=.returned (.agg #[.int .i64 (fm n).1,.int .u8 (fm n).2])∧Below w'.heap.size w' w'') →
 Calls Tryz.prog 64 #[.agg #[.int .u8 t.k,.int .i64 t.n,.int .i64 t.v,.int .u8 t.c,.slice A m cp],.func (.func 105) #[] #[.pointer (some ⟨p1,0,none⟩)],.func (.func 107) #[] #[.pointer (some ⟨p2,0,none⟩)]] w (FreshT (turnT fv fm t) w):=by
 induction N with
 | zero=>intro t hN; exact absurd hN (by rw[nodes_eq t]; omega)
 | succ N ih=>
   intro t hN hm A m cp w hl hv hmu;have Ih:=qq ih;clear ih;have hlen:=hl.len
   have m4:m≤4:=by rw[← hlen]; exact mayT_len hm
   have hbx:Below w.heap.size w ((w.alloc (Obj.cells #[.int .u8 t.k,.int .i64 t.n,.int .i64 t.v,.int .u8 t.c,.slice A m cp] 27)).alloc (Obj.cells #[.int .u8 0,.int .i64 0,.int .i64 0,.int .u8 0,.slice none 0 0] 27)):=((Below.refl _ _).alloc (Nat.le_refl _) _).alloc (by simp) _;have hz:=(blk_new w #[.int .u8 t.k,.int .i64 t.n,.int .i64 t.v,.int .u8 t.c,.slice A m cp] 27).alloc (Obj.cells #[.int .u8 0,.int .i64 0,.int .i64 0,.int .u8 0,.slice none 0 0] 27);have hy:=blk_new (w.alloc (Obj.cells #[.int .u8 t.k,.int .i64 t.n,.int .i64 t.v,.int .u8 t.c,.slice A m cp] 27)) #[.int .u8 0,.int .i64 0,.int .i64 0,.int .u8 0,.slice none 0 0] 27;rw[World.size_alloc] at hy;obtain⟨W,hW⟩:∃ W,(w.alloc (Obj.cells #[.int .u8 t.k,.int .i64 t.n,.int .i64 t.v,.int .u8 t.c,.slice A m cp] 27)).alloc (Obj.cells #[.int .u8 0,.int .i64 0,.int .i64 0,.int .u8 0,.slice none 0 0] 27)=W:=⟨_,rfl⟩;rw[hW] at hbx hz hy;have HL:=qq ((hl.below hbx).more hbx.size);have HL0:=qq (hl.below hbx);have HW:=qq hW;have Hbx:=qq hbx;have Hz:=qq hz;have Hy:=qq hy;have HM:=qq hm;have HV:=qq hv;have HMu:=qq hmu
   have HN:Hid (∀ i (h:i<t.l.length),nodes t.l[i]≤N):=qq fun i h=>by have:=nodes_get h; omega
   have z0:=hz.cell 0;have z1:=hz.cell 1;have z2:=hz.cell 2;have z3:=hz.cell 3;have z4:=hz.cell 4;have hU:=turnT_eq fv fm t;have HU0:=qq hU;clear hl hbx hz hy hW hN hm hv hmu hU
   by_cases hk:t.k=1
   · have e70:=trivial
     clear e70
     have d1:(t.k==1)=true:=by simp[hk]
     have hn0:=mayT_n HM.out;have hleaf:=mayT_leaf HM.out hk;have hq:=HV.out t.n W hn0 Hbx.out;have Hq:=qq hq;have HU1:Hid (turnT fv fm t=(fv t.n).getD t):=qq (by rw[HU0.out,if_pos hk]);have Hleaf:=qq hleaf;clear hk hq hleaf HU0
     go_enter Tryz.func64,Tryz.ntmps64
     go_wp2_with fail;rw[HW.out]
     refine Hq.out.mono ?_; rintro e w3 ⟨x,A3,m3,c3,b,rfl,hx3,hfv,hb3⟩
     obtain⟨g2,hg2⟩:∃ g2,w.heap.size+1=g2:=⟨_,rfl⟩
     have hg2w:w.heap.size≤g2:=by omega
     have hWs:w.heap.size+1<W.heap.size:=Hy.out.lt;have hb0:Below w.heap.size w w3:=Hbx.out.trans (hb3.mono Hbx.out.size)
     cases b with
     | true=>
       have HU:Hid (turnT fv fm t=x):=qq (by rw[HU1.out,hfv]; rfl)
       have hbB:=below_box (w:=w3) (Obj.cells #[.int .u8 x.k,.int .i64 x.n,.int .i64 x.v,.int .u8 x.c,.slice A3 m3 c3] 27);have hx4:=blk_new w3 #[.int .u8 x.k,.int .i64 x.n,.int .i64 x.v,.int .u8 x.c,.slice A3 m3 c3] 27;have hy4:=(Hy.out.below hb3 Hy.out.lt).below hbB (Hy.out.below hb3 Hy.out.lt).lt;have hb4:=hb0.trans (hbB.mono hb0.size)
       have hT4:TysS (w3.alloc (Obj.cells #[.int .u8 x.k,.int .i64 x.n,.int .i64 x.v,.int .u8 x.c,.slice A3 m3 c3] 27)) (fun q=>w.heap.size≤q∧q<(w3.alloc (Obj.cells #[.int .u8 x.k,.int .i64 x.n,.int .i64 x.v,.int .u8 x.c,.slice A3 m3 c3] 27)).heap.size∧q≠g2) A3 m3 c3 x.l:=
        hx3.keep (fun q hq=>⟨by omega,by have:=hbB.size; omega,by omega⟩) fun p hp=>hbB.cell hp.2
       rw[hg2] at hy4 ⊢;have s0:=hy4.frozen 0;have s1:=hy4.frozen 1;have s2:=hy4.frozen 2;have s3:=hy4.frozen 3;have s4:=hy4.frozen 4;have r0:=hy4.cell 0;have r1:=hy4.cell 1;have r2:=hy4.cell 2;have r3:=hy4.cell 3;have r4:=hy4.cell 4;have Hy4:=qq hy4;have Hb4:=qq hb4;have HT4:=qq hT4;clear z0 z1 z2 z3 z4 hx3 hb3 hfv hbB hx4 hy4 hb4 hT4 hb0 HL HW Hbx Hz Hy HV HMu Hq HU1 hWs hg2;go_wp2_with fail
       have hs:Blk ((((((w3.alloc (Obj.cells #[.int .u8 x.k,.int .i64 x.n,.int .i64 x.v,.int .u8 x.c,.slice A3 m3 c3] 27)).setCell ⟨g2,0,none⟩ (.int .u8 x.k)).setCell ⟨g2,1,none⟩ (.int .i64 x.n)).setCell ⟨g2,2,none⟩ (.int .i64 x.v)).setCell ⟨g2,3,none⟩ (.int .u8 x.c)).setCell ⟨g2,4,none⟩ (.slice A3 m3 c3)) g2 27 #[.int .u8 x.k,.int .i64 x.n,.int .i64 x.v,.int .u8 x.c,.slice A3 m3 c3]:=
        ((((Hy4.out.set_ 0 (.int .u8 x.k)).set_ 1 (.int .i64 x.n)).set_ 2 (.int .i64 x.v)).set_ 3 (.int .u8 x.c)).set_ 4 (.slice A3 m3 c3)
       have hb9:=((((Hb4.out.setCell (p:=⟨g2,0,none⟩) hg2w (.int .u8 x.k)).setCell (p:=⟨g2,1,none⟩) hg2w (.int .i64 x.n)).setCell (p:=⟨g2,2,none⟩) hg2w (.int .i64 x.v)).setCell (p:=⟨g2,3,none⟩) hg2w (.int .u8 x.c)).setCell (p:=⟨g2,4,none⟩) hg2w (.slice A3 m3 c3)
       have hr9:∀ (l:List TyD) (A:Option Addr) (m c:Nat),TysS (w3.alloc (Obj.cells #[.int .u8 x.k,.int .i64 x.n,.int .i64 x.v,.int .u8 x.c,.slice A3 m3 c3] 27)) (fun q=>w.heap.size≤q∧q<(w3.alloc (Obj.cells #[.int .u8 x.k,.int .i64 x.n,.int .i64 x.v,.int .u8 x.c,.slice A3 m3 c3] 27)).heap.size∧q≠g2) A m c l→TysS ((((((w3.alloc (Obj.cells #[.int .u8 x.k,.int .i64 x.n,.int .i64 x.v,.int .u8 x.c,.slice A3 m3 c3] 27)).setCell ⟨g2,0,none⟩ (.int .u8 x.k)).setCell ⟨g2,1,none⟩ (.int .i64 x.n)).setCell ⟨g2,2,none⟩ (.int .i64 x.v)).setCell ⟨g2,3,none⟩ (.int .u8 x.c)).setCell ⟨g2,4,none⟩ (.slice A3 m3 c3)) (fun b=>w.heap.size≤b∧b<((((((w3.alloc (Obj.cells #[.int .u8 x.k,.int .i64 x.n,.int .i64 x.v,.int .u8 x.c,.slice A3 m3 c3] 27)).setCell ⟨g2,0,none⟩ (.int .u8 x.k)).setCell ⟨g2,1,none⟩ (.int .i64 x.n)).setCell ⟨g2,2,none⟩ (.int .i64 x.v)).setCell ⟨g2,3,none⟩ (.int .u8 x.c)).setCell ⟨g2,4,none⟩ (.slice A3 m3 c3)).heap.size) A m c l:=by
        intro l A m c h
        refine h.keep (fun b hb=>⟨hb.1,by simpa using hb.2.1⟩) fun p hp=>?_
        have c1:∀ (W':World) (o:Nat) (u:Value),(W'.setCell ⟨g2,o,none⟩ u).cell? p=W'.cell? p:=fun W' o u=>World.cell?_setCell_other _ _ _ _ (fun e=>hp.2.2 (by rw[← e]));rw[c1,c1,c1,c1,c1]
       replace hr9:=hr9 _ _ _ _ HT4.out;generalize ((((((w3.alloc (Obj.cells #[.int .u8 x.k,.int .i64 x.n,.int .i64 x.v,.int .u8 x.c,.slice A3 m3 c3] 27)).setCell ⟨g2,0,none⟩ (.int .u8 x.k)).setCell ⟨g2,1,none⟩ (.int .i64 x.n)).setCell ⟨g2,2,none⟩ (.int .i64 x.v)).setCell ⟨g2,3,none⟩ (.int .u8 x.c)).setCell ⟨g2,4,none⟩ (.slice A3 m3 c3))=W6 at hs hb9 hr9 ⊢;have d0':W6.cell? ⟨g2,0,none⟩=some (.int .u8 x.k):=hs.cell 0;have d1':W6.cell? ⟨g2,1,none⟩=some (.int .i64 x.n):=hs.cell 1;have d2':W6.cell? ⟨g2,2,none⟩=some (.int .i64 x.v):=hs.cell 2;have d3':W6.cell? ⟨g2,3,none⟩=some (.int .u8 x.c):=hs.cell 3;have d4':W6.cell? ⟨g2,4,none⟩=some (.slice A3 m3 c3):=hs.cell 4
       exact bodyPost_ret (v:=.agg #[.int .u8 x.k,.int .i64 x.n,.int .i64 x.v,.int .u8 x.c,.slice A3 m3 c3]) (by simp[results,Tryz.results64,go_sem,d0',d1',d2',d3',d4']) rfl (by rw[HU.out]; exact⟨_,_,_,rfl,hr9,hb9⟩)
     | false=>
       have HU:Hid (turnT fv fm t=t):=qq (by rw[HU1.out,hfv]; rfl)
       have hbB:=below_box (w:=w3) (Obj.cells #[.int .u8 x.k,.int .i64 x.n,.int .i64 x.v,.int .u8 x.c,.slice A3 m3 c3] 27);have hz4:=(Hz.out.below hb3 Hz.out.lt).below hbB (Hz.out.below hb3 Hz.out.lt).lt;have hy4:=(Hy.out.below hb3 Hy.out.lt).below hbB (Hy.out.below hb3 Hy.out.lt).lt;have hb4:=hb0.trans (hbB.mono hb0.size)
       have hT4:TysS (w3.alloc (Obj.cells #[.int .u8 x.k,.int .i64 x.n,.int .i64 x.v,.int .u8 x.c,.slice A3 m3 c3] 27)) (fun q=>w.heap.size≤q∧q<(w3.alloc (Obj.cells #[.int .u8 x.k,.int .i64 x.n,.int .i64 x.v,.int .u8 x.c,.slice A3 m3 c3] 27)).heap.size∧q≠g2) A m cp t.l:=by
        have h0:m=0:=by rw[← hlen,Hleaf.out]; rfl
        have hL:=HL.out;exact⟨hL.1,hL.2.1,hL.2.2.1,fun h=>absurd h (by omega)⟩
       rw[hg2] at hy4 ⊢;have q0:=hz4.cell 0;have q1:=hz4.cell 1;have q2:=hz4.cell 2;have q3:=hz4.cell 3;have q4:=hz4.cell 4;have s0:=hy4.frozen 0;have s1:=hy4.frozen 1;have s2:=hy4.frozen 2;have s3:=hy4.frozen 3;have s4:=hy4.frozen 4;have r0:=hy4.cell 0;have r1:=hy4.cell 1;have r2:=hy4.cell 2;have r3:=hy4.cell 3;have r4:=hy4.cell 4;have Hy4:=qq hy4;have Hb4:=qq hb4;have HT4:=qq hT4;clear z0 z1 z2 z3 z4 hx3 hb3 hfv hbB hy4 hz4 hb4 hT4 hb0 HL HW Hbx Hz Hy HV HMu Hq HU1 hWs hg2;go_wp2_with fail
       have hs:Blk ((((((w3.alloc (Obj.cells #[.int .u8 x.k,.int .i64 x.n,.int .i64 x.v,.int .u8 x.c,.slice A3 m3 c3] 27)).setCell ⟨g2,0,none⟩ (.int .u8 t.k)).setCell ⟨g2,1,none⟩ (.int .i64 t.n)).setCell ⟨g2,2,none⟩ (.int .i64 t.v)).setCell ⟨g2,3,none⟩ (.int .u8 t.c)).setCell ⟨g2,4,none⟩ (.slice A m cp)) g2 27 #[.int .u8 t.k,.int .i64 t.n,.int .i64 t.v,.int .u8 t.c,.slice A m cp]:=
        ((((Hy4.out.set_ 0 (.int .u8 t.k)).set_ 1 (.int .i64 t.n)).set_ 2 (.int .i64 t.v)).set_ 3 (.int .u8 t.c)).set_ 4 (.slice A m cp)
       have hb9:=((((Hb4.out.setCell (p:=⟨g2,0,none⟩) hg2w (.int .u8 t.k)).setCell (p:=⟨g2,1,none⟩) hg2w (.int .i64 t.n)).setCell (p:=⟨g2,2,none⟩) hg2w (.int .i64 t.v)).setCell (p:=⟨g2,3,none⟩) hg2w (.int .u8 t.c)).setCell (p:=⟨g2,4,none⟩) hg2w (.slice A m cp)
       have hr9:∀ (l:List TyD) (A:Option Addr) (m c:Nat),TysS (w3.alloc (Obj.cells #[.int .u8 x.k,.int .i64 x.n,.int .i64 x.v,.int .u8 x.c,.slice A3 m3 c3] 27)) (fun q=>w.heap.size≤q∧q<(w3.alloc (Obj.cells #[.int .u8 x.k,.int .i64 x.n,.int .i64 x.v,.int .u8 x.c,.slice A3 m3 c3] 27)).heap.size∧q≠g2) A m c l→TysS ((((((w3.alloc (Obj.cells #[.int .u8 x.k,.int .i64 x.n,.int .i64 x.v,.int .u8 x.c,.slice A3 m3 c3] 27)).setCell ⟨g2,0,none⟩ (.int .u8 t.k)).setCell ⟨g2,1,none⟩ (.int .i64 t.n)).setCell ⟨g2,2,none⟩ (.int .i64 t.v)).setCell ⟨g2,3,none⟩ (.int .u8 t.c)).setCell ⟨g2,4,none⟩ (.slice A m cp)) (fun b=>w.heap.size≤b∧b<((((((w3.alloc (Obj.cells #[.int .u8 x.k,.int .i64 x.n,.int .i64 x.v,.int .u8 x.c,.slice A3 m3 c3] 27)).setCell ⟨g2,0,none⟩ (.int .u8 t.k)).setCell ⟨g2,1,none⟩ (.int .i64 t.n)).setCell ⟨g2,2,none⟩ (.int .i64 t.v)).setCell ⟨g2,3,none⟩ (.int .u8 t.c)).setCell ⟨g2,4,none⟩ (.slice A m cp)).heap.size) A m c l:=by
        intro l A m c h
        refine h.keep (fun b hb=>⟨hb.1,by simpa using hb.2.1⟩) fun p hp=>?_
        have c1:∀ (W':World) (o:Nat) (u:Value),(W'.setCell ⟨g2,o,none⟩ u).cell? p=W'.cell? p:=fun W' o u=>World.cell?_setCell_other _ _ _ _ (fun e=>hp.2.2 (by rw[← e]));rw[c1,c1,c1,c1,c1]
       replace hr9:=hr9 _ _ _ _ HT4.out;generalize ((((((w3.alloc (Obj.cells #[.int .u8 x.k,.int .i64 x.n,.int .i64 x.v,.int .u8 x.c,.slice A3 m3 c3] 27)).setCell ⟨g2,0,none⟩ (.int .u8 t.k)).setCell ⟨g2,1,none⟩ (.int .i64 t.n)).setCell ⟨g2,2,none⟩ (.int .i64 t.v)).setCell ⟨g2,3,none⟩ (.int .u8 t.c)).setCell ⟨g2,4,none⟩ (.slice A m cp))=W6 at hs hb9 hr9 ⊢;have d0':W6.cell? ⟨g2,0,none⟩=some (.int .u8 t.k):=hs.cell 0;have d1':W6.cell? ⟨g2,1,none⟩=some (.int .i64 t.n):=hs.cell 1;have d2':W6.cell? ⟨g2,2,none⟩=some (.int .i64 t.v):=hs.cell 2;have d3':W6.cell? ⟨g2,3,none⟩=some (.int .u8 t.c):=hs.cell 3;have d4':W6.cell? ⟨g2,4,none⟩=some (.slice A m cp):=hs.cell 4
       exact bodyPost_ret (v:=.agg #[.int .u8 t.k,.int .i64 t.n,.int .i64 t.v,.int .u8 t.c,.slice A m cp]) (by simp[results,Tryz.results64,go_sem,d0',d1',d2',d3',d4']) rfl (by rw[HU.out]; exact⟨_,_,_,rfl,hr9,hb9⟩)
   · have d1:(t.k==1)=false:=by simp[hk]
     by_cases h7:t.k=7
     · have d7:(t.k==7)=true:=by simp[h7]
       by_cases hc:t.c=0
       · have dc:(t.c==0)=true:=by simp[hc]
         have hq:=HMu.out t.v W (mayT_v HM.out) Hbx.out;obtain⟨V5,hV5⟩:∃ V5,(fm t.v).1=V5:=⟨_,rfl⟩;obtain⟨C5',hC5⟩:∃ C5,(fm t.v).2=C5:=⟨_,rfl⟩;rw[hV5,hC5] at hq;have HU:Hid (turnT fv fm t=.mk t.k t.n V5 C5' (t.l.map (turnT fv fm))):=qq (by rw[HU0.out,if_neg hk,if_pos ⟨h7,hc⟩,if_pos ⟨h7,hc⟩,hV5,hC5]);have Hq:=qq hq;clear hq hV5 hC5 hk h7 hc HU0
         go_enter Tryz.func64,Tryz.ntmps64
         go_wp2_with fail;rw[HW.out]
         refine Hq.out.mono ?_; rintro e w3 ⟨rfl,hb3⟩
         have hz3:=Hz.out.below hb3 Hz.out.lt;have hy3:=Hy.out.below hb3 Hy.out.lt;have hb0:Below w.heap.size w w3:=Hbx.out.trans (hb3.mono Hbx.out.size)
         have hne:w.heap.size≠w.heap.size+1:=by omega
         have x2:=hz3.cell 2;have x3:=hz3.cell 3;have x4:=hz3.cell 4;have f2:=hz3.frozen 2;have f3:=hz3.frozen 3;have hz5:Blk ((w3.setCell ⟨w.heap.size,2,none⟩ (.int .i64 V5)).setCell ⟨w.heap.size,3,none⟩ (.int .u8 C5')) w.heap.size 27 #[.int .u8 t.k,.int .i64 t.n,.int .i64 V5,.int .u8 C5',.slice A m cp]:=(hz3.set_ 2 (.int .i64 V5)).set_ 3 (.int .u8 C5');have hy5:=(hy3.other hne 2 (.int .i64 V5)).other hne 3 (.int .u8 C5');have hb5:=(hb0.setCell (p:=⟨w.heap.size,2,none⟩) (Nat.le_refl _) (.int .i64 V5)).setCell (p:=⟨w.heap.size,3,none⟩) (Nat.le_refl _) (.int .u8 C5');have y4:((w3.setCell ⟨w.heap.size,2,none⟩ (.int .i64 V5)).setCell ⟨w.heap.size,3,none⟩ (.int .u8 C5')).cell? ⟨w.heap.size,4,none⟩=some (.slice A m cp):=hz5.cell 4;obtain⟨w5,hw5⟩:∃ w5,(w3.setCell ⟨w.heap.size,2,none⟩ (.int .i64 V5)).setCell ⟨w.heap.size,3,none⟩ (.int .u8 C5')=w5:=⟨_,rfl⟩
         have hl5:TysV w5 w.heap.size A m cp t.l:=by
          refine HL0.out.keep fun p hp=>?_;rw[← hw5]
          have c1:∀ (W':World) (o:Nat) (u:Value),(W'.setCell ⟨w.heap.size,o,none⟩ u).cell? p=W'.cell? p:=fun W' o u=>World.cell?_setCell_other _ _ _ _ (fun e=>by rw[← e] at hp; exact Nat.lt_irrefl _ hp)
          rw[c1,c1];exact hb3.cell (Nat.lt_of_lt_of_le hp Hbx.out.size)
         rw[hw5] at hz5 hy5 hb5;have HL5:=qq (hl5.more hb5.size);have Hz5:=qq hz5;have Hy5:=qq hy5;have Hb5:=qq hb5;have Hlz5:=qq hz5.lt;have Hly5:=qq hy5.lt;have hq:=cloneTy_any A m cp t.l w5 HL5.out (by omega);have Hq:=qq hq;have Hw5:=qq hw5;clear hq hz3 hy3 hb0 hz5 hy5 hb5 hl5 hw5 hb3 HL HL0 Hbx Hz Hy z0 z1 z2 z3 z4;go_wp2_with fail;rw[Hw5.out];clear x2 x3 x4 f2 f3 y4 Hw5
         refine Hq.out.mono ?_; rintro e w6 ⟨v1,rfl,hown,hform,hb1⟩
         obtain⟨A1,c1,rfl⟩:∃ A1 c1,v1=.slice A1 m c1:=ownsRow_form hown.2.choose_spec.1;have HF:=qq (TurnI.start (us:=t.l.map (turnT fv fm)) hown (by rw[List.length_map]));have Hb1:=qq hb1;clear hown hform hb1 Hq
         try clear y4
         go_wp2_with fail
         go_loopg [45] m (fun gh i wr=>∃ k:Nat,k≤m∧gh=m - k∧i=.int .i64 k∧TurnI t.l (t.l.map (turnT fv fm)) w5.heap.size w5.heap.size (.slice A1 m c1) m k wr∧Below w5.heap.size w5 wr)
         case atStart=>exact⟨0,Nat.zero_le _,rfl,rfl,HF.out,Hb1.out⟩
         case round=>
          obtain⟨k,hk,rfl,rfl,hF,hbel⟩:=hrel
          by_cases hkm:k<m
          · have d0:decide (k<m)=true:=by simpa using hkm
            have hk':k<t.l.length:=by omega
            obtain⟨g,rfl,hgb,hgs,A2,n2,c2,e0,e1,e2,e3,e4,hx,hfz⟩:=hF.slot hk';have hn:=HN.out k hk';have hmx:=mayT_kid HM.out hk';have hbB:=below_box (w:=wr) (Obj.cells #[.int .u8 t.l[k].k,.int .i64 t.l[k].n,.int .i64 t.l[k].v,.int .u8 t.l[k].c,.slice A2 n2 c2] 27);have hwB:Below w.heap.size w (wr.alloc (Obj.cells #[.int .u8 t.l[k].k,.int .i64 t.l[k].n,.int .i64 t.l[k].v,.int .u8 t.l[k].c,.slice A2 n2 c2] 27)):=(Hb5.out.trans (hbel.mono Hb5.out.size)).trans (hbB.mono (Nat.le_trans Hb5.out.size hbel.size));have hq:=Ih.out t.l[k] hn hmx A2 n2 c2 _ (((hx.more hbel.size).below hbB).more hbB.size) (fun n w' h0 hb=>HV.out n w' h0 (hwB.trans (hb.mono hwB.size))) (fun n w' h0 hb=>HMu.out n w' h0 (hwB.trans (hb.mono hwB.size)))
            have hku:k<(t.l.map (turnT fv fm)).length:=by rw[List.length_map]; exact hk'
            have hux:(t.l.map (turnT fv fm))[k]=turnT fv fm t.l[k]:=List.getElem_map _;obtain⟨u,hu⟩:∃ u,turnT fv fm t.l[k]=u:=⟨_,rfl⟩;rw[hu] at hux;have hst:=fun(w3:World) (hb:Below wr.heap.size wr w3) (A3:Option Addr) (n3 c3:Nat) (h:TysS w3 (fun b=>wr.heap.size≤b∧b<w3.heap.size) A3 n3 c3 u.l)=>hF.step hku u hux hb (Nat.le_refl _) hbel.size h;obtain⟨x,hxk⟩:∃ x,t.l[k]=x:=⟨_,rfl⟩;rw[hxk] at e0 e1 e2 e3 hx hn hmx hbB hq hu;rw[hu] at hq;have Hq:=qq hq;have Hst:=qq hst;have Hbel:=qq hbel;have HbB:=qq hbB;have Hfz:=qq hfz
            have k1:(0:Int)≤(k:Int):=by omega
            have k2:(k:Int)<m:=by omega
            clear hx hn hmx hbB hwB hq hst hbel hF hxk hfz hux hu hku;go_wp2_with fail
            refine Hq.out.mono ?_; rintro e w3 ⟨A3,n3,c3,rfl,hx3,hb3⟩
            have hb13:Below wr.heap.size wr w3:=HbB.out.trans (hb3.mono HbB.out.size);have hs:=Hst.out w3 hb13 A3 n3 c3 (hx3.mono fun b hb=>⟨Nat.le_trans HbB.out.size hb.1,hb.2⟩);have hbS:Below w5.heap.size w5 w3:=Hbel.out.trans (hb13.mono Hbel.out.size)
            have hbN:=hbS.grown hs.2.1 hbS.size (fun j hj=>by have:=hs.2.2.1; injection hj with hj; omega)
            have Hs1:=qq hs.1;have HbN:=qq hbN;have f0:=(hb13.cell (p:=⟨g,k * 5,none⟩) hgs).trans e0;have f1:=(hb13.cell (p:=⟨g,k * 5+1,none⟩) hgs).trans e1;have f2:=(hb13.cell (p:=⟨g,k * 5+2,none⟩) hgs).trans e2;have f3:=(hb13.cell (p:=⟨g,k * 5+3,none⟩) hgs).trans e3;have f4:=(hb13.cell (p:=⟨g,k * 5+4,none⟩) hgs).trans e4;have z0:=(hb13.frozen (p:=⟨g,k * 5,none⟩) hgs).trans (Hfz.out (k * 5));have z1:=(hb13.frozen (p:=⟨g,k * 5+1,none⟩) hgs).trans (Hfz.out (k * 5+1));have z2:=(hb13.frozen (p:=⟨g,k * 5+2,none⟩) hgs).trans (Hfz.out (k * 5+2));have z3:=(hb13.frozen (p:=⟨g,k * 5+3,none⟩) hgs).trans (Hfz.out (k * 5+3));have z4:=(hb13.frozen (p:=⟨g,k * 5+4,none⟩) hgs).trans (Hfz.out (k * 5+4));clear hx3 hb3 hb13 hs hbS hbN e0 e1 e2 e3 e4 Hq Hst Hbel HbB Hfz;go_wp2_with fail;go_roundg (m - (k+1))
            case measure=>omega
            case rel=>exact⟨k+1,by omega,rfl,by go_num,Hs1.out,HbN.out⟩
          · have d0:decide (k<m)=false:=by simpa using hkm
            have hkm':k=m:=by omega
            subst hkm';have hT:=hF.done;have hz:=Hz5.out.below hbel Hlz5.out;have hy:=Hy5.out.below hbel Hly5.out;have hb0:Below w.heap.size w wr:=Hb5.out.trans (hbel.mono Hb5.out.size);have hWs:=Hb5.out.size;have hly:w.heap.size+1<w5.heap.size:=Hly5.out;obtain⟨g2,hg2⟩:∃ g2,w.heap.size+1=g2:=⟨_,rfl⟩
            have hne:w.heap.size≠g2:=by omega
            have hg2w:w.heap.size≤g2:=by omega
            rw[hg2] at hy hly ⊢;have hz1:Blk (wr.setCell ⟨w.heap.size,4,none⟩ (.slice A1 k c1)) w.heap.size 27 #[.int .u8 t.k,.int .i64 t.n,.int .i64 V5,.int .u8 C5',.slice A1 k c1]:=hz.set_ 4 (.slice A1 k c1);have hy1:=hy.other hne 4 (.slice A1 k c1);have x4:=hz.cell 4;have xf:=hz.frozen 4;have q0:=hz1.cell 0;have q1:=hz1.cell 1;have q2:=hz1.cell 2;have q3:=hz1.cell 3;have q4:=hz1.cell 4;have r0:=hy1.cell 0;have r1:=hy1.cell 1;have r2:=hy1.cell 2;have r3:=hy1.cell 3;have r4:=hy1.cell 4;have s0:=hy1.frozen 0;have s1:=hy1.frozen 1;have s2:=hy1.frozen 2;have s3:=hy1.frozen 3;have s4:=hy1.frozen 4;have hb2:=hb0.setCell (p:=⟨w.heap.size,4,none⟩) (Nat.le_refl _) (.slice A1 k c1);have HT:=qq hT;have Hy1:=qq hy1;have Hb2:=qq hb2;have Hly2:=qq hly;clear hF hz hy hz1 hy1 hbel hT hb0 hb2 hg2 hly;go_wp2_with fail
            have hs:Blk (((((( wr.setCell ⟨w.heap.size,4,none⟩ (.slice A1 k c1)).setCell ⟨g2,0,none⟩ (.int .u8 t.k)).setCell ⟨g2,1,none⟩ (.int .i64 t.n)).setCell ⟨g2,2,none⟩ (.int .i64 V5)).setCell ⟨g2,3,none⟩ (.int .u8 C5')).setCell ⟨g2,4,none⟩ (.slice A1 k c1)) g2 27 #[.int .u8 t.k,.int .i64 t.n,.int .i64 V5,.int .u8 C5',.slice A1 k c1]:=
             ((((Hy1.out.set_ 0 (.int .u8 t.k)).set_ 1 (.int .i64 t.n)).set_ 2 (.int .i64 V5)).set_ 3 (.int .u8 C5')).set_ 4 (.slice A1 k c1)
            have hb9:=((((Hb2.out.setCell (p:=⟨g2,0,none⟩) hg2w (.int .u8 t.k)).setCell (p:=⟨g2,1,none⟩) hg2w (.int .i64 t.n)).setCell (p:=⟨g2,2,none⟩) hg2w (.int .i64 V5)).setCell (p:=⟨g2,3,none⟩) hg2w (.int .u8 C5')).setCell (p:=⟨g2,4,none⟩) hg2w (.slice A1 k c1)
            have hr9:TysS (((((( wr.setCell ⟨w.heap.size,4,none⟩ (.slice A1 k c1)).setCell ⟨g2,0,none⟩ (.int .u8 t.k)).setCell ⟨g2,1,none⟩ (.int .i64 t.n)).setCell ⟨g2,2,none⟩ (.int .i64 V5)).setCell ⟨g2,3,none⟩ (.int .u8 C5')).setCell ⟨g2,4,none⟩ (.slice A1 k c1)) (fun b=>w.heap.size≤b∧b<(((((( wr.setCell ⟨w.heap.size,4,none⟩ (.slice A1 k c1)).setCell ⟨g2,0,none⟩ (.int .u8 t.k)).setCell ⟨g2,1,none⟩ (.int .i64 t.n)).setCell ⟨g2,2,none⟩ (.int .i64 V5)).setCell ⟨g2,3,none⟩ (.int .u8 C5')).setCell ⟨g2,4,none⟩ (.slice A1 k c1)).heap.size) A1 k c1 (t.l.map (turnT fv fm)):=by
             refine HT.out.keep (fun b hb=>⟨by omega,by simpa using hb.2⟩) fun p hp=>?_
             have hlo:w5.heap.size≤p.block:=hp.1;have hl2:=Hly2.out
             have c1:∀ (W':World) (g o:Nat) (u:Value),g<w5.heap.size→(W'.setCell ⟨g,o,none⟩ u).cell? p=W'.cell? p:=fun W' g o u hg=>World.cell?_setCell_other _ _ _ _ (fun e=>by rw[← e] at hlo; exact absurd hlo (by show ¬ w5.heap.size≤g; omega))
             rw[c1 _ _ _ _ (by omega),c1 _ _ _ _ (by omega),c1 _ _ _ _ (by omega),c1 _ _ _ _ (by omega),c1 _ _ _ _ (by omega),c1 _ _ _ _ (by omega)]
            generalize (((((( wr.setCell ⟨w.heap.size,4,none⟩ (.slice A1 k c1)).setCell ⟨g2,0,none⟩ (.int .u8 t.k)).setCell ⟨g2,1,none⟩ (.int .i64 t.n)).setCell ⟨g2,2,none⟩ (.int .i64 V5)).setCell ⟨g2,3,none⟩ (.int .u8 C5')).setCell ⟨g2,4,none⟩ (.slice A1 k c1))=W6 at hs hb9 hr9 ⊢;have d0':W6.cell? ⟨g2,0,none⟩=some (.int .u8 t.k):=hs.cell 0;have d1':W6.cell? ⟨g2,1,none⟩=some (.int .i64 t.n):=hs.cell 1;have d2':W6.cell? ⟨g2,2,none⟩=some (.int .i64 V5):=hs.cell 2;have d3':W6.cell? ⟨g2,3,none⟩=some (.int .u8 C5'):=hs.cell 3;have d4':W6.cell? ⟨g2,4,none⟩=some (.slice A1 k c1):=hs.cell 4
            exact bodyPost_ret (v:=.agg #[.int .u8 t.k,.int .i64 t.n,.int .i64 V5,.int .u8 C5',.slice A1 k c1]) (by simp[results,Tryz.results64,go_sem,d0',d1',d2',d3',d4']) rfl (by rw[HU.out]; exact⟨A1,k,c1,rfl,hr9,hb9⟩)
       · have dc:(t.c==0)=false:=by simp[hc]
         have HU:Hid (turnT fv fm t=.mk t.k t.n t.v t.c (t.l.map (turnT fv fm))):=qq (by rw[HU0.out,if_neg hk,if_neg (fun h=>hc h.2),if_neg (fun h=>hc h.2)]);clear hk h7 hc HU0
         go_enter Tryz.func64,Tryz.ntmps64
         go_wp2_with fail;rw[HW.out];obtain⟨w5,hw5⟩:∃ w5,W=w5:=⟨_,rfl⟩;rw[hw5] at z0 z1 z2 z3 z4 ⊢;have Hz5:=qq Hz.out;have Hy5:=qq Hy.out;have HL5:=qq HL.out;have Hb5:=qq Hbx.out;have Hlz5:=qq Hz.out.lt;have Hly5:=qq Hy.out.lt;rw[hw5] at Hz5 Hy5 HL5 Hb5 Hlz5 Hly5;clear hw5 HL Hbx Hz Hy;have hq:=cloneTy_any A m cp t.l w5 HL5.out (by omega);have Hq:=qq hq;have y4:=Hz5.out.cell 4;clear hq;go_wp2_with fail
         refine Hq.out.mono ?_; rintro e w6 ⟨v1,rfl,hown,hform,hb1⟩
         obtain⟨A1,c1,rfl⟩:∃ A1 c1,v1=.slice A1 m c1:=ownsRow_form hown.2.choose_spec.1;have HF:=qq (TurnI.start (us:=t.l.map (turnT fv fm)) hown (by rw[List.length_map]));have Hb1:=qq hb1;clear hown hform hb1 Hq
         try clear y4
         go_wp2_with fail
         go_loopg [45] m (fun gh i wr=>∃ k:Nat,k≤m∧gh=m - k∧i=.int .i64 k∧TurnI t.l (t.l.map (turnT fv fm)) w5.heap.size w5.heap.size (.slice A1 m c1) m k wr∧Below w5.heap.size w5 wr)
         case atStart=>exact⟨0,Nat.zero_le _,rfl,rfl,HF.out,Hb1.out⟩
         case round=>
          obtain⟨k,hk,rfl,rfl,hF,hbel⟩:=hrel
          by_cases hkm:k<m
          · have d0:decide (k<m)=true:=by simpa using hkm
            have hk':k<t.l.length:=by omega
            obtain⟨g,rfl,hgb,hgs,A2,n2,c2,e0,e1,e2,e3,e4,hx,hfz⟩:=hF.slot hk';have hn:=HN.out k hk';have hmx:=mayT_kid HM.out hk';have hbB:=below_box (w:=wr) (Obj.cells #[.int .u8 t.l[k].k,.int .i64 t.l[k].n,.int .i64 t.l[k].v,.int .u8 t.l[k].c,.slice A2 n2 c2] 27);have hwB:Below w.heap.size w (wr.alloc (Obj.cells #[.int .u8 t.l[k].k,.int .i64 t.l[k].n,.int .i64 t.l[k].v,.int .u8 t.l[k].c,.slice A2 n2 c2] 27)):=(Hb5.out.trans (hbel.mono Hb5.out.size)).trans (hbB.mono (Nat.le_trans Hb5.out.size hbel.size));have hq:=Ih.out t.l[k] hn hmx A2 n2 c2 _ (((hx.more hbel.size).below hbB).more hbB.size) (fun n w' h0 hb=>HV.out n w' h0 (hwB.trans (hb.mono hwB.size))) (fun n w' h0 hb=>HMu.out n w' h0 (hwB.trans (hb.mono hwB.size)))
            have hku:k<(t.l.map (turnT fv fm)).length:=by rw[List.length_map]; exact hk'
            have hux:(t.l.map (turnT fv fm))[k]=turnT fv fm t.l[k]:=List.getElem_map _;obtain⟨u,hu⟩:∃ u,turnT fv fm t.l[k]=u:=⟨_,rfl⟩;rw[hu] at hux;have hst:=fun(w3:World) (hb:Below wr.heap.size wr w3) (A3:Option Addr) (n3 c3:Nat) (h:TysS w3 (fun b=>wr.heap.size≤b∧b<w3.heap.size) A3 n3 c3 u.l)=>hF.step hku u hux hb (Nat.le_refl _) hbel.size h;obtain⟨x,hxk⟩:∃ x,t.l[k]=x:=⟨_,rfl⟩;rw[hxk] at e0 e1 e2 e3 hx hn hmx hbB hq hu;rw[hu] at hq;have Hq:=qq hq;have Hst:=qq hst;have Hbel:=qq hbel;have HbB:=qq hbB;have Hfz:=qq hfz
            have k1:(0:Int)≤(k:Int):=by omega
            have k2:(k:Int)<m:=by omega
            clear hx hn hmx hbB hwB hq hst hbel hF hxk hfz hux hu hku;go_wp2_with fail
            refine Hq.out.mono ?_; rintro e w3 ⟨A3,n3,c3,rfl,hx3,hb3⟩
            have hb13:Below wr.heap.size wr w3:=HbB.out.trans (hb3.mono HbB.out.size);have hs:=Hst.out w3 hb13 A3 n3 c3 (hx3.mono fun b hb=>⟨Nat.le_trans HbB.out.size hb.1,hb.2⟩);have hbS:Below w5.heap.size w5 w3:=Hbel.out.trans (hb13.mono Hbel.out.size)
            have hbN:=hbS.grown hs.2.1 hbS.size (fun j hj=>by have:=hs.2.2.1; injection hj with hj; omega)
            have Hs1:=qq hs.1;have HbN:=qq hbN;have f0:=(hb13.cell (p:=⟨g,k * 5,none⟩) hgs).trans e0;have f1:=(hb13.cell (p:=⟨g,k * 5+1,none⟩) hgs).trans e1;have f2:=(hb13.cell (p:=⟨g,k * 5+2,none⟩) hgs).trans e2;have f3:=(hb13.cell (p:=⟨g,k * 5+3,none⟩) hgs).trans e3;have f4:=(hb13.cell (p:=⟨g,k * 5+4,none⟩) hgs).trans e4;have z0:=(hb13.frozen (p:=⟨g,k * 5,none⟩) hgs).trans (Hfz.out (k * 5));have z1:=(hb13.frozen (p:=⟨g,k * 5+1,none⟩) hgs).trans (Hfz.out (k * 5+1));have z2:=(hb13.frozen (p:=⟨g,k * 5+2,none⟩) hgs).trans (Hfz.out (k * 5+2));have z3:=(hb13.frozen (p:=⟨g,k * 5+3,none⟩) hgs).trans (Hfz.out (k * 5+3));have z4:=(hb13.frozen (p:=⟨g,k * 5+4,none⟩) hgs).trans (Hfz.out (k * 5+4));clear hx3 hb3 hb13 hs hbS hbN e0 e1 e2 e3 e4 Hq Hst Hbel HbB Hfz;go_wp2_with fail;go_roundg (m - (k+1))
            case measure=>omega
            case rel=>exact⟨k+1,by omega,rfl,by go_num,Hs1.out,HbN.out⟩
          · have d0:decide (k<m)=false:=by simpa using hkm
            have hkm':k=m:=by omega
            subst hkm';have hT:=hF.done;have hz:=Hz5.out.below hbel Hlz5.out;have hy:=Hy5.out.below hbel Hly5.out;have hb0:Below w.heap.size w wr:=Hb5.out.trans (hbel.mono Hb5.out.size);have hWs:=Hb5.out.size;have hly:w.heap.size+1<w5.heap.size:=Hly5.out;obtain⟨g2,hg2⟩:∃ g2,w.heap.size+1=g2:=⟨_,rfl⟩
            have hne:w.heap.size≠g2:=by omega
            have hg2w:w.heap.size≤g2:=by omega
            rw[hg2] at hy hly ⊢;have hz1:Blk (wr.setCell ⟨w.heap.size,4,none⟩ (.slice A1 k c1)) w.heap.size 27 #[.int .u8 t.k,.int .i64 t.n,.int .i64 t.v,.int .u8 t.c,.slice A1 k c1]:=hz.set_ 4 (.slice A1 k c1);have hy1:=hy.other hne 4 (.slice A1 k c1);have x4:=hz.cell 4;have xf:=hz.frozen 4;have q0:=hz1.cell 0;have q1:=hz1.cell 1;have q2:=hz1.cell 2;have q3:=hz1.cell 3;have q4:=hz1.cell 4;have r0:=hy1.cell 0;have r1:=hy1.cell 1;have r2:=hy1.cell 2;have r3:=hy1.cell 3;have r4:=hy1.cell 4;have s0:=hy1.frozen 0;have s1:=hy1.frozen 1;have s2:=hy1.frozen 2;have s3:=hy1.frozen 3;have s4:=hy1.frozen 4;have hb2:=hb0.setCell (p:=⟨w.heap.size,4,none⟩) (Nat.le_refl _) (.slice A1 k c1);have HT:=qq hT;have Hy1:=qq hy1;have Hb2:=qq hb2;have Hly2:=qq hly;clear hF hz hy hz1 hy1 hbel hT hb0 hb2 hg2 hly;go_wp2_with fail
            have hs:Blk (((((( wr.setCell ⟨w.heap.size,4,none⟩ (.slice A1 k c1)).setCell ⟨g2,0,none⟩ (.int .u8 t.k)).setCell ⟨g2,1,none⟩ (.int .i64 t.n)).setCell ⟨g2,2,none⟩ (.int .i64 t.v)).setCell ⟨g2,3,none⟩ (.int .u8 t.c)).setCell ⟨g2,4,none⟩ (.slice A1 k c1)) g2 27 #[.int .u8 t.k,.int .i64 t.n,.int .i64 t.v,.int .u8 t.c,.slice A1 k c1]:=
             ((((Hy1.out.set_ 0 (.int .u8 t.k)).set_ 1 (.int .i64 t.n)).set_ 2 (.int .i64 t.v)).set_ 3 (.int .u8 t.c)).set_ 4 (.slice A1 k c1)
            have hb9:=((((Hb2.out.setCell (p:=⟨g2,0,none⟩) hg2w (.int .u8 t.k)).setCell (p:=⟨g2,1,none⟩) hg2w (.int .i64 t.n)).setCell (p:=⟨g2,2,none⟩) hg2w (.int .i64 t.v)).setCell (p:=⟨g2,3,none⟩) hg2w (.int .u8 t.c)).setCell (p:=⟨g2,4,none⟩) hg2w (.slice A1 k c1)
            have hr9:TysS (((((( wr.setCell ⟨w.heap.size,4,none⟩ (.slice A1 k c1)).setCell ⟨g2,0,none⟩ (.int .u8 t.k)).setCell ⟨g2,1,none⟩ (.int .i64 t.n)).setCell ⟨g2,2,none⟩ (.int .i64 t.v)).setCell ⟨g2,3,none⟩ (.int .u8 t.c)).setCell ⟨g2,4,none⟩ (.slice A1 k c1)) (fun b=>w.heap.size≤b∧b<(((((( wr.setCell ⟨w.heap.size,4,none⟩ (.slice A1 k c1)).setCell ⟨g2,0,none⟩ (.int .u8 t.k)).setCell ⟨g2,1,none⟩ (.int .i64 t.n)).setCell ⟨g2,2,none⟩ (.int .i64 t.v)).setCell ⟨g2,3,none⟩ (.int .u8 t.c)).setCell ⟨g2,4,none⟩ (.slice A1 k c1)).heap.size) A1 k c1 (t.l.map (turnT fv fm)):=by
             refine HT.out.keep (fun b hb=>⟨by omega,by simpa using hb.2⟩) fun p hp=>?_
             have hlo:w5.heap.size≤p.block:=hp.1;have hl2:=Hly2.out
             have c1:∀ (W':World) (g o:Nat) (u:Value),g<w5.heap.size→(W'.setCell ⟨g,o,none⟩ u).cell? p=W'.cell? p:=fun W' g o u hg=>World.cell?_setCell_other _ _ _ _ (fun e=>by rw[← e] at hlo; exact absurd hlo (by show ¬ w5.heap.size≤g; omega))
             rw[c1 _ _ _ _ (by omega),c1 _ _ _ _ (by omega),c1 _ _ _ _ (by omega),c1 _ _ _ _ (by omega),c1 _ _ _ _ (by omega),c1 _ _ _ _ (by omega)]
            generalize (((((( wr.setCell ⟨w.heap.size,4,none⟩ (.slice A1 k c1)).setCell ⟨g2,0,none⟩ (.int .u8 t.k)).setCell ⟨g2,1,none⟩ (.int .i64 t.n)).setCell ⟨g2,2,none⟩ (.int .i64 t.v)).setCell ⟨g2,3,none⟩ (.int .u8 t.c)).setCell ⟨g2,4,none⟩ (.slice A1 k c1))=W6 at hs hb9 hr9 ⊢;have d0':W6.cell? ⟨g2,0,none⟩=some (.int .u8 t.k):=hs.cell 0;have d1':W6.cell? ⟨g2,1,none⟩=some (.int .i64 t.n):=hs.cell 1;have d2':W6.cell? ⟨g2,2,none⟩=some (.int .i64 t.v):=hs.cell 2;have d3':W6.cell? ⟨g2,3,none⟩=some (.int .u8 t.c):=hs.cell 3;have d4':W6.cell? ⟨g2,4,none⟩=some (.slice A1 k c1):=hs.cell 4
            exact bodyPost_ret (v:=.agg #[.int .u8 t.k,.int .i64 t.n,.int .i64 t.v,.int .u8 t.c,.slice A1 k c1]) (by simp[results,Tryz.results64,go_sem,d0',d1',d2',d3',d4']) rfl (by rw[HU.out]; exact⟨A1,k,c1,rfl,hr9,hb9⟩)
     · have d7:(t.k==7)=false:=by simp[h7]
       have HU:Hid (turnT fv fm t=.mk t.k t.n t.v t.c (t.l.map (turnT fv fm))):=qq (by rw[HU0.out,if_neg hk,if_neg (fun h=>h7 h.1),if_neg (fun h=>h7 h.1)]);clear hk h7 HU0
       go_enter Tryz.func64,Tryz.ntmps64
       go_wp2_with fail;rw[HW.out];obtain⟨w5,hw5⟩:∃ w5,W=w5:=⟨_,rfl⟩;rw[hw5] at z0 z1 z2 z3 z4 ⊢;have Hz5:=qq Hz.out;have Hy5:=qq Hy.out;have HL5:=qq HL.out;have Hb5:=qq Hbx.out;have Hlz5:=qq Hz.out.lt;have Hly5:=qq Hy.out.lt;rw[hw5] at Hz5 Hy5 HL5 Hb5 Hlz5 Hly5;clear hw5 HL Hbx Hz Hy;have hq:=cloneTy_any A m cp t.l w5 HL5.out (by omega);have Hq:=qq hq;have y4:=Hz5.out.cell 4;clear hq;go_wp2_with fail
       refine Hq.out.mono ?_; rintro e w6 ⟨v1,rfl,hown,hform,hb1⟩
       obtain⟨A1,c1,rfl⟩:∃ A1 c1,v1=.slice A1 m c1:=ownsRow_form hown.2.choose_spec.1;have HF:=qq (TurnI.start (us:=t.l.map (turnT fv fm)) hown (by rw[List.length_map]));have Hb1:=qq hb1;clear hown hform hb1 Hq
       try clear y4
       go_wp2_with fail
       go_loopg [45] m (fun gh i wr=>∃ k:Nat,k≤m∧gh=m - k∧i=.int .i64 k∧TurnI t.l (t.l.map (turnT fv fm)) w5.heap.size w5.heap.size (.slice A1 m c1) m k wr∧Below w5.heap.size w5 wr)
       case atStart=>exact⟨0,Nat.zero_le _,rfl,rfl,HF.out,Hb1.out⟩
       case round=>
        obtain⟨k,hk,rfl,rfl,hF,hbel⟩:=hrel
        by_cases hkm:k<m
        · have d0:decide (k<m)=true:=by simpa using hkm
          have hk':k<t.l.length:=by omega
          obtain⟨g,rfl,hgb,hgs,A2,n2,c2,e0,e1,e2,e3,e4,hx,hfz⟩:=hF.slot hk';have hn:=HN.out k hk';have hmx:=mayT_kid HM.out hk';have hbB:=below_box (w:=wr) (Obj.cells #[.int .u8 t.l[k].k,.int .i64 t.l[k].n,.int .i64 t.l[k].v,.int .u8 t.l[k].c,.slice A2 n2 c2] 27);have hwB:Below w.heap.size w (wr.alloc (Obj.cells #[.int .u8 t.l[k].k,.int .i64 t.l[k].n,.int .i64 t.l[k].v,.int .u8 t.l[k].c,.slice A2 n2 c2] 27)):=(Hb5.out.trans (hbel.mono Hb5.out.size)).trans (hbB.mono (Nat.le_trans Hb5.out.size hbel.size));have hq:=Ih.out t.l[k] hn hmx A2 n2 c2 _ (((hx.more hbel.size).below hbB).more hbB.size) (fun n w' h0 hb=>HV.out n w' h0 (hwB.trans (hb.mono hwB.size))) (fun n w' h0 hb=>HMu.out n w' h0 (hwB.trans (hb.mono hwB.size)))
          have hku:k<(t.l.map (turnT fv fm)).length:=by rw[List.length_map]; exact hk'
          have hux:(t.l.map (turnT fv fm))[k]=turnT fv fm t.l[k]:=List.getElem_map _;obtain⟨u,hu⟩:∃ u,turnT fv fm t.l[k]=u:=⟨_,rfl⟩;rw[hu] at hux;have hst:=fun(w3:World) (hb:Below wr.heap.size wr w3) (A3:Option Addr) (n3 c3:Nat) (h:TysS w3 (fun b=>wr.heap.size≤b∧b<w3.heap.size) A3 n3 c3 u.l)=>hF.step hku u hux hb (Nat.le_refl _) hbel.size h;obtain⟨x,hxk⟩:∃ x,t.l[k]=x:=⟨_,rfl⟩;rw[hxk] at e0 e1 e2 e3 hx hn hmx hbB hq hu;rw[hu] at hq;have Hq:=qq hq;have Hst:=qq hst;have Hbel:=qq hbel;have HbB:=qq hbB;have Hfz:=qq hfz
          have k1:(0:Int)≤(k:Int):=by omega
          have k2:(k:Int)<m:=by omega
          clear hx hn hmx hbB hwB hq hst hbel hF hxk hfz hux hu hku;go_wp2_with fail
          refine Hq.out.mono ?_; rintro e w3 ⟨A3,n3,c3,rfl,hx3,hb3⟩
          have hb13:Below wr.heap.size wr w3:=HbB.out.trans (hb3.mono HbB.out.size);have hs:=Hst.out w3 hb13 A3 n3 c3 (hx3.mono fun b hb=>⟨Nat.le_trans HbB.out.size hb.1,hb.2⟩);have hbS:Below w5.heap.size w5 w3:=Hbel.out.trans (hb13.mono Hbel.out.size)
          have hbN:=hbS.grown hs.2.1 hbS.size (fun j hj=>by have:=hs.2.2.1; injection hj with hj; omega)
          have Hs1:=qq hs.1;have HbN:=qq hbN;have f0:=(hb13.cell (p:=⟨g,k * 5,none⟩) hgs).trans e0;have f1:=(hb13.cell (p:=⟨g,k * 5+1,none⟩) hgs).trans e1;have f2:=(hb13.cell (p:=⟨g,k * 5+2,none⟩) hgs).trans e2;have f3:=(hb13.cell (p:=⟨g,k * 5+3,none⟩) hgs).trans e3;have f4:=(hb13.cell (p:=⟨g,k * 5+4,none⟩) hgs).trans e4;have z0:=(hb13.frozen (p:=⟨g,k * 5,none⟩) hgs).trans (Hfz.out (k * 5));have z1:=(hb13.frozen (p:=⟨g,k * 5+1,none⟩) hgs).trans (Hfz.out (k * 5+1));have z2:=(hb13.frozen (p:=⟨g,k * 5+2,none⟩) hgs).trans (Hfz.out (k * 5+2));have z3:=(hb13.frozen (p:=⟨g,k * 5+3,none⟩) hgs).trans (Hfz.out (k * 5+3));have z4:=(hb13.frozen (p:=⟨g,k * 5+4,none⟩) hgs).trans (Hfz.out (k * 5+4));clear hx3 hb3 hb13 hs hbS hbN e0 e1 e2 e3 e4 Hq Hst Hbel HbB Hfz;go_wp2_with fail;go_roundg (m - (k+1))
          case measure=>omega
          case rel=>exact⟨k+1,by omega,rfl,by go_num,Hs1.out,HbN.out⟩
        · have d0:decide (k<m)=false:=by simpa using hkm
          have hkm':k=m:=by omega
          subst hkm';have hT:=hF.done;have hz:=Hz5.out.below hbel Hlz5.out;have hy:=Hy5.out.below hbel Hly5.out;have hb0:Below w.heap.size w wr:=Hb5.out.trans (hbel.mono Hb5.out.size);have hWs:=Hb5.out.size;have hly:w.heap.size+1<w5.heap.size:=Hly5.out;obtain⟨g2,hg2⟩:∃ g2,w.heap.size+1=g2:=⟨_,rfl⟩
          have hne:w.heap.size≠g2:=by omega
          have hg2w:w.heap.size≤g2:=by omega
          rw[hg2] at hy hly ⊢;have hz1:Blk (wr.setCell ⟨w.heap.size,4,none⟩ (.slice A1 k c1)) w.heap.size 27 #[.int .u8 t.k,.int .i64 t.n,.int .i64 t.v,.int .u8 t.c,.slice A1 k c1]:=hz.set_ 4 (.slice A1 k c1);have hy1:=hy.other hne 4 (.slice A1 k c1);have x4:=hz.cell 4;have xf:=hz.frozen 4;have q0:=hz1.cell 0;have q1:=hz1.cell 1;have q2:=hz1.cell 2;have q3:=hz1.cell 3;have q4:=hz1.cell 4;have r0:=hy1.cell 0;have r1:=hy1.cell 1;have r2:=hy1.cell 2;have r3:=hy1.cell 3;have r4:=hy1.cell 4;have s0:=hy1.frozen 0;have s1:=hy1.frozen 1;have s2:=hy1.frozen 2;have s3:=hy1.frozen 3;have s4:=hy1.frozen 4;have hb2:=hb0.setCell (p:=⟨w.heap.size,4,none⟩) (Nat.le_refl _) (.slice A1 k c1);have HT:=qq hT;have Hy1:=qq hy1;have Hb2:=qq hb2;have Hly2:=qq hly;clear hF hz hy hz1 hy1 hbel hT hb0 hb2 hg2 hly;go_wp2_with fail
          have hs:Blk (((((( wr.setCell ⟨w.heap.size,4,none⟩ (.slice A1 k c1)).setCell ⟨g2,0,none⟩ (.int .u8 t.k)).setCell ⟨g2,1,none⟩ (.int .i64 t.n)).setCell ⟨g2,2,none⟩ (.int .i64 t.v)).setCell ⟨g2,3,none⟩ (.int .u8 t.c)).setCell ⟨g2,4,none⟩ (.slice A1 k c1)) g2 27 #[.int .u8 t.k,.int .i64 t.n,.int .i64 t.v,.int .u8 t.c,.slice A1 k c1]:=
           ((((Hy1.out.set_ 0 (.int .u8 t.k)).set_ 1 (.int .i64 t.n)).set_ 2 (.int .i64 t.v)).set_ 3 (.int .u8 t.c)).set_ 4 (.slice A1 k c1)
          have hb9:=((((Hb2.out.setCell (p:=⟨g2,0,none⟩) hg2w (.int .u8 t.k)).setCell (p:=⟨g2,1,none⟩) hg2w (.int .i64 t.n)).setCell (p:=⟨g2,2,none⟩) hg2w (.int .i64 t.v)).setCell (p:=⟨g2,3,none⟩) hg2w (.int .u8 t.c)).setCell (p:=⟨g2,4,none⟩) hg2w (.slice A1 k c1)
          have hr9:TysS (((((( wr.setCell ⟨w.heap.size,4,none⟩ (.slice A1 k c1)).setCell ⟨g2,0,none⟩ (.int .u8 t.k)).setCell ⟨g2,1,none⟩ (.int .i64 t.n)).setCell ⟨g2,2,none⟩ (.int .i64 t.v)).setCell ⟨g2,3,none⟩ (.int .u8 t.c)).setCell ⟨g2,4,none⟩ (.slice A1 k c1)) (fun b=>w.heap.size≤b∧b<(((((( wr.setCell ⟨w.heap.size,4,none⟩ (.slice A1 k c1)).setCell ⟨g2,0,none⟩ (.int .u8 t.k)).setCell ⟨g2,1,none⟩ (.int .i64 t.n)).setCell ⟨g2,2,none⟩ (.int .i64 t.v)).setCell ⟨g2,3,none⟩ (.int .u8 t.c)).setCell ⟨g2,4,none⟩ (.slice A1 k c1)).heap.size) A1 k c1 (t.l.map (turnT fv fm)):=by
           refine HT.out.keep (fun b hb=>⟨by omega,by simpa using hb.2⟩) fun p hp=>?_
           have hlo:w5.heap.size≤p.block:=hp.1;have hl2:=Hly2.out
           have c1:∀ (W':World) (g o:Nat) (u:Value),g<w5.heap.size→(W'.setCell ⟨g,o,none⟩ u).cell? p=W'.cell? p:=fun W' g o u hg=>World.cell?_setCell_other _ _ _ _ (fun e=>by rw[← e] at hlo; exact absurd hlo (by show ¬ w5.heap.size≤g; omega))
           rw[c1 _ _ _ _ (by omega),c1 _ _ _ _ (by omega),c1 _ _ _ _ (by omega),c1 _ _ _ _ (by omega),c1 _ _ _ _ (by omega),c1 _ _ _ _ (by omega)]
          generalize (((((( wr.setCell ⟨w.heap.size,4,none⟩ (.slice A1 k c1)).setCell ⟨g2,0,none⟩ (.int .u8 t.k)).setCell ⟨g2,1,none⟩ (.int .i64 t.n)).setCell ⟨g2,2,none⟩ (.int .i64 t.v)).setCell ⟨g2,3,none⟩ (.int .u8 t.c)).setCell ⟨g2,4,none⟩ (.slice A1 k c1))=W6 at hs hb9 hr9 ⊢;have d0':W6.cell? ⟨g2,0,none⟩=some (.int .u8 t.k):=hs.cell 0;have d1':W6.cell? ⟨g2,1,none⟩=some (.int .i64 t.n):=hs.cell 1;have d2':W6.cell? ⟨g2,2,none⟩=some (.int .i64 t.v):=hs.cell 2;have d3':W6.cell? ⟨g2,3,none⟩=some (.int .u8 t.c):=hs.cell 3;have d4':W6.cell? ⟨g2,4,none⟩=some (.slice A1 k c1):=hs.cell 4
          exact bodyPost_ret (v:=.agg #[.int .u8 t.k,.int .i64 t.n,.int .i64 t.v,.int .u8 t.c,.slice A1 k c1]) (by simp[results,Tryz.results64,go_sem,d0',d1',d2',d3',d4']) rfl (by rw[HU.out]; exact⟨A1,k,c1,rfl,hr9,hb9⟩)
set_option maxRecDepth 100000 in
set_option maxHeartbeats 2000000 in
theorem canon1_any (p1:Nat) (A:Option Addr) (m c:Nat) (l:List Int) (i:Int) (w:World) (hp:w.cell? ⟨p1,0,none⟩=some (.slice A m c)) (hr:RdI .i64 w w.heap.size A m c l):
 Calls Tryz.prog 105 (#[.int .i64 i]++#[.pointer (some ⟨p1,0,none⟩)]) w (VPost (fun n=>some (plainV (idxN l n))) i w):=by
 have hbx:=below_box (w:=w) (Obj.cells #[.int .u8 0,.int .i64 0,.int .i64 0,.int .u8 0,.slice none 0 0] 27);have hy:=blk_new w #[.int .u8 0,.int .i64 0,.int .i64 0,.int .u8 0,.slice none 0 0] 27;have hp1:=(hbx.cell (p:=⟨p1,0,none⟩) (block_lt_of_cell hp)).trans hp;have hq:=indexI_any A m c l i _ _ (hr.below hbx);obtain⟨x,hx⟩:∃ x,idxN l i=x:=⟨_,rfl⟩;rw[hx] at hq;have Hq:=qq hq;have Hx:=qq hx;have Hbx:=qq hbx;have s0:=hy.frozen 0;have s1:=hy.frozen 1;have s2:=hy.frozen 2;have s3:=hy.frozen 3;have s4:=hy.frozen 4;have r0:=hy.cell 0;have r1:=hy.cell 1;have r2:=hy.cell 2;have r3:=hy.cell 3;have r4:=hy.cell 4;have Hy:=qq hy;clear hbx hy hp hr hq hx
 go_enter Tryz.func105,Tryz.ntmps105
 go_wp2_with fail
 refine Hq.out.mono ?_; rintro e w3 ⟨rfl,rfl⟩
 go_wp2_with fail;have hs9:=blk_new w #[.int .u8 1,.int .i64 x,.int .i64 0,.int .u8 0,.slice none 0 0] 27;have d0':=hs9.cell 0;have d1':=hs9.cell 1;have d2':=hs9.cell 2;have d3':=hs9.cell 3;have d4':=hs9.cell 4
 exact bodyPost_ret (v:=.tuple #[.agg #[.int .u8 1,.int .i64 x,.int .i64 0,.int .u8 0,.slice none 0 0],.bool true]) (by simp[results,Tryz.results105,go_sem,d0',d1',d2',d3',d4']) rfl ⟨plainV x,none,0,0,true,rfl,TysS.nil,by show some (plainV (idxN l i))=_; rw[Hx.out]; rfl,below_box _⟩
set_option maxRecDepth 100000 in
set_option maxHeartbeats 2000000 in
theorem canon2_any (p1:Nat) (A:Option Addr) (m c:Nat) (l:List Int) (i:Int) (w:World) (hp:w.cell? ⟨p1,0,none⟩=some (.slice A m c)) (hr:RdI .i64 w w.heap.size A m c l):
 Calls Tryz.prog 107 (#[.int .i64 i]++#[.pointer (some ⟨p1,0,none⟩)]) w fun e w'=>e=.returned (.agg #[.int .i64 ((fun v=>(idxN l v,(0:Int))) i).1,.int .u8 ((fun v=>(idxN l v,(0:Int))) i).2])∧Below w.heap.size w w':=by
 have hbx:=below_box (w:=w) (Obj.cells #[.int .i64 0,.int .u8 0] 24);have hy:=blk_new w #[.int .i64 0,.int .u8 0] 24;have hp1:=(hbx.cell (p:=⟨p1,0,none⟩) (block_lt_of_cell hp)).trans hp;have hq:=indexI_any A m c l i _ _ (hr.below hbx);show Calls _ _ _ _ fun e w'=>e=.returned (.agg #[.int .i64 (idxN l i),.int .u8 0])∧Below w.heap.size w w';obtain⟨x,hx⟩:∃ x,idxN l i=x:=⟨_,rfl⟩;rw[hx] at hq ⊢;have Hq:=qq hq;have Hbx:=qq hbx;have s0:=hy.frozen 0;have s1:=hy.frozen 1;have r0:=hy.cell 0;have r1:=hy.cell 1;have Hy:=qq hy;clear hbx hy hp hr hq hx
 go_enter Tryz.func107,Tryz.ntmps107
 go_wp2_with fail
 refine Hq.out.mono ?_; rintro e w3 ⟨rfl,rfl⟩
 go_wp2_with fail;have hs9:=blk_new w #[.int .i64 x,.int .u8 0] 24;have d0':=hs9.cell 0;have d1':=hs9.cell 1;exact bodyPost_ret (v:=.agg #[.int .i64 x,.int .u8 0]) (by simp[results,Tryz.results107,go_sem,d0',d1']) rfl ⟨rfl,below_box _⟩
end Go.Proofs.YtdmakpmbknindaaGreatDoor
