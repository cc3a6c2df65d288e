import Derived.Test.YtgpeijkjmkocgaaDoorM6
set_option linter.unusedVariables false
set_option linter.unusedSimpArgs false
set_option maxHeartbeats 8000000
set_option maxRecDepth 100000
namespace Go.Proofs.YtgpeijkjmkocgaaDoor
open Go.RowKit
theorem mayT_v {t:TyD} (h:mayT t=true):0≤t.v:=by
 rw[mayT_eq,Bool.and_eq_true] at h;have:=h.1;unfold isN at this;simp only[Bool.and_eq_true,Bool.or_eq_true,decide_eq_true_eq] at this
 rcases this.2 with h1 | h1
 · omega
 · have h2:=h1.2
   unfold isB at h2;simp only[Bool.or_eq_true,Bool.and_eq_true,decide_eq_true_eq,beq_iff_eq] at h2
   rcases h2 with h2 | h2 <;> omega
theorem mayT_leaf {t:TyD} (h:mayT t=true) (hk:t.k=1):t.l=[]:=by
 rw[mayT_eq,Bool.and_eq_true] at h;have:=h.1;unfold isN at this;rw[hk] at this;simp only[Bool.and_eq_true,Bool.not_eq_true',Bool.and_eq_false_iff,Bool.not_eq_false',decide_eq_true_eq,decide_eq_false_iff_not] at this;have h1:=this.1.1.2
 have hk0:kidsI 1=0:=by decide
 rw[hk0] at h1
 exact List.length_eq_zero_iff.1 (by rcases h1 with h1 | h1 <;> omega)
def VPost (fv:Int→Option TyD) (n:Int) (w':World) (e:Ending) (w'':World):Prop:=
 ∃ (x:TyD) (A:Option Addr) (m c:Nat) (b:Bool),e=.returned (.tuple #[.agg #[.int .u8 x.k,.int .i64 x.n,.int .i64 x.v,.int .u8 x.c,.slice A m c],.bool b])∧TysS w'' (fun q=>w'.heap.size≤q∧q<w''.heap.size) A m c x.l∧fv n=(if b then some x else none)∧Below w'.heap.size w' w''
def TurnC (w:World) (A:Option Addr) (m cp:Nat) (t:TyD) (V C:Int) (wx:World):Prop:=
 Blk wx w.heap.size 63 #[.int .u8 t.k,.int .i64 t.n,.int .i64 V,.int .u8 C,.slice A m cp]∧Blk wx (w.heap.size+1) 63 #[.int .u8 0,.int .i64 0,.int .i64 0,.int .u8 0,.slice none 0 0]∧Below w.heap.size w wx∧TysV wx w.heap.size A m cp t.l
theorem turnG (fv:Int→Option TyD) (fm:Int→Int × Int) (F1 F2:FuncId) (cap1 cap2:Array Value) (hF1:∀ (a:Array Value) (w:World),Sem.run Tryd.prog (callFunc F1 a) w=.ok (.enter F1 a) w) (hF2:∀ (a:Array Value) (w:World),Sem.run Tryd.prog (callFunc F2 a) w=.ok (.enter F2 a) w) (N:Nat):∀ (t:TyD),nodes t≤N→mayT t=true→∀ (A:Option Addr) (m cp:Nat) (w:World),TysV w w.heap.size A m cp t.l →
  (∀ (n:Int) (w':World),0≤n→Below w.heap.size w w'→Calls Tryd.prog F1 (#[.int .i64 n]++cap1) w' (VPost fv n w')) →
  (∀ (n:Int) (w':World),0≤n→Below w.heap.size w w'→Calls Tryd.prog F2 (#[.int .i64 n]++cap2) w' fun e w''=>e=.returned (.agg #[.int .i64 (fm n).1,.int .u8 (fm n).2])∧Below w'.heap.size w' w'') →
  Calls Tryd.prog 90 #[.agg #[.int .u8 t.k,.int .i64 t.n,.int .i64 t.v,.int .u8 t.c,.slice A m cp],.func (.func F1) #[] cap1,.func (.func F2) #[] cap2] w (FreshT (turnT fv fm t) w):=by
 induction N with
 | zero=>intro t hN; exact absurd hN (by rw[nodes_eq t]; omega)
 | succ N ih=>
   intro t hN hm A m cp w hl hv hmu;have Ih:=qq ih;clear ih;have hlen:=hl.len
   have m4:m≤4:=by rw[← hlen]; exact mayT_len hm
   have hbx:Below w.heap.size w ((w.alloc (Obj.cells #[.int .u8 t.k,.int .i64 t.n,.int .i64 t.v,.int .u8 t.c,.slice A m cp] 63)).alloc (Obj.cells #[.int .u8 0,.int .i64 0,.int .i64 0,.int .u8 0,.slice none 0 0] 63)):=((Below.refl _ _).alloc (Nat.le_refl _) _).alloc (by simp) _;have hz:=(blk_new w #[.int .u8 t.k,.int .i64 t.n,.int .i64 t.v,.int .u8 t.c,.slice A m cp] 63).alloc (Obj.cells #[.int .u8 0,.int .i64 0,.int .i64 0,.int .u8 0,.slice none 0 0] 63);have hy:=blk_new (w.alloc (Obj.cells #[.int .u8 t.k,.int .i64 t.n,.int .i64 t.v,.int .u8 t.c,.slice A m cp] 63)) #[.int .u8 0,.int .i64 0,.int .i64 0,.int .u8 0,.slice none 0 0] 63;rw[World.size_alloc] at hy;obtain⟨W,hW⟩:∃ W,(w.alloc (Obj.cells #[.int .u8 t.k,.int .i64 t.n,.int .i64 t.v,.int .u8 t.c,.slice A m cp] 63)).alloc (Obj.cells #[.int .u8 0,.int .i64 0,.int .i64 0,.int .u8 0,.slice none 0 0] 63)=W:=⟨_,rfl⟩;rw[hW] at hbx hz hy;have HL:=qq ((hl.below hbx).more hbx.size);have HL0:=qq (hl.below hbx);have HW:=qq hW;have Hbx:=qq hbx;have Hz:=qq hz;have Hy:=qq hy;have HM:=qq hm;have HV:=qq hv;have HMu:=qq hmu
   have HN:Hid (∀ i (h:i<t.l.length),nodes t.l[i]≤N):=qq fun i h=>by have:=nodes_get h; omega
   have z0:=hz.cell 0;have z1:=hz.cell 1;have z2:=hz.cell 2;have z3:=hz.cell 3;have z4:=hz.cell 4;have hU:=turnT_eq fv fm t;have HU0:=qq hU;clear hl hbx hz hy hW hN hm hv hmu hU
   by_cases hk:t.k=1
   · have e70:=trivial
     clear e70
     have d1:(t.k==1)=true:=by simp[hk]
     have hn0:=mayT_n HM.out;have hleaf:=mayT_leaf HM.out hk;have hq:=HV.out t.n W hn0 Hbx.out;have Hq:=qq hq;have HU1:Hid (turnT fv fm t=(fv t.n).getD t):=qq (by rw[HU0.out,if_pos hk]);have Hleaf:=qq hleaf;clear hk hq hleaf HU0
     go_enter Tryd.func90,Tryd.ntmps90
     go_wp2_with fail;rw[HW.out]
     refine Hq.out.mono ?_; rintro e w3 ⟨x,A3,m3,c3,b,rfl,hx3,hfv,hb3⟩
     obtain⟨g2,hg2⟩:∃ g2,w.heap.size+1=g2:=⟨_,rfl⟩
     have hg2w:w.heap.size≤g2:=by omega
     have hWs:w.heap.size+1<W.heap.size:=Hy.out.lt;have hb0:Below w.heap.size w w3:=Hbx.out.trans (hb3.mono Hbx.out.size)
     cases b with
     | true=>
       have HU:Hid (turnT fv fm t=x):=qq (by rw[HU1.out,hfv]; rfl)
       have hbB:=below_box (w:=w3) (Obj.cells #[.int .u8 x.k,.int .i64 x.n,.int .i64 x.v,.int .u8 x.c,.slice A3 m3 c3] 63);have hx4:=blk_new w3 #[.int .u8 x.k,.int .i64 x.n,.int .i64 x.v,.int .u8 x.c,.slice A3 m3 c3] 63;have hy4:=(Hy.out.below hb3 Hy.out.lt).below hbB (Hy.out.below hb3 Hy.out.lt).lt;have hb4:=hb0.trans (hbB.mono hb0.size)
       have hT4:TysS (w3.alloc (Obj.cells #[.int .u8 x.k,.int .i64 x.n,.int .i64 x.v,.int .u8 x.c,.slice A3 m3 c3] 63)) (fun q=>w.heap.size≤q∧q<(w3.alloc (Obj.cells #[.int .u8 x.k,.int .i64 x.n,.int .i64 x.v,.int .u8 x.c,.slice A3 m3 c3] 63)).heap.size∧q≠g2) A3 m3 c3 x.l:=
        hx3.keep (fun q hq=>⟨by omega,by have:=hbB.size; omega,by omega⟩) fun p hp=>hbB.cell hp.2
       rw[hg2] at hy4 ⊢;have s0:=hy4.frozen 0;have s1:=hy4.frozen 1;have s2:=hy4.frozen 2;have s3:=hy4.frozen 3;have s4:=hy4.frozen 4;have r0:=hy4.cell 0;have r1:=hy4.cell 1;have r2:=hy4.cell 2;have r3:=hy4.cell 3;have r4:=hy4.cell 4;have Hy4:=qq hy4;have Hb4:=qq hb4;have HT4:=qq hT4;clear z0 z1 z2 z3 z4 hx3 hb3 hfv hbB hx4 hy4 hb4 hT4 hb0 HL HW Hbx Hz Hy HV HMu Hq HU1 hWs hg2;go_wp2_with fail
       have hs:Blk ((((((w3.alloc (Obj.cells #[.int .u8 x.k,.int .i64 x.n,.int .i64 x.v,.int .u8 x.c,.slice A3 m3 c3] 63)).setCell ⟨g2,0,none⟩ (.int .u8 x.k)).setCell ⟨g2,1,none⟩ (.int .i64 x.n)).setCell ⟨g2,2,none⟩ (.int .i64 x.v)).setCell ⟨g2,3,none⟩ (.int .u8 x.c)).setCell ⟨g2,4,none⟩ (.slice A3 m3 c3)) g2 63 #[.int .u8 x.k,.int .i64 x.n,.int .i64 x.v,.int .u8 x.c,.slice A3 m3 c3]:=
        ((((Hy4.out.set_ 0 (.int .u8 x.k)).set_ 1 (.int .i64 x.n)).set_ 2 (.int .i64 x.v)).set_ 3 (.int .u8 x.c)).set_ 4 (.slice A3 m3 c3)
       have hb9:=((((Hb4.out.setCell (p:=⟨g2,0,none⟩) hg2w (.int .u8 x.k)).setCell (p:=⟨g2,1,none⟩) hg2w (.int .i64 x.n)).setCell (p:=⟨g2,2,none⟩) hg2w (.int .i64 x.v)).setCell (p:=⟨g2,3,none⟩) hg2w (.int .u8 x.c)).setCell (p:=⟨g2,4,none⟩) hg2w (.slice A3 m3 c3)
       have hr9:∀ (l:List TyD) (A:Option Addr) (m c:Nat),TysS (w3.alloc (Obj.cells #[.int .u8 x.k,.int .i64 x.n,.int .i64 x.v,.int .u8 x.c,.slice A3 m3 c3] 63)) (fun q=>w.heap.size≤q∧q<(w3.alloc (Obj.cells #[.int .u8 x.k,.int .i64 x.n,.int .i64 x.v,.int .u8 x.c,.slice A3 m3 c3] 63)).heap.size∧q≠g2) A m c l→TysS ((((((w3.alloc (Obj.cells #[.int .u8 x.k,.int .i64 x.n,.int .i64 x.v,.int .u8 x.c,.slice A3 m3 c3] 63)).setCell ⟨g2,0,none⟩ (.int .u8 x.k)).setCell ⟨g2,1,none⟩ (.int .i64 x.n)).setCell ⟨g2,2,none⟩ (.int .i64 x.v)).setCell ⟨g2,3,none⟩ (.int .u8 x.c)).setCell ⟨g2,4,none⟩ (.slice A3 m3 c3)) (fun b=>w.heap.size≤b∧b<((((((w3.alloc (Obj.cells #[.int .u8 x.k,.int .i64 x.n,.int .i64 x.v,.int .u8 x.c,.slice A3 m3 c3] 63)).setCell ⟨g2,0,none⟩ (.int .u8 x.k)).setCell ⟨g2,1,none⟩ (.int .i64 x.n)).setCell ⟨g2,2,none⟩ (.int .i64 x.v)).setCell ⟨g2,3,none⟩ (.int .u8 x.c)).setCell ⟨g2,4,none⟩ (.slice A3 m3 c3)).heap.size) A m c l:=by
        intro l A m c h
        refine h.keep (fun b hb=>⟨hb.1,by simpa using hb.2.1⟩) fun p hp=>?_
        have c1:∀ (W':World) (o:Nat) (u:Value),(W'.setCell ⟨g2,o,none⟩ u).cell? p=W'.cell? p:=fun W' o u=>World.cell?_setCell_other _ _ _ _ (fun e=>hp.2.2 (by rw[← e]));rw[c1,c1,c1,c1,c1]
       replace hr9:=hr9 _ _ _ _ HT4.out;generalize ((((((w3.alloc (Obj.cells #[.int .u8 x.k,.int .i64 x.n,.int .i64 x.v,.int .u8 x.c,.slice A3 m3 c3] 63)).setCell ⟨g2,0,none⟩ (.int .u8 x.k)).setCell ⟨g2,1,none⟩ (.int .i64 x.n)).setCell ⟨g2,2,none⟩ (.int .i64 x.v)).setCell ⟨g2,3,none⟩ (.int .u8 x.c)).setCell ⟨g2,4,none⟩ (.slice A3 m3 c3))=W6 at hs hb9 hr9 ⊢;have d0':W6.cell? ⟨g2,0,none⟩=some (.int .u8 x.k):=hs.cell 0;have d1':W6.cell? ⟨g2,1,none⟩=some (.int .i64 x.n):=hs.cell 1;have d2':W6.cell? ⟨g2,2,none⟩=some (.int .i64 x.v):=hs.cell 2;have d3':W6.cell? ⟨g2,3,none⟩=some (.int .u8 x.c):=hs.cell 3;have d4':W6.cell? ⟨g2,4,none⟩=some (.slice A3 m3 c3):=hs.cell 4
       exact bodyPost_ret (v:=.agg #[.int .u8 x.k,.int .i64 x.n,.int .i64 x.v,.int .u8 x.c,.slice A3 m3 c3]) (by simp[results,Tryd.results90,go_sem,d0',d1',d2',d3',d4']) rfl (by rw[HU.out]; exact⟨_,_,_,rfl,hr9,hb9⟩)
     | false=>
       have HU:Hid (turnT fv fm t=t):=qq (by rw[HU1.out,hfv]; rfl)
       have hbB:=below_box (w:=w3) (Obj.cells #[.int .u8 x.k,.int .i64 x.n,.int .i64 x.v,.int .u8 x.c,.slice A3 m3 c3] 63);have hz4:=(Hz.out.below hb3 Hz.out.lt).below hbB (Hz.out.below hb3 Hz.out.lt).lt;have hy4:=(Hy.out.below hb3 Hy.out.lt).below hbB (Hy.out.below hb3 Hy.out.lt).lt;have hb4:=hb0.trans (hbB.mono hb0.size)
       have hT4:TysS (w3.alloc (Obj.cells #[.int .u8 x.k,.int .i64 x.n,.int .i64 x.v,.int .u8 x.c,.slice A3 m3 c3] 63)) (fun q=>w.heap.size≤q∧q<(w3.alloc (Obj.cells #[.int .u8 x.k,.int .i64 x.n,.int .i64 x.v,.int .u8 x.c,.slice A3 m3 c3] 63)).heap.size∧q≠g2) A m cp t.l:=by
        have h0:m=0:=by rw[← hlen,Hleaf.out]; rfl
        have hL:=HL.out;exact⟨hL.1,hL.2.1,hL.2.2.1,fun h=>absurd h (by omega)⟩
       rw[hg2] at hy4 ⊢;have q0:=hz4.cell 0;have q1:=hz4.cell 1;have q2:=hz4.cell 2;have q3:=hz4.cell 3;have q4:=hz4.cell 4;have s0:=hy4.frozen 0;have s1:=hy4.frozen 1;have s2:=hy4.frozen 2;have s3:=hy4.frozen 3;have s4:=hy4.frozen 4;have r0:=hy4.cell 0;have r1:=hy4.cell 1;have r2:=hy4.cell 2;have r3:=hy4.cell 3;have r4:=hy4.cell 4;have Hy4:=qq hy4;have Hb4:=qq hb4;have HT4:=qq hT4;clear z0 z1 z2 z3 z4 hx3 hb3 hfv hbB hy4 hz4 hb4 hT4 hb0 HL HW Hbx Hz Hy HV HMu Hq HU1 hWs hg2;go_wp2_with fail
       have hs:Blk ((((((w3.alloc (Obj.cells #[.int .u8 x.k,.int .i64 x.n,.int .i64 x.v,.int .u8 x.c,.slice A3 m3 c3] 63)).setCell ⟨g2,0,none⟩ (.int .u8 t.k)).setCell ⟨g2,1,none⟩ (.int .i64 t.n)).setCell ⟨g2,2,none⟩ (.int .i64 t.v)).setCell ⟨g2,3,none⟩ (.int .u8 t.c)).setCell ⟨g2,4,none⟩ (.slice A m cp)) g2 63 #[.int .u8 t.k,.int .i64 t.n,.int .i64 t.v,.int .u8 t.c,.slice A m cp]:=
        ((((Hy4.out.set_ 0 (.int .u8 t.k)).set_ 1 (.int .i64 t.n)).set_ 2 (.int .i64 t.v)).set_ 3 (.int .u8 t.c)).set_ 4 (.slice A m cp)
       have hb9:=((((Hb4.out.setCell (p:=⟨g2,0,none⟩) hg2w (.int .u8 t.k)).setCell (p:=⟨g2,1,none⟩) hg2w (.int .i64 t.n)).setCell (p:=⟨g2,2,none⟩) hg2w (.int .i64 t.v)).setCell (p:=⟨g2,3,none⟩) hg2w (.int .u8 t.c)).setCell (p:=⟨g2,4,none⟩) hg2w (.slice A m cp)
       have hr9:∀ (l:List TyD) (A:Option Addr) (m c:Nat),TysS (w3.alloc (Obj.cells #[.int .u8 x.k,.int .i64 x.n,.int .i64 x.v,.int .u8 x.c,.slice A3 m3 c3] 63)) (fun q=>w.heap.size≤q∧q<(w3.alloc (Obj.cells #[.int .u8 x.k,.int .i64 x.n,.int .i64 x.v,.int .u8 x.c,.slice A3 m3 c3] 63)).heap.size∧q≠g2) A m c l→TysS ((((((w3.alloc (Obj.cells #[.int .u8 x.k,.int .i64 x.n,.int .i64 x.v,.int .u8 x.c,.slice A3 m3 c3] 63)).setCell ⟨g2,0,none⟩ (.int .u8 t.k)).setCell ⟨g2,1,none⟩ (.int .i64 t.n)).setCell ⟨g2,2,none⟩ (.int .i64 t.v)).setCell ⟨g2,3,none⟩ (.int .u8 t.c)).setCell ⟨g2,4,none⟩ (.slice A m cp)) (fun b=>w.heap.size≤b∧b<((((((w3.alloc (Obj.cells #[.int .u8 x.k,.int .i64 x.n,.int .i64 x.v,.int .u8 x.c,.slice A3 m3 c3] 63)).setCell ⟨g2,0,none⟩ (.int .u8 t.k)).setCell ⟨g2,1,none⟩ (.int .i64 t.n)).setCell ⟨g2,2,none⟩ (.int .i64 t.v)).setCell ⟨g2,3,none⟩ (.int .u8 t.c)).setCell ⟨g2,4,none⟩ (.slice A m cp)).heap.size) A m c l:=by
        intro l A m c h
        refine h.keep (fun b hb=>⟨hb.1,by simpa using hb.2.1⟩) fun p hp=>?_
        have c1:∀ (W':World) (o:Nat) (u:Value),(W'.setCell ⟨g2,o,none⟩ u).cell? p=W'.cell? p:=fun W' o u=>World.cell?_setCell_other _ _ _ _ (fun e=>hp.2.2 (by rw[← e]));rw[c1,c1,c1,c1,c1]
       replace hr9:=hr9 _ _ _ _ HT4.out;generalize ((((((w3.alloc (Obj.cells #[.int .u8 x.k,.int .i64 x.n,.int .i64 x.v,.int .u8 x.c,.slice A3 m3 c3] 63)).setCell ⟨g2,0,none⟩ (.int .u8 t.k)).setCell ⟨g2,1,none⟩ (.int .i64 t.n)).setCell ⟨g2,2,none⟩ (.int .i64 t.v)).setCell ⟨g2,3,none⟩ (.int .u8 t.c)).setCell ⟨g2,4,none⟩ (.slice A m cp))=W6 at hs hb9 hr9 ⊢;have d0':W6.cell? ⟨g2,0,none⟩=some (.int .u8 t.k):=hs.cell 0;have d1':W6.cell? ⟨g2,1,none⟩=some (.int .i64 t.n):=hs.cell 1;have d2':W6.cell? ⟨g2,2,none⟩=some (.int .i64 t.v):=hs.cell 2;have d3':W6.cell? ⟨g2,3,none⟩=some (.int .u8 t.c):=hs.cell 3;have d4':W6.cell? ⟨g2,4,none⟩=some (.slice A m cp):=hs.cell 4
       exact bodyPost_ret (v:=.agg #[.int .u8 t.k,.int .i64 t.n,.int .i64 t.v,.int .u8 t.c,.slice A m cp]) (by simp[results,Tryd.results90,go_sem,d0',d1',d2',d3',d4']) rfl (by rw[HU.out]; exact⟨_,_,_,rfl,hr9,hb9⟩)
   · have d1:(t.k==1)=false:=by simp[hk]
     obtain⟨V5,hV5⟩:∃ v,(if t.k=7∧t.c=0 then (fm t.v).1 else t.v)=v:=⟨_,rfl⟩;obtain⟨C5',hC5⟩:∃ v,(if t.k=7∧t.c=0 then (fm t.v).2 else t.c)=v:=⟨_,rfl⟩;have HU:Hid (turnT fv fm t=.mk t.k t.n V5 C5' (t.l.map (turnT fv fm))):=qq (by rw[HU0.out,if_neg hk,hV5,hC5]);have HV5:=qq hV5;have HC5:=qq hC5;clear hV5 hC5 hk HU0;obtain⟨Q,hQ⟩:∃ q,(decide (t.k=7)&&decide (t.c=0))=q:=⟨_,rfl⟩;have HQ:=qq hQ;clear hQ
     go_enter Tryd.func90,Tryd.ntmps90
     go_upto_region 6 with fail;rw[HW.out]
     go_cut [33] (fun s wx=>s=.bool Q∧wx=W)
     case first=>
      by_cases h7:t.k=7
      · have d7:(t.k==7)=true:=by simp[h7]
        by_cases hc:t.c=0
        · have dc:(t.c==0)=true:=by simp[hc]
          obtain rfl:Q=true:=by rw[← HQ.out]; simp[h7,hc]
          clear h7 hc;go_wp2_with fail;go_meet;exact⟨rfl,rfl⟩
        · have dc:(t.c==0)=false:=by simp[hc]
          obtain rfl:Q=false:=by rw[← HQ.out]; simp[hc]
          clear h7 hc;go_wp2_with fail;go_meet;exact⟨rfl,rfl⟩
      · have d7:(t.k==7)=false:=by simp[h7]
        obtain rfl:Q=false:=by rw[← HQ.out]; simp[h7]
        clear h7;go_wp2_with fail;go_meet;exact⟨rfl,rfl⟩
     case rest=>
     obtain⟨rfl,hwc⟩:=hcut;have hwd:=hwc.symm;subst hwd
     go_upto_if 33 with fail
     go_cut [] (fun wx=>TurnC w A m cp t V5 C5' wx)
     case first=>
      have hQ:=HQ.out
      cases Q with
      | true=>
        have h7:t.k=7∧t.c=0:=by simpa using hQ
        clear hQ;have hq:=HMu.out t.v W (mayT_v HM.out) Hbx.out;have hV5:=HV5.out;have hC5:=HC5.out;rw[if_pos h7] at hV5 hC5;rw[hV5,hC5] at hq;have Hq:=qq hq;clear hq hV5 hC5 h7;go_wp2_with fail
        refine Hq.out.mono ?_; rintro e w3 ⟨rfl,hb3⟩
        have hz3:=Hz.out.below hb3 Hz.out.lt;have hy3:=Hy.out.below hb3 Hy.out.lt;have hb0:Below w.heap.size w w3:=Hbx.out.trans (hb3.mono Hbx.out.size)
        have hne:w.heap.size≠w.heap.size+1:=by omega
        have x2:=hz3.cell 2;have x3:=hz3.cell 3;have f2:=hz3.frozen 2;have f3:=hz3.frozen 3;have hz5:=(hz3.set_ 2 (.int .i64 V5)).set_ 3 (.int .u8 C5');have hy5:=(hy3.other hne 2 (.int .i64 V5)).other hne 3 (.int .u8 C5');have hb5:=(hb0.setCell (p:=⟨w.heap.size,2,none⟩) (Nat.le_refl _) (.int .i64 V5)).setCell (p:=⟨w.heap.size,3,none⟩) (Nat.le_refl _) (.int .u8 C5')
        have hl5:TysV ((w3.setCell ⟨w.heap.size,2,none⟩ (.int .i64 V5)).setCell ⟨w.heap.size,3,none⟩ (.int .u8 C5')) w.heap.size A m cp t.l:=by
         refine HL0.out.keep fun p hp=>?_
         have c1:∀ (W':World) (o:Nat) (u:Value),(W'.setCell ⟨w.heap.size,o,none⟩ u).cell? p=W'.cell? p:=fun W' o u=>World.cell?_setCell_other _ _ _ _ (fun e=>by rw[← e] at hp; exact Nat.lt_irrefl _ hp)
         rw[c1,c1];exact hb3.cell (Nat.lt_of_lt_of_le hp Hbx.out.size)
        have HE:=qq (show TurnC w A m cp t V5 C5' _ from⟨hz5,hy5,hb5,hl5⟩)
        clear hz3 hy3 hb0 hz5 hy5 hb5 hl5 hb3 z0 z1 z2 z3 z4;go_wp2_with fail;clear x2 x3 f2 f3;go_meet;exact HE.out
      | false=>
        have hV5:=HV5.out;have hC5:=HC5.out
        have h7:¬ (t.k=7∧t.c=0):=by simpa using hQ
        rw[if_neg h7] at hV5 hC5
        subst hV5; subst hC5
        clear h7 hQ;go_wp2_with fail;go_meet;exact⟨Hz.out,Hy.out,Hbx.out,HL0.out⟩
     case rest=>
      obtain⟨w5,hw5⟩:∃ w5,w5=wc:=⟨_,rfl⟩;subst hw5;obtain⟨hz5,hy5,hb5,hl5⟩:=hcut;have Hlz5:=qq hz5.lt;have Hly5:=qq hy5.lt;have HL5:=qq (hl5.more hb5.size);have Hz5:=qq hz5;have Hy5:=qq hy5;have Hb5:=qq hb5;clear hz5 hy5 hb5 hl5 HL HL0 Hbx Hz Hy z0 z1 z2 z3 z4;have hq:=cloneTy_any A m cp t.l w5 HL5.out (by omega);have Hq:=qq hq;have y4:=Hz5.out.cell 4;clear hq;go_wp2_with fail
      refine Hq.out.mono ?_; rintro e w6 ⟨v1,rfl,hown,hform,hb1⟩
      obtain⟨A1,c1,rfl⟩:∃ A1 c1,v1=.slice A1 m c1:=ownsRow_form hown.2.choose_spec.1;have HF:=qq (TurnI.start (us:=t.l.map (turnT fv fm)) hown (by rw[List.length_map]));have Hb1:=qq hb1;clear hown hform hb1 Hq
      try clear y4
      go_wp2_with fail
      go_loopg [45] m (fun gh i wr=>∃ k:Nat,k≤m∧gh=m - k∧i=.int .i64 k∧TurnI t.l (t.l.map (turnT fv fm)) w5.heap.size w5.heap.size (.slice A1 m c1) m k wr∧Below w5.heap.size w5 wr)
      case atStart=>exact⟨0,Nat.zero_le _,rfl,rfl,HF.out,Hb1.out⟩
      case round=>
       obtain⟨k,hk,rfl,rfl,hF,hbel⟩:=hrel
       by_cases hkm:k<m
       · have d0:decide (k<m)=true:=by simpa using hkm
         have hk':k<t.l.length:=by omega
         obtain⟨g,rfl,hgb,hgs,A2,n2,c2,e0,e1,e2,e3,e4,hx,hfz⟩:=hF.slot hk';have hn:=HN.out k hk';have hmx:=mayT_kid HM.out hk';have hbB:=below_box (w:=wr) (Obj.cells #[.int .u8 t.l[k].k,.int .i64 t.l[k].n,.int .i64 t.l[k].v,.int .u8 t.l[k].c,.slice A2 n2 c2] 63);have hwB:Below w.heap.size w (wr.alloc (Obj.cells #[.int .u8 t.l[k].k,.int .i64 t.l[k].n,.int .i64 t.l[k].v,.int .u8 t.l[k].c,.slice A2 n2 c2] 63)):=(Hb5.out.trans (hbel.mono Hb5.out.size)).trans (hbB.mono (Nat.le_trans Hb5.out.size hbel.size));have hq:=Ih.out t.l[k] hn hmx A2 n2 c2 _ (((hx.more hbel.size).below hbB).more hbB.size) (fun n w' h0 hb=>HV.out n w' h0 (hwB.trans (hb.mono hwB.size))) (fun n w' h0 hb=>HMu.out n w' h0 (hwB.trans (hb.mono hwB.size)))
         have hku:k<(t.l.map (turnT fv fm)).length:=by rw[List.length_map]; exact hk'
         have hux:(t.l.map (turnT fv fm))[k]=turnT fv fm t.l[k]:=List.getElem_map _;obtain⟨u,hu⟩:∃ u,turnT fv fm t.l[k]=u:=⟨_,rfl⟩;rw[hu] at hux;have hst:=fun(w3:World) (hb:Below wr.heap.size wr w3) (A3:Option Addr) (n3 c3:Nat) (h:TysS w3 (fun b=>wr.heap.size≤b∧b<w3.heap.size) A3 n3 c3 u.l)=>hF.step hku u hux hb (Nat.le_refl _) hbel.size h;obtain⟨x,hxk⟩:∃ x,t.l[k]=x:=⟨_,rfl⟩;rw[hxk] at e0 e1 e2 e3 hx hn hmx hbB hq hu;rw[hu] at hq;have Hq:=qq hq;have Hst:=qq hst;have Hbel:=qq hbel;have HbB:=qq hbB;have Hfz:=qq hfz
         have k1:(0:Int)≤(k:Int):=by omega
         have k2:(k:Int)<m:=by omega
         clear hx hn hmx hbB hwB hq hst hbel hF hxk hfz hux hu hku;go_wp2_with fail
         refine Hq.out.mono ?_; rintro e w3 ⟨A3,n3,c3,rfl,hx3,hb3⟩
         have hb13:Below wr.heap.size wr w3:=HbB.out.trans (hb3.mono HbB.out.size);have hs:=Hst.out w3 hb13 A3 n3 c3 (hx3.mono fun b hb=>⟨Nat.le_trans HbB.out.size hb.1,hb.2⟩);have hbS:Below w5.heap.size w5 w3:=Hbel.out.trans (hb13.mono Hbel.out.size)
         have hbN:=hbS.grown hs.2.1 hbS.size (fun j hj=>by have:=hs.2.2.1; injection hj with hj; omega)
         have Hs1:=qq hs.1;have HbN:=qq hbN;have f0:=(hb13.cell (p:=⟨g,k * 5,none⟩) hgs).trans e0;have f1:=(hb13.cell (p:=⟨g,k * 5+1,none⟩) hgs).trans e1;have f2:=(hb13.cell (p:=⟨g,k * 5+2,none⟩) hgs).trans e2;have f3:=(hb13.cell (p:=⟨g,k * 5+3,none⟩) hgs).trans e3;have f4:=(hb13.cell (p:=⟨g,k * 5+4,none⟩) hgs).trans e4;have z0:=(hb13.frozen (p:=⟨g,k * 5,none⟩) hgs).trans (Hfz.out (k * 5));have z1:=(hb13.frozen (p:=⟨g,k * 5+1,none⟩) hgs).trans (Hfz.out (k * 5+1));have z2:=(hb13.frozen (p:=⟨g,k * 5+2,none⟩) hgs).trans (Hfz.out (k * 5+2));have z3:=(hb13.frozen (p:=⟨g,k * 5+3,none⟩) hgs).trans (Hfz.out (k * 5+3));have z4:=(hb13.frozen (p:=⟨g,k * 5+4,none⟩) hgs).trans (Hfz.out (k * 5+4));clear hx3 hb3 hb13 hs hbS hbN e0 e1 e2 e3 e4 Hq Hst Hbel HbB Hfz;go_wp2_with fail;go_roundg (m - (k+1))
         case measure=>omega
         case rel=>exact⟨k+1,by omega,rfl,by go_num,Hs1.out,HbN.out⟩
       · have d0:decide (k<m)=false:=by simpa using hkm
         have hkm':k=m:=by omega
         subst hkm';have hT:=hF.done;have hz:=Hz5.out.below hbel Hlz5.out;have hy:=Hy5.out.below hbel Hly5.out;have hb0:Below w.heap.size w wr:=Hb5.out.trans (hbel.mono Hb5.out.size);have hWs:=Hb5.out.size;have hly:w.heap.size+1<w5.heap.size:=Hly5.out;obtain⟨g2,hg2⟩:∃ g2,w.heap.size+1=g2:=⟨_,rfl⟩
         have hne:w.heap.size≠g2:=by omega
         have hg2w:w.heap.size≤g2:=by omega
         rw[hg2] at hy hly ⊢;have hz1:Blk (wr.setCell ⟨w.heap.size,4,none⟩ (.slice A1 k c1)) w.heap.size 63 #[.int .u8 t.k,.int .i64 t.n,.int .i64 V5,.int .u8 C5',.slice A1 k c1]:=hz.set_ 4 (.slice A1 k c1);have hy1:=hy.other hne 4 (.slice A1 k c1);have x4:=hz.cell 4;have xf:=hz.frozen 4;have q0:=hz1.cell 0;have q1:=hz1.cell 1;have q2:=hz1.cell 2;have q3:=hz1.cell 3;have q4:=hz1.cell 4;have r0:=hy1.cell 0;have r1:=hy1.cell 1;have r2:=hy1.cell 2;have r3:=hy1.cell 3;have r4:=hy1.cell 4;have s0:=hy1.frozen 0;have s1:=hy1.frozen 1;have s2:=hy1.frozen 2;have s3:=hy1.frozen 3;have s4:=hy1.frozen 4;have hb2:=hb0.setCell (p:=⟨w.heap.size,4,none⟩) (Nat.le_refl _) (.slice A1 k c1);have HT:=qq hT;have Hy1:=qq hy1;have Hb2:=qq hb2;have Hly2:=qq hly;clear hF hz hy hz1 hy1 hbel hT hb0 hb2 hg2 hly;go_wp2_with fail
         have hs:Blk (((((( wr.setCell ⟨w.heap.size,4,none⟩ (.slice A1 k c1)).setCell ⟨g2,0,none⟩ (.int .u8 t.k)).setCell ⟨g2,1,none⟩ (.int .i64 t.n)).setCell ⟨g2,2,none⟩ (.int .i64 V5)).setCell ⟨g2,3,none⟩ (.int .u8 C5')).setCell ⟨g2,4,none⟩ (.slice A1 k c1)) g2 63 #[.int .u8 t.k,.int .i64 t.n,.int .i64 V5,.int .u8 C5',.slice A1 k c1]:=
          ((((Hy1.out.set_ 0 (.int .u8 t.k)).set_ 1 (.int .i64 t.n)).set_ 2 (.int .i64 V5)).set_ 3 (.int .u8 C5')).set_ 4 (.slice A1 k c1)
         have hb9:=((((Hb2.out.setCell (p:=⟨g2,0,none⟩) hg2w (.int .u8 t.k)).setCell (p:=⟨g2,1,none⟩) hg2w (.int .i64 t.n)).setCell (p:=⟨g2,2,none⟩) hg2w (.int .i64 V5)).setCell (p:=⟨g2,3,none⟩) hg2w (.int .u8 C5')).setCell (p:=⟨g2,4,none⟩) hg2w (.slice A1 k c1)
         have hr9:TysS (((((( wr.setCell ⟨w.heap.size,4,none⟩ (.slice A1 k c1)).setCell ⟨g2,0,none⟩ (.int .u8 t.k)).setCell ⟨g2,1,none⟩ (.int .i64 t.n)).setCell ⟨g2,2,none⟩ (.int .i64 V5)).setCell ⟨g2,3,none⟩ (.int .u8 C5')).setCell ⟨g2,4,none⟩ (.slice A1 k c1)) (fun b=>w.heap.size≤b∧b<(((((( wr.setCell ⟨w.heap.size,4,none⟩ (.slice A1 k c1)).setCell ⟨g2,0,none⟩ (.int .u8 t.k)).setCell ⟨g2,1,none⟩ (.int .i64 t.n)).setCell ⟨g2,2,none⟩ (.int .i64 V5)).setCell ⟨g2,3,none⟩ (.int .u8 C5')).setCell ⟨g2,4,none⟩ (.slice A1 k c1)).heap.size) A1 k c1 (t.l.map (turnT fv fm)):=by
          refine HT.out.keep (fun b hb=>⟨by omega,by simpa using hb.2⟩) fun p hp=>?_
          have hlo:w5.heap.size≤p.block:=hp.1;have hl2:=Hly2.out
          have c1:∀ (W':World) (g o:Nat) (u:Value),g<w5.heap.size→(W'.setCell ⟨g,o,none⟩ u).cell? p=W'.cell? p:=fun W' g o u hg=>World.cell?_setCell_other _ _ _ _ (fun e=>by rw[← e] at hlo; exact absurd hlo (by show ¬ w5.heap.size≤g; omega))
          rw[c1 _ _ _ _ (by omega),c1 _ _ _ _ (by omega),c1 _ _ _ _ (by omega),c1 _ _ _ _ (by omega),c1 _ _ _ _ (by omega),c1 _ _ _ _ (by omega)]
         generalize (((((( wr.setCell ⟨w.heap.size,4,none⟩ (.slice A1 k c1)).setCell ⟨g2,0,none⟩ (.int .u8 t.k)).setCell ⟨g2,1,none⟩ (.int .i64 t.n)).setCell ⟨g2,2,none⟩ (.int .i64 V5)).setCell ⟨g2,3,none⟩ (.int .u8 C5')).setCell ⟨g2,4,none⟩ (.slice A1 k c1))=W6 at hs hb9 hr9 ⊢;have d0':W6.cell? ⟨g2,0,none⟩=some (.int .u8 t.k):=hs.cell 0;have d1':W6.cell? ⟨g2,1,none⟩=some (.int .i64 t.n):=hs.cell 1;have d2':W6.cell? ⟨g2,2,none⟩=some (.int .i64 V5):=hs.cell 2;have d3':W6.cell? ⟨g2,3,none⟩=some (.int .u8 C5'):=hs.cell 3;have d4':W6.cell? ⟨g2,4,none⟩=some (.slice A1 k c1):=hs.cell 4
         exact bodyPost_ret (v:=.agg #[.int .u8 t.k,.int .i64 t.n,.int .i64 V5,.int .u8 C5',.slice A1 k c1]) (by simp[results,Tryd.results90,go_sem,d0',d1',d2',d3',d4']) rfl (by rw[HU.out]; exact⟨A1,k,c1,rfl,hr9,hb9⟩)
def putV (types:List TyD) (n:Int):Option TyD:=if n<types.length then types[n.toNat]? else none
def putM (mults:List (Int × Int)) (n:Int):Int × Int:=if n<mults.length then mults.getD n.toNat (n,0) else (n,0)
theorem put3_any (p1:Nat) (A:Option Addr) (m c:Nat) (types:List TyD) (i:Int) (w:World) (hp:w.cell? ⟨p1,0,none⟩=some (.slice A m c)) (ht:TysV w w.heap.size A m c types) (hm:∀ t∈types,mayT t=true) (h0:0≤i):
  Calls Tryd.prog 91 (#[.int .i64 i]++#[.pointer (some ⟨p1,0,none⟩)]) w (VPost (putV types) i w):=by
 have hlen:=ht.len;have m63:m≤9223372036854775807:=Nat.le_trans ht.2.1 ht.2.2.1;have hbx:=below_box (w:=w) (Obj.cells #[.int .u8 0,.int .i64 0,.int .i64 0,.int .u8 0,.slice none 0 0] 63);have hy:=blk_new w #[.int .u8 0,.int .i64 0,.int .i64 0,.int .u8 0,.slice none 0 0] 63;have hL:=(ht.below hbx).more hbx.size;have hp1:=(hbx.cell (p:=⟨p1,0,none⟩) (block_lt_of_cell hp)).trans hp
 by_cases hi:i<m
 · have d0:decide (i<m)=true:=by simpa using hi
   have hi':i.toNat<types.length:=by omega
   have hv:putV types i=some types[i.toNat]:=by unfold putV; rw[if_pos (by omega),qj hi']
   obtain⟨b,off,rfl,hb,hc⟩:=hL.at_ (by omega);obtain⟨e0,e1,e2,e3,A2,n2,c2,e4,hx⟩:=tyAt_iff.1 (hc i.toNat hi');have hmx:=hm types[i.toNat] (List.getElem_mem hi');obtain⟨x,hxk⟩:∃ x,types[i.toNat]=x:=⟨_,rfl⟩;rw[hxk] at e0 e1 e2 e3 hx hmx hv;have hq:=fresh_go (nodes x) x (Nat.le_refl _) hmx A2 n2 c2 _ hx;have Hq:=qq hq;have Hy:=qq hy;have Hbx:=qq hbx;have Hv:=qq hv;clear ht hm hbx hy hL hp hc hx hmx hxk hq hv
   go_enter Tryd.func91,Tryd.ntmps91
   go_wp2_with fail
   refine Hq.out.mono ?_; rintro e w3 ⟨A3,n3,c3,rfl,hx3,hb3⟩
   have hy4:=Hy.out.below hb3 Hy.out.lt;have hb4:=Hbx.out.trans (hb3.mono Hbx.out.size);have hg2w:w.heap.size≤w.heap.size:=Nat.le_refl _
   have hT4:TysS w3 (fun q=>w.heap.size≤q∧q<w3.heap.size∧q≠w.heap.size) A3 n3 c3 x.l:=hx3.keep (fun q hq=>by have:=hq.1; rw[World.size_alloc] at this; exact⟨by omega,hq.2,by omega⟩) fun _ _=>rfl
   have s0:=hy4.frozen 0;have s1:=hy4.frozen 1;have s2:=hy4.frozen 2;have s3:=hy4.frozen 3;have s4:=hy4.frozen 4;have r0:=hy4.cell 0;have r1:=hy4.cell 1;have r2:=hy4.cell 2;have r3:=hy4.cell 3;have r4:=hy4.cell 4;have Hy4:=qq hy4;have Hb4:=qq hb4;have HT4:=qq hT4;clear hy4 hb4 hT4 hx3 hb3 e0 e1 e2 e3 e4 hp1 Hq Hy Hbx;go_wp2_with fail
   have hs:Blk (((((w3.setCell ⟨w.heap.size,0,none⟩ (.int .u8 x.k)).setCell ⟨w.heap.size,1,none⟩ (.int .i64 x.n)).setCell ⟨w.heap.size,2,none⟩ (.int .i64 x.v)).setCell ⟨w.heap.size,3,none⟩ (.int .u8 x.c)).setCell ⟨w.heap.size,4,none⟩ (.slice A3 n3 c3)) w.heap.size 63 #[.int .u8 x.k,.int .i64 x.n,.int .i64 x.v,.int .u8 x.c,.slice A3 n3 c3]:=
    ((((Hy4.out.set_ 0 (.int .u8 x.k)).set_ 1 (.int .i64 x.n)).set_ 2 (.int .i64 x.v)).set_ 3 (.int .u8 x.c)).set_ 4 (.slice A3 n3 c3)
   have hb9:=((((Hb4.out.setCell (p:=⟨w.heap.size,0,none⟩) hg2w (.int .u8 x.k)).setCell (p:=⟨w.heap.size,1,none⟩) hg2w (.int .i64 x.n)).setCell (p:=⟨w.heap.size,2,none⟩) hg2w (.int .i64 x.v)).setCell (p:=⟨w.heap.size,3,none⟩) hg2w (.int .u8 x.c)).setCell (p:=⟨w.heap.size,4,none⟩) hg2w (.slice A3 n3 c3)
   have hr9:TysS (((((w3.setCell ⟨w.heap.size,0,none⟩ (.int .u8 x.k)).setCell ⟨w.heap.size,1,none⟩ (.int .i64 x.n)).setCell ⟨w.heap.size,2,none⟩ (.int .i64 x.v)).setCell ⟨w.heap.size,3,none⟩ (.int .u8 x.c)).setCell ⟨w.heap.size,4,none⟩ (.slice A3 n3 c3)) (fun b=>w.heap.size≤b∧b<(((((w3.setCell ⟨w.heap.size,0,none⟩ (.int .u8 x.k)).setCell ⟨w.heap.size,1,none⟩ (.int .i64 x.n)).setCell ⟨w.heap.size,2,none⟩ (.int .i64 x.v)).setCell ⟨w.heap.size,3,none⟩ (.int .u8 x.c)).setCell ⟨w.heap.size,4,none⟩ (.slice A3 n3 c3)).heap.size) A3 n3 c3 x.l:=by
    refine HT4.out.keep (fun b hb=>⟨hb.1,by simpa using hb.2.1⟩) fun p hp=>?_
    have c1:∀ (W':World) (o:Nat) (u:Value),(W'.setCell ⟨w.heap.size,o,none⟩ u).cell? p=W'.cell? p:=fun W' o u=>World.cell?_setCell_other _ _ _ _ (fun e=>hp.2.2 (by rw[← e]));rw[c1,c1,c1,c1,c1]
   generalize (((((w3.setCell ⟨w.heap.size,0,none⟩ (.int .u8 x.k)).setCell ⟨w.heap.size,1,none⟩ (.int .i64 x.n)).setCell ⟨w.heap.size,2,none⟩ (.int .i64 x.v)).setCell ⟨w.heap.size,3,none⟩ (.int .u8 x.c)).setCell ⟨w.heap.size,4,none⟩ (.slice A3 n3 c3))=W6 at hs hb9 hr9 ⊢;have d0':W6.cell? ⟨w.heap.size,0,none⟩=some (.int .u8 x.k):=hs.cell 0;have d1':W6.cell? ⟨w.heap.size,1,none⟩=some (.int .i64 x.n):=hs.cell 1;have d2':W6.cell? ⟨w.heap.size,2,none⟩=some (.int .i64 x.v):=hs.cell 2;have d3':W6.cell? ⟨w.heap.size,3,none⟩=some (.int .u8 x.c):=hs.cell 3;have d4':W6.cell? ⟨w.heap.size,4,none⟩=some (.slice A3 n3 c3):=hs.cell 4
   exact bodyPost_ret (v:=.tuple #[.agg #[.int .u8 x.k,.int .i64 x.n,.int .i64 x.v,.int .u8 x.c,.slice A3 n3 c3],.bool true]) (by simp[results,Tryd.results91,go_sem,d0',d1',d2',d3',d4']) rfl ⟨x,A3,n3,c3,true,rfl,hr9,by rw[Hv.out]; rfl,hb9⟩
 · have d0:decide (i<m)=false:=by simpa using hi
   have hv:putV types i=none:=by unfold putV; rw[if_neg (by omega)]
   have s0:=hy.frozen 0;have s1:=hy.frozen 1;have s2:=hy.frozen 2;have s3:=hy.frozen 3;have s4:=hy.frozen 4;have r0:=hy.cell 0;have r1:=hy.cell 1;have r2:=hy.cell 2;have r3:=hy.cell 3;have r4:=hy.cell 4;have Hbx:=qq hbx;have Hv:=qq hv;clear ht hm hbx hL hp hv hi
   go_enter Tryd.func91,Tryd.ntmps91
   go_wp2_with fail
   exact bodyPost_ret (v:=.tuple #[.agg #[.int .u8 0,.int .i64 0,.int .i64 0,.int .u8 0,.slice none 0 0],.bool false]) (by simp[results,Tryd.results91,go_sem,r0,r1,r2,r3,r4]) rfl ⟨.mk 0 0 0 0 [],none,0,0,false,rfl,TysS.nil,by rw[Hv.out]; rfl,Hbx.out⟩
def MusV (w:World) (B:Nat) (A:Option Addr) (n c:Nat) (ms:List (Int × Int)):Prop:=
 ms.length=n∧n≤c∧c≤maxLen∧(0<n→∃ b off,A=some ⟨b,off,none⟩∧b<B∧∀ i (h:i<ms.length),w.cell? ⟨b,off+i * 2,none⟩=some (.int .i64 ms[i].1)∧w.cell? ⟨b,off+i * 2+1,none⟩=some (.int .u8 ms[i].2))
section
variable {w w':World} {B B':Nat} {A:Option Addr} {n c:Nat} {ms:List (Int × Int)}
theorem MusV.keep (h:MusV w B A n c ms) (hk:∀ p:Addr,p.block<B→w'.cell? p=w.cell? p):MusV w' B A n c ms:=by
 obtain⟨h1,h2,h3,h4⟩:=h;refine⟨h1,h2,h3,fun hn=>?_⟩;obtain⟨b,off,e,hb,hc⟩:=h4 hn;exact⟨b,off,e,hb,fun i hi=>⟨(hk _ hb).trans (hc i hi).1,(hk _ hb).trans (hc i hi).2⟩⟩
theorem MusV.more (h:MusV w B A n c ms) (hB:B≤B'):MusV w B' A n c ms:=by
 obtain⟨h1,h2,h3,h4⟩:=h;refine⟨h1,h2,h3,fun hn=>?_⟩;obtain⟨b,off,e,hb,hc⟩:=h4 hn
 exact⟨b,off,e,by omega,hc⟩
theorem MusV.below (h:MusV w B A n c ms) (hb:Below B w w'):MusV w' B A n c ms:=h.keep fun _ hp=>hb.cell hp
theorem MusV.len (h:MusV w B A n c ms):ms.length=n:=h.1
end
theorem put4_any (p2:Nat) (A:Option Addr) (n c:Nat) (ms:List (Int × Int)) (i:Int) (w:World) (hp:w.cell? ⟨p2,0,none⟩=some (.slice A n c)) (ht:MusV w w.heap.size A n c ms) (h0:0≤i):
  Calls Tryd.prog 93 (#[.int .i64 i]++#[.pointer (some ⟨p2,0,none⟩)]) w fun e w'=>e=.returned (.agg #[.int .i64 (putM ms i).1,.int .u8 (putM ms i).2])∧Below w.heap.size w w':=by
 have hlen:=ht.len;have m63:n≤9223372036854775807:=Nat.le_trans ht.2.1 ht.2.2.1;have hbx:=below_box (w:=w) (Obj.cells #[.int .i64 0,.int .u8 0] 61);have hy:=blk_new w #[.int .i64 0,.int .u8 0] 61;have hL:=(ht.below hbx).more hbx.size;have hp1:=(hbx.cell (p:=⟨p2,0,none⟩) (block_lt_of_cell hp)).trans hp;have s0:=hy.frozen 0;have s1:=hy.frozen 1;have r0:=hy.cell 0;have r1:=hy.cell 1;obtain⟨V,hV⟩:∃ V,(putM ms i).1=V:=⟨_,rfl⟩;obtain⟨C,hC⟩:∃ C,(putM ms i).2=C:=⟨_,rfl⟩;rw[hV,hC]
 by_cases hi:i<n
 · have d0:decide (i<n)=true:=by simpa using hi
   have hi':i.toNat<ms.length:=by omega
   have hv:putM ms i=ms[i.toNat]:=by unfold putM; rw[if_pos (by omega),List.getD_eq_getElem?_getD,qj hi']; rfl
   rw[hv] at hV hC;obtain⟨b,off,rfl,hb,hc⟩:=hL.2.2.2 (by omega);obtain⟨e0,e1⟩:=hc i.toNat hi';rw[hV] at e0;rw[hC] at e1;have Hbx:=qq hbx;clear ht hbx hL hp hc hv hV hC
   go_enter Tryd.func93,Tryd.ntmps93
   go_wp2_with fail;have hb9:=(Hbx.out.setCell (p:=⟨w.heap.size,0,none⟩) (Nat.le_refl _) (.int .i64 V)).setCell (p:=⟨w.heap.size,1,none⟩) (Nat.le_refl _) (.int .u8 C);have hs:Blk (((w.alloc (Obj.cells #[.int .i64 0,.int .u8 0] 61)).setCell ⟨w.heap.size,0,none⟩ (.int .i64 V)).setCell ⟨w.heap.size,1,none⟩ (.int .u8 C)) w.heap.size 61 #[.int .i64 V,.int .u8 C]:=(hy.set_ 0 (.int .i64 V)).set_ 1 (.int .u8 C)
   first
    | exact bodyPost_ret (v:=.agg #[.int .i64 V,.int .u8 C]) (by simp[results,Tryd.results93,go_sem]) rfl ⟨rfl,below_box _⟩
    | exact bodyPost_ret (v:=.agg #[.int .i64 V,.int .u8 C]) (by simp[results,Tryd.results93,go_sem,hs.cell 0,hs.cell 1]) rfl ⟨rfl,hb9⟩
 · have d0:decide (i<n)=false:=by simpa using hi
   have hv:putM ms i=(i,0):=by unfold putM; rw[if_neg (by omega)]
   rw[hv] at hV hC;dsimp only at hV hC
   subst hV; subst hC
   have Hbx:=qq hbx;clear ht hbx hL hp hv hi
   go_enter Tryd.func93,Tryd.ntmps93
   go_wp2_with fail;exact bodyPost_ret (v:=.agg #[.int .i64 i,.int .u8 0]) (by simp[results,Tryd.results93,go_sem]) rfl ⟨rfl,below_box _⟩
theorem put1_any (t:TyD) (A:Option Addr) (m cp:Nat) (w:World) (h:TysV w w.heap.size A m cp t.l):
  Calls Tryd.prog 85 (#[.agg #[.int .u8 t.k,.int .i64 t.n,.int .i64 t.v,.int .u8 t.c,.slice A m cp]]++#[]) w fun e w'=>e=.returned (.bool (mayTE t != 0))∧Below w.heap.size w w':=by
 have hbx:=below_box (w:=w) (Obj.cells #[.int .u8 t.k,.int .i64 t.n,.int .i64 t.v,.int .u8 t.c,.slice A m cp] 63);have hq:=tyMay_any t (.agg #[.int .u8 t.k,.int .i64 t.n,.int .i64 t.v,.int .u8 t.c,.slice A m cp]) _ ⟨A,m,cp,rfl,(h.below hbx).more hbx.size⟩;obtain⟨E,hE⟩:∃ E,mayTE t=E:=⟨_,rfl⟩;rw[hE] at hq ⊢;have Hq:=qq hq;clear hq h hE
 by_cases h0:E=0
 · have d:(E != 0)=false:=by simp[h0]
   rw[d];clear h0
   go_enter Tryd.func85,Tryd.ntmps85
   go_wp2_with fail
   refine Hq.out.mono ?_; rintro e w1 ⟨rfl,hb1⟩
   go_wp2_with fail;go_ret;exact⟨rfl,hbx.trans (hb1.mono hbx.size)⟩
 · have d:(E != 0)=true:=by simp[h0]
   rw[d];clear h0
   go_enter Tryd.func85,Tryd.ntmps85
   go_wp2_with fail
   refine Hq.out.mono ?_; rintro e w1 ⟨rfl,hb1⟩
   go_wp2_with fail;go_ret;exact⟨rfl,hbx.trans (hb1.mono hbx.size)⟩
theorem put2_any (V C:Int) (r:Bool) (hr:(!isB C V)=r) (w:World):
  Calls Tryd.prog 87 #[.agg #[.int .i64 V,.int .u8 C]] w fun e w'=>e=.returned (.bool r)∧Below w.heap.size w w':=by
 have hbx:=below_box (w:=w) (Obj.cells #[.int .i64 V,.int .u8 C] 61)
 cases r with
 | true=>
   have hq:=is_at C V 2 (isE_no (by simpa using hr)) (w.alloc (Obj.cells #[.int .i64 V,.int .u8 C] 61));have Hq:=qq hq;clear hq hr
   go_enter Tryd.func87,Tryd.ntmps87
   go_wp2_with fail
   refine Hq.out.mono ?_; rintro e w1 ⟨rfl,hb1⟩
   go_wp2_with fail;go_ret;exact⟨rfl,hbx.trans (hb1.mono hbx.size)⟩
 | false=>
   have hq:=is_at C V 0 (isE_yes (by simpa using hr)) (w.alloc (Obj.cells #[.int .i64 V,.int .u8 C] 61));have Hq:=qq hq;clear hq hr
   go_enter Tryd.func87,Tryd.ntmps87
   go_wp2_with fail
   refine Hq.out.mono ?_; rintro e w1 ⟨rfl,hb1⟩
   go_wp2_with fail;go_ret;exact⟨rfl,hbx.trans (hb1.mono hbx.size)⟩
theorem indexMu (A:Option Addr) (n c:Nat) (ms:List (Int × Int)) (w:World) (hr:MusV w w.heap.size A n c ms):
  Calls Tryd.prog 105 #[.slice A n c,.func (.func 87) #[] #[]] w fun e w'=>∃ z:Int,e=.returned (.int .i64 z)∧decide (z≥0)=ms.any (fun x=>!isB x.2 x.1)∧Below w.heap.size w w':=by
 have hlen:=hr.len;have m63:n≤9223372036854775807:=Nat.le_trans hr.2.1 hr.2.2.1;have Hr:=qq hr;clear hr
 go_enter Tryd.func105,Tryd.ntmps105
 go_wp2_with fail
 go_loopg [5,8] n (fun g _ i wr=>∃ k:Nat,k≤n∧g=n - k∧i=.int .i64 k∧(∀ j (h:j<ms.length),j<k→isB ms[j].2 ms[j].1=true)∧Below w.heap.size w wr)
 case atStart=>exact⟨0,Nat.zero_le _,rfl,rfl,fun j _ h=>absurd h (by omega),Below.refl _ _⟩
 case round=>
  obtain⟨k,hk,rfl,rfl,hno,hbel⟩:=hrel;have Hno:=qq hno;have Hbel:=qq hbel;clear hno
  by_cases hkn:k<n
  · have d0:decide (k<n)=true:=by simpa using hkn
    have hk':k<ms.length:=by omega
    obtain⟨b,off,rfl,hb,hc⟩:=(Hr.out.below hbel).2.2.2 (by omega);obtain⟨e0,e1⟩:=hc k hk';obtain⟨P,hP⟩:∃ P,(!isB ms[k].2 ms[k].1)=P:=⟨_,rfl⟩;have hq:=put2_any ms[k].1 ms[k].2 P hP wr;have Hq:=qq hq;have HP:=qq hP
    have k1:(0:Int)≤(k:Int):=by omega
    have k2:(k:Int)<n:=by omega
    clear hc hq hP hbel
    cases P with
    | false=>
      have hno2:∀ j (h:j<ms.length),j<k+1→isB ms[j].2 ms[j].1=true:=fun j hj hjk=>by
       rcases Nat.lt_or_ge j k with h | h
       · exact Hno.out j hj h
       · have:j=k:=by omega
         subst this;have:=HP.out
         simpa using this
      have Hno2:=qq hno2;clear hno2;go_wp2_with fail
      refine Hq.out.mono ?_; rintro e w1 ⟨rfl,hb1⟩
      have Hb1:=qq (Hbel.out.trans (hb1.mono Hbel.out.size));clear hb1;go_wp2_with fail;go_roundg (n - (k+1))
      case measure=>omega
      case rel=>exact⟨k+1,by omega,rfl,by go_num,Hno2.out,Hb1.out⟩
    | true=>
      have HF:Hid (decide ((k:Int)≥0)=ms.any (fun x=>!isB x.2 x.1)):=qq (by
       rw[decide_eq_true (by omega)]
       exact(List.any_eq_true.2 ⟨_,List.getElem_mem hk',HP.out⟩).symm)
      go_wp2_with fail
      refine Hq.out.mono ?_; rintro e w1 ⟨rfl,hb1⟩
      have Hb1:=qq (Hbel.out.trans (hb1.mono Hbel.out.size));clear hb1;go_wp2_with fail;go_ret;exact⟨(k:Int),rfl,HF.out,Hb1.out⟩
  · have d0:decide (k<n)=false:=by simpa using hkn
    have HF:Hid (decide ((-1:Int)≥0)=ms.any (fun x=>!isB x.2 x.1)):=qq (by
     have:ms.any (fun x=>!isB x.2 x.1)=false:=by
      rw[List.any_eq_false];intro x hx;obtain⟨j,hj,rfl⟩:=List.getElem_of_mem hx;simp[Hno.out j hj (by omega)]
     rw[this]; rfl)
    go_wp2_with fail;go_ret;exact⟨-1,rfl,HF.out,Hbel.out⟩
theorem containsMu (A:Option Addr) (n c:Nat) (ms:List (Int × Int)) (w:World) (hr:MusV w w.heap.size A n c ms) (r:Bool) (hr2:ms.any (fun x=>!isB x.2 x.1)=r):
  Calls Tryd.prog 86 #[.slice A n c,.func (.func 87) #[] #[]] w fun e w'=>e=.returned (.bool r)∧Below w.heap.size w w':=by
 have hi:=indexMu A n c ms w hr;rw[hr2] at hi;have Hi:=qq hi;clear hi hr hr2
 cases r with
 | true=>
   go_enter Tryd.func86,Tryd.ntmps86
   go_wp2_with fail
   refine Hi.out.mono ?_; rintro e w1 ⟨z,rfl,hz,hb1⟩
   go_wp2_with fail;go_ret;exact⟨rfl,hb1⟩
 | false=>
   go_enter Tryd.func86,Tryd.ntmps86
   go_wp2_with fail
   refine Hi.out.mono ?_; rintro e w1 ⟨z,rfl,hz,hb1⟩
   go_wp2_with fail;go_ret;exact⟨rfl,hb1⟩
end Go.Proofs.YtgpeijkjmkocgaaDoor
