import Derived.Test.YtdmakpmbknindaaGreatDoorM30
import Derived.Test.YtdmakpmbknindaaGreatDoorM19
namespace Go.Proofs.YtdmakpmbknindaaGreatDoor
set_option linter.unusedVariables false
set_option linter.unusedSimpArgs false
open Go.RowKit
def RetCan (u:TyD) (l1 l2:List Int) (w:World) (e:Ending) (w':World):Prop:=
 ∃ A m c A1 n1 c1 A2 n2 c2,e=.returned (.tuple #[.agg #[.int .u8 u.k,.int .i64 u.n,.int .i64 u.v,.int .u8 u.c,.slice A m c],.slice A1 n1 c1,.slice A2 n2 c2])∧TysV w' w'.heap.size A m c u.l∧RdI .i64 w' w'.heap.size A1 n1 c1 l1∧RdI .i64 w' w'.heap.size A2 n2 c2 l2∧Below w.heap.size w w'
theorem RdI.fresh {k:IntKind} {w w':World} {A:Option Addr} {n c:Nat} {us:List Int} (h:RdI k w w.heap.size A n c us) (hb:Below w.heap.size w w'):RdI k w' w'.heap.size A n c us:=(h.below hb).more hb.size
theorem set_to {w:World} {a b:Addr} {v u:Value} (h:w.cell? b=some u) (hv:a=b→v=u):(w.setCell a v).cell? b=some u:=by
 by_cases e:a=b
 · subst e
   rw[hv rfl]
   exact World.cell?_setCell_same' w a u (by rw[h]; rfl)
 · rw[World.cell?_setCell_other _ _ _ _ e]
   exact h
section
variable {s:Nat} {W:World} {x0 x1 x2 x3 x4 y z:Value}
theorem keep_x (h:W.cell? ⟨s,0,none⟩=some x0∧W.cell? ⟨s,1,none⟩=some x1∧W.cell? ⟨s,2,none⟩=some x2∧W.cell? ⟨s,3,none⟩=some x3∧W.cell? ⟨s,4,none⟩=some x4∧W.cell? ⟨s+1+1,0,none⟩=some y∧W.cell? ⟨s+1+1+1,0,none⟩=some z):
 (W.setCell ⟨s+1+1,0,none⟩ y).cell? ⟨s,0,none⟩=some x0∧(W.setCell ⟨s+1+1,0,none⟩ y).cell? ⟨s,1,none⟩=some x1∧(W.setCell ⟨s+1+1,0,none⟩ y).cell? ⟨s,2,none⟩=some x2∧(W.setCell ⟨s+1+1,0,none⟩ y).cell? ⟨s,3,none⟩=some x3∧(W.setCell ⟨s+1+1,0,none⟩ y).cell? ⟨s,4,none⟩=some x4∧(W.setCell ⟨s+1+1,0,none⟩ y).cell? ⟨s+1+1,0,none⟩=some y∧(W.setCell ⟨s+1+1,0,none⟩ y).cell? ⟨s+1+1+1,0,none⟩=some z:=by
 obtain⟨h0,h1,h2,h3,h4,h5,h6⟩:=h
 refine⟨set_to h0 ?_,set_to h1 ?_,set_to h2 ?_,set_to h3 ?_,set_to h4 ?_,set_to h5 ?_,set_to h6 ?_⟩ <;> (intro e; first | rfl | (injection e with e1 e2; exfalso; omega))
theorem keep_o {v0 v1 v2 v3 v4:Value} (h:W.cell? ⟨s,0,none⟩=some x0∧W.cell? ⟨s,1,none⟩=some x1∧W.cell? ⟨s,2,none⟩=some x2∧W.cell? ⟨s,3,none⟩=some x3∧W.cell? ⟨s,4,none⟩=some x4∧W.cell? ⟨s+1+1,0,none⟩=some y∧W.cell? ⟨s+1+1+1,0,none⟩=some z):
 let W':=((((W.setCell ⟨s+1,0,none⟩ v0).setCell ⟨s+1,1,none⟩ v1).setCell ⟨s+1,2,none⟩ v2).setCell ⟨s+1,3,none⟩ v3).setCell ⟨s+1,4,none⟩ v4
 W'.cell? ⟨s,0,none⟩=some x0∧W'.cell? ⟨s,1,none⟩=some x1∧W'.cell? ⟨s,2,none⟩=some x2∧W'.cell? ⟨s,3,none⟩=some x3∧W'.cell? ⟨s,4,none⟩=some x4∧W'.cell? ⟨s+1+1,0,none⟩=some y∧W'.cell? ⟨s+1+1+1,0,none⟩=some z:=by
 obtain⟨h0,h1,h2,h3,h4,h5,h6⟩:=h
 have c:∀ (W:World) (i:Nat) (v:Value) (b o:Nat),b≠s+1→(W.setCell ⟨s+1,i,none⟩ v).cell? ⟨b,o,none⟩=W.cell? ⟨b,o,none⟩:=fun W i v b o hb=>World.cell?_setCell_other _ _ _ _ (fun e=>hb (by injection e with e1 e2; exact e1.symm))
 refine⟨?_,?_,?_,?_,?_,?_,?_⟩
 all_goals (rw[c _ _ _ _ _ (by omega),c _ _ _ _ _ (by omega),c _ _ _ _ _ (by omega),c _ _ _ _ _ (by omega),c _ _ _ _ _ (by omega)]; assumption)
theorem keep_q (h:W.cell? ⟨s,0,none⟩=some x0∧W.cell? ⟨s,1,none⟩=some x1∧W.cell? ⟨s,2,none⟩=some x2∧W.cell? ⟨s,3,none⟩=some x3∧W.cell? ⟨s,4,none⟩=some x4∧W.cell? ⟨s+1+1,0,none⟩=some y∧W.cell? ⟨s+1+1+1,0,none⟩=some z):
 (W.setCell ⟨s+1+1+1,0,none⟩ z).cell? ⟨s,0,none⟩=some x0∧(W.setCell ⟨s+1+1+1,0,none⟩ z).cell? ⟨s,1,none⟩=some x1∧(W.setCell ⟨s+1+1+1,0,none⟩ z).cell? ⟨s,2,none⟩=some x2∧(W.setCell ⟨s+1+1+1,0,none⟩ z).cell? ⟨s,3,none⟩=some x3∧(W.setCell ⟨s+1+1+1,0,none⟩ z).cell? ⟨s,4,none⟩=some x4∧(W.setCell ⟨s+1+1+1,0,none⟩ z).cell? ⟨s+1+1,0,none⟩=some y∧(W.setCell ⟨s+1+1+1,0,none⟩ z).cell? ⟨s+1+1+1,0,none⟩=some z:=by
 obtain⟨h0,h1,h2,h3,h4,h5,h6⟩:=h
 refine⟨set_to h0 ?_,set_to h1 ?_,set_to h2 ?_,set_to h3 ?_,set_to h4 ?_,set_to h5 ?_,set_to h6 ?_⟩ <;> (intro e; first | rfl | (injection e with e1 e2; exfalso; omega))
end
set_option maxRecDepth 100000 in
set_option maxHeartbeats 4000000 in
theorem canon_any (t:TyD) (hm:mayT t=true) (A:Option Addr) (m cp:Nat) (w:World) (hl:TysV w w.heap.size A m cp t.l):
 Calls Tryz.prog 45 #[.agg #[.int .u8 t.k,.int .i64 t.n,.int .i64 t.v,.int .u8 t.c,.slice A m cp]] w (RetCan (canT t) (varsT t) (multsT t) w):=by
 obtain⟨W,hW⟩:∃ W,(((w.alloc (Obj.cells #[.int .u8 t.k,.int .i64 t.n,.int .i64 t.v,.int .u8 t.c,.slice A m cp] 27)).alloc (Obj.cells #[.int .u8 0,.int .i64 0,.int .i64 0,.int .u8 0,.slice none 0 0] 27)).alloc (Obj.cells #[.slice none 0 0] 30)).alloc (Obj.cells #[.slice none 0 0] 30)=W:=⟨_,rfl⟩
 have hb:Below w.heap.size w W:=by rw[← hW]; exact(((Below.refl _ _).alloc (Nat.le_refl _) _).alloc (by simp) _ |>.alloc (by simp; omega) _).alloc (by simp; omega) _
 have hsz:W.heap.size=w.heap.size+1+1+1+1:=by rw[← hW]; simp
 have hz:Blk W w.heap.size 27 #[.int .u8 t.k,.int .i64 t.n,.int .i64 t.v,.int .u8 t.c,.slice A m cp]:=by
  rw[← hW]; exact(((blk_new w _ _).alloc _).alloc _).alloc _
 have hy:Blk W (w.heap.size+1) 27 #[.int .u8 0,.int .i64 0,.int .i64 0,.int .u8 0,.slice none 0 0]:=by
  rw[← hW]; have:=((blk_new (w.alloc (Obj.cells #[.int .u8 t.k,.int .i64 t.n,.int .i64 t.v,.int .u8 t.c,.slice A m cp] 27)) #[.int .u8 0,.int .i64 0,.int .i64 0,.int .u8 0,.slice none 0 0] 27).alloc (Obj.cells #[.slice none 0 0] 30)).alloc (Obj.cells #[.slice none 0 0] 30)
  rwa [World.size_alloc] at this
 have hx:Blk W (w.heap.size+1+1) 30 #[.slice none 0 0]:=by
  rw[← hW]; have:=(blk_new ((w.alloc (Obj.cells #[.int .u8 t.k,.int .i64 t.n,.int .i64 t.v,.int .u8 t.c,.slice A m cp] 27)).alloc (Obj.cells #[.int .u8 0,.int .i64 0,.int .i64 0,.int .u8 0,.slice none 0 0] 27)) #[.slice none 0 0] 30).alloc (Obj.cells #[.slice none 0 0] 30)
  rwa [World.size_alloc,World.size_alloc] at this
 have hq:Blk W (w.heap.size+1+1+1) 30 #[.slice none 0 0]:=by
  rw[← hW]; have:=blk_new (((w.alloc (Obj.cells #[.int .u8 t.k,.int .i64 t.n,.int .i64 t.v,.int .u8 t.c,.slice A m cp] 27)).alloc (Obj.cells #[.int .u8 0,.int .i64 0,.int .i64 0,.int .u8 0,.slice none 0 0] 27)).alloc (Obj.cells #[.slice none 0 0] 30)) #[.slice none 0 0] 30
  rwa [World.size_alloc,World.size_alloc,World.size_alloc] at this
 have hl0:=hl.below hb
 have hv:=vars_any t A m cp W (hl0.more hb.size) (by have:=vars_few hm; omega) (by have:=mults_few hm; omega)
 have hlv:RetVs (varsT t) (multsT t) W=RetVs (varsT t) (multsT t) W:=rfl;obtain⟨L1,hL1⟩:∃ L,varsT t=L:=⟨_,rfl⟩;obtain⟨L2,hL2⟩:∃ L,multsT t=L:=⟨_,rfl⟩
 have hC:canT t=turnT (fun n=>some (plainV (idxN L1 n))) (fun v=>(idxN L2 v,0)) t:=by rw[← hL1,← hL2]; rfl
 rw[hL1,hL2] at hv ⊢;have e0:=hz.cell 0;have e1:=hz.cell 1;have e2:=hz.cell 2;have e3:=hz.cell 3;have e4:=hz.cell 4;have HW:=qq hW;have Hb:=qq hb;have Hsz:=qq hsz;have Hz:=qq hz;have Hy:=qq hy;have Hx:=qq hx;have Hq:=qq hq;have HL:=qq hl0;have Hv:=qq hv;have HC:=qq hC;have HM:=qq hm;clear hW hb hsz hz hy hx hq hl0 hl hv hC hL1 hL2 hlv hm
 go_enter Tryz.func45,Tryz.ntmps45
 go_wp2_with fail;rw[HW.out];go_wp2_with fail
 refine Hv.out.mono ?_; rintro e w1 ⟨A1,n1,c1,A2,n2,c2,rfl,ho1,ho2,hne,hb1⟩
 have hx1:=Hx.out.below hb1 Hx.out.lt;have hq1:=Hq.out.below hb1 Hq.out.lt;have x0:=hx1.cell 0;have x1:=hx1.frozen 0;have q0:=hq1.cell 0;have q1:=(hq1.other (g':=w.heap.size+1+1) (by omega) 0 (.slice A1 n1 c1)).frozen 0;have q0':=(hq1.other (g':=w.heap.size+1+1) (by omega) 0 (.slice A1 n1 c1)).cell 0;have hz1:=((Hz.out.below hb1 Hz.out.lt).other (g':=w.heap.size+1+1) (by omega) 0 (.slice A1 n1 c1)).other (g':=w.heap.size+1+1+1) (by omega) 0 (.slice A2 n2 c2);have hy1:=((Hy.out.below hb1 Hy.out.lt).other (g':=w.heap.size+1+1) (by omega) 0 (.slice A1 n1 c1)).other (g':=w.heap.size+1+1+1) (by omega) 0 (.slice A2 n2 c2);have hx2:Blk ((w1.setCell ⟨w.heap.size+1+1,0,none⟩ (.slice A1 n1 c1)).setCell ⟨w.heap.size+1+1+1,0,none⟩ (.slice A2 n2 c2)) (w.heap.size+1+1) 30 #[.slice A1 n1 c1]:=(hx1.set_ 0 (.slice A1 n1 c1)).other (g':=w.heap.size+1+1+1) (by omega) 0 (.slice A2 n2 c2);have hq2:Blk ((w1.setCell ⟨w.heap.size+1+1,0,none⟩ (.slice A1 n1 c1)).setCell ⟨w.heap.size+1+1+1,0,none⟩ (.slice A2 n2 c2)) (w.heap.size+1+1+1) 30 #[.slice A2 n2 c2]:=(hq1.other (g':=w.heap.size+1+1) (by omega) 0 (.slice A1 n1 c1)).set_ 0 (.slice A2 n2 c2)
 have hle1:w.heap.size≤w.heap.size+1+1:=by omega
 have hle2:w.heap.size≤w.heap.size+1+1+1:=by omega
 have hb2:=((Hb.out.trans (hb1.mono Hb.out.size)).setCell (p:=⟨w.heap.size+1+1,0,none⟩) hle1 (.slice A1 n1 c1)).setCell (p:=⟨w.heap.size+1+1+1,0,none⟩) hle2 (.slice A2 n2 c2);have hs2:=Hsz.out
 have o1:=(ownsRow_setCell_below (a:=⟨w.heap.size+1+1+1,0,none⟩) (ownsRow_setCell_below (a:=⟨w.heap.size+1+1,0,none⟩) ho1 (by show w.heap.size+1+1<W.heap.size; omega) (.slice A1 n1 c1)) (by show w.heap.size+1+1+1<W.heap.size; omega) (.slice A2 n2 c2))
 have o2:=(ownsRow_setCell_below (a:=⟨w.heap.size+1+1+1,0,none⟩) (ownsRow_setCell_below (a:=⟨w.heap.size+1+1,0,none⟩) ho2 (by show w.heap.size+1+1<W.heap.size; omega) (.slice A1 n1 c1)) (by show w.heap.size+1+1+1<W.heap.size; omega) (.slice A2 n2 c2))
 have r1:=RdI.of_own o1;have r2:=RdI.of_own o2;have O1:=qq o1;have O2:=qq o2
 have hl1:TysV ((w1.setCell ⟨w.heap.size+1+1,0,none⟩ (.slice A1 n1 c1)).setCell ⟨w.heap.size+1+1+1,0,none⟩ (.slice A2 n2 c2)) w.heap.size A m cp t.l:=(HL.out.below (hb1.mono Hb.out.size)).keep fun p hp=>by
  rw[World.cell?_setCell_other _ _ _ _ (fun e=>by rw[← e] at hp; simp at hp; omega),World.cell?_setCell_other _ _ _ _ (fun e=>by rw[← e] at hp; simp at hp; omega)]
 have Hz1:=qq hz1;have Hy1:=qq hy1;have Hx2:=qq hx2;have Hq2:=qq hq2;have Hb2:=qq hb2;have R1:=qq r1;have R2:=qq r2;have HL1:=qq hl1;clear o1 o2 hx1 hq1 hz1 hy1 hx2 hq2 hb2 r1 r2 hl1 hb1 ho1 ho2 hne Hx Hq Hz Hy Hv HL hs2 e0 e1 e2 e3 e4;go_wp2_with fail;generalize (w1.setCell ⟨w.heap.size+1+1,0,none⟩ (.slice A1 n1 c1)).setCell ⟨w.heap.size+1+1+1,0,none⟩ (.slice A2 n2 c2)=w2 at Hz1 Hy1 Hx2 Hq2 Hb2 R1 R2 O1 O2 HL1 ⊢;clear x0 x1 q0 q1 q0';have e0:=Hz1.out.cell 0;have e1:=Hz1.out.cell 1;have e2:=Hz1.out.cell 2;have e3:=Hz1.out.cell 3;have e4:=Hz1.out.cell 4;have x0:=Hx2.out.cell 0;have q0:=Hq2.out.cell 0;have hbS:Below w2.heap.size w2 w2.drew:=Below.drew (Below.refl _ _);have hs2:w.heap.size+1+1+1<w2.heap.size:=Hq2.out.lt;have hd:Below w2.heap.size w2 w2.drew:=hbS
 have hq:=turnC (fun n=>some (plainV (idxN L1 n))) (fun v=>(idxN L2 v,0)) (w.heap.size+1+1) (w.heap.size+1+1+1) (nodes t) t (Nat.le_refl _) HM.out A m cp w2.drew ((HL1.out.more (by omega)).fresh hd)
  (fun n w' h0 hb=>canon1_any _ A1 n1 c1 L1 n w' ((((Hx2.out.below hd Hx2.out.lt).below hb (Nat.lt_of_lt_of_le Hx2.out.lt hd.size)).cell 0)) ((R1.out.fresh hd).fresh hb))
  (fun n w' h0 hb=>canon2_any _ A2 n2 c2 L2 n w' ((((Hq2.out.below hd Hq2.out.lt).below hb (Nat.lt_of_lt_of_le Hq2.out.lt hd.size)).cell 0)) ((R2.out.fresh hd).fresh hb))
 rw[← HC.out] at hq;obtain⟨u,hu⟩:∃ u,canT t=u:=⟨_,rfl⟩;rw[hu] at hq ⊢;have Hq:=qq hq;have Hu:=qq hu;clear hd hq hu
 go_region_held3 (fun w'=>w'.cell? ⟨w.heap.size,0,none⟩=some (.int .u8 t.k)∧w'.cell? ⟨w.heap.size,1,none⟩=some (.int .i64 t.n)∧w'.cell? ⟨w.heap.size,2,none⟩=some (.int .i64 t.v)∧w'.cell? ⟨w.heap.size,3,none⟩=some (.int .u8 t.c)∧w'.cell? ⟨w.heap.size,4,none⟩=some (.slice A m cp)∧w'.cell? ⟨w.heap.size+1+1,0,none⟩=some (.slice A1 n1 c1)∧w'.cell? ⟨w.heap.size+1+1+1,0,none⟩=some (.slice A2 n2 c2))
  (first | (go_keep; done) | with_reducible exact k0 | with_reducible exact k7 | with_reducible exact k8)
  ((first
    | (go_at_call 64; refine Hq.out.mono ?_; rintro e wt ⟨A5,n5,c5,rfl,ht5,hb5⟩; replace hbS:=hbS.trans (hb5.mono hbS.size); have Ht5:=qq ht5; have hzt:=Hz1.out.below hbS Hz1.out.lt; have z0:=hzt.cell 0; have z1:=hzt.cell 1; have z2:=hzt.cell 2; have z3:=hzt.cell 3; have z4:=hzt.cell 4; have Hyt:=qq (Hy1.out.below hbS Hy1.out.lt); have HbS:=qq hbS; have hxt:=Hx2.out.below hbS Hx2.out.lt; have hqt:=Hq2.out.below hbS Hq2.out.lt; have hyt:=Hy1.out.below hbS Hy1.out.lt; have fx:=hxt.frozen 0; have fq:=hqt.frozen 0; have fy0:=hyt.frozen 0; have fy1:=hyt.frozen 1; have fy2:=hyt.frozen 2; have fy3:=hyt.frozen 3; have fy4:=hyt.frozen 4; have cx:=hxt.cell 0; have cq:=hqt.cell 0; have cy0:=hyt.cell 0; have cy1:=hyt.cell 1; have cy2:=hyt.cell 2; have cy3:=hyt.cell 3; have cy4:=hyt.cell 4; have k0:wt.cell? ⟨w.heap.size,0,none⟩=some (.int .u8 t.k)∧wt.cell? ⟨w.heap.size,1,none⟩=some (.int .i64 t.n)∧wt.cell? ⟨w.heap.size,2,none⟩=some (.int .i64 t.v)∧wt.cell? ⟨w.heap.size,3,none⟩=some (.int .u8 t.c)∧wt.cell? ⟨w.heap.size,4,none⟩=some (.slice A m cp)∧wt.cell? ⟨w.heap.size+1+1,0,none⟩=some (.slice A1 n1 c1)∧wt.cell? ⟨w.heap.size+1+1+1,0,none⟩=some (.slice A2 n2 c2):=⟨z0,z1,z2,z3,z4,cx,cq⟩; have k7:=keep_x (keep_o (v0:=.int .u8 u.k) (v1:=.int .i64 u.n) (v2:=.int .i64 u.v) (v3:=.int .u8 u.c) (v4:=.slice A5 n5 c5) k0); have k8:=keep_q k7; clear ht5 hb5 hxt hqt hyt hzt hbS)))
 all_goals
  have hg1:w.heap.size≤w.heap.size+1:=by omega
  have hWs:W.heap.size=w.heap.size+1+1+1+1:=Hsz.out;have hbt:=Hb2.out.trans (HbS.out.mono Hb2.out.size);have p1:=ownsRow_beyond O1.out HbS.out;have p2:=ownsRow_beyond O2.out HbS.out;have hxt:=Hx2.out.below HbS.out Hx2.out.lt;have hqt:=Hq2.out.below HbS.out Hq2.out.lt;have hs9:=((((Hyt.out.set_ 0 (.int .u8 (u.k))).set_ 1 (.int .i64 (u.n))).set_ 2 (.int .i64 (u.v))).set_ 3 (.int .u8 (u.c))).set_ 4 (.slice A5 n5 c5);have hb9:=((((hbt.setCell (p:=⟨w.heap.size+1,0,none⟩) hg1 (.int .u8 (u.k))).setCell (p:=⟨w.heap.size+1,1,none⟩) hg1 (.int .i64 (u.n))).setCell (p:=⟨w.heap.size+1,2,none⟩) hg1 (.int .i64 (u.v))).setCell (p:=⟨w.heap.size+1,3,none⟩) hg1 (.int .u8 (u.c))).setCell (p:=⟨w.heap.size+1,4,none⟩) hg1 (.slice A5 n5 c5);generalize hW9:((((((wt).setCell ⟨w.heap.size+1,0,none⟩ (.int .u8 (u.k))).setCell ⟨w.heap.size+1,1,none⟩ (.int .i64 (u.n))).setCell ⟨w.heap.size+1,2,none⟩ (.int .i64 (u.v))).setCell ⟨w.heap.size+1,3,none⟩ (.int .u8 (u.c))).setCell ⟨w.heap.size+1,4,none⟩ (.slice A5 n5 c5))=W9 at hs9 hb9 ⊢;replace hs9:Blk W9 (w.heap.size+1) 27 #[.int .u8 (u.k),.int .i64 (u.n),.int .i64 (u.v),.int .u8 (u.c),.slice A5 n5 c5]:=hs9;have d0':W9.cell? ⟨w.heap.size+1,0,none⟩=some (.int .u8 (u.k)):=hs9.cell 0;have d1':W9.cell? ⟨w.heap.size+1,1,none⟩=some (.int .i64 (u.n)):=hs9.cell 1;have d2':W9.cell? ⟨w.heap.size+1,2,none⟩=some (.int .i64 (u.v)):=hs9.cell 2;have d3':W9.cell? ⟨w.heap.size+1,3,none⟩=some (.int .u8 (u.c)):=hs9.cell 3;have d4':W9.cell? ⟨w.heap.size+1,4,none⟩=some (.slice A5 n5 c5):=hs9.cell 4
  have hx9:=hxt.other (g':=w.heap.size+1) (by omega) 0 (.int .u8 u.k) |>.other (g':=w.heap.size+1) (by omega) 1 (.int .i64 u.n) |>.other (g':=w.heap.size+1) (by omega) 2 (.int .i64 u.v) |>.other (g':=w.heap.size+1) (by omega) 3 (.int .u8 u.c) |>.other (g':=w.heap.size+1) (by omega) 4 (.slice A5 n5 c5)
  have hq9:=hqt.other (g':=w.heap.size+1) (by omega) 0 (.int .u8 u.k) |>.other (g':=w.heap.size+1) (by omega) 1 (.int .i64 u.n) |>.other (g':=w.heap.size+1) (by omega) 2 (.int .i64 u.v) |>.other (g':=w.heap.size+1) (by omega) 3 (.int .u8 u.c) |>.other (g':=w.heap.size+1) (by omega) 4 (.slice A5 n5 c5)
  have hlt:∀ (W':World) (i:Nat) (v:Value) (e:TypeId) (sz:Nat) (v2:Value) (n:Nat) (xs:List Value),W'.ownsRow W.heap.size e sz v2 n xs→(W'.setCell ⟨w.heap.size+1,i,none⟩ v).ownsRow W.heap.size e sz v2 n xs:=fun W' i v e sz v2 n xs h=>ownsRow_setCell_below h (by show w.heap.size+1<W.heap.size; omega) v
  have p19:=hlt _ 4 (.slice A5 n5 c5) _ _ _ _ _ (hlt _ 3 (.int .u8 u.c) _ _ _ _ _ (hlt _ 2 (.int .i64 u.v) _ _ _ _ _ (hlt _ 1 (.int .i64 u.n) _ _ _ _ _ (hlt _ 0 (.int .u8 u.k) _ _ _ _ _ p1))));have p29:=hlt _ 4 (.slice A5 n5 c5) _ _ _ _ _ (hlt _ 3 (.int .u8 u.c) _ _ _ _ _ (hlt _ 2 (.int .i64 u.v) _ _ _ _ _ (hlt _ 1 (.int .i64 u.n) _ _ _ _ _ (hlt _ 0 (.int .u8 u.k) _ _ _ _ _ p2))))
  have hc:∀ (W':World) (i:Nat) (v:Value) (p:Addr),w2.drew.heap.size≤p.block→(W'.setCell ⟨w.heap.size+1,i,none⟩ v).cell? p=W'.cell? p:=fun W' i v p hp=>World.cell?_setCell_other _ _ _ _ (fun e=>by rw[← e] at hp; simp at hp; omega)
  have hT9:TysS W9 (fun b=>w2.drew.heap.size≤b∧b<W9.heap.size) A5 n5 c5 u.l:=by
   rw[← hW9]
   refine Ht5.out.keep (fun b hb=>⟨hb.1,by simpa using hb.2⟩) fun p hp=>?_
   rw[hc _ _ _ _ hp.1,hc _ _ _ _ hp.1,hc _ _ _ _ hp.1,hc _ _ _ _ hp.1,hc _ _ _ _ hp.1]
  rw[hW9] at hx9 hq9 p19 p29;have hx10:Blk ((W9.setCell ⟨w.heap.size+1+1,0,none⟩ (.slice A1 n1 c1)).setCell ⟨w.heap.size+1+1+1,0,none⟩ (.slice A2 n2 c2)) (w.heap.size+1+1) 30 #[.slice A1 n1 c1]:=(hx9.set_ 0 (.slice A1 n1 c1)).other (g':=w.heap.size+1+1+1) (by omega) 0 (.slice A2 n2 c2);have hq10:Blk ((W9.setCell ⟨w.heap.size+1+1,0,none⟩ (.slice A1 n1 c1)).setCell ⟨w.heap.size+1+1+1,0,none⟩ (.slice A2 n2 c2)) (w.heap.size+1+1+1) 30 #[.slice A2 n2 c2]:=(hq9.other (g':=w.heap.size+1+1) (by omega) 0 (.slice A1 n1 c1)).set_ 0 (.slice A2 n2 c2);have hs10:=(hs9.other (g':=w.heap.size+1+1) (by omega) 0 (.slice A1 n1 c1)).other (g':=w.heap.size+1+1+1) (by omega) 0 (.slice A2 n2 c2);have hb10:=(hb9.setCell (p:=⟨w.heap.size+1+1,0,none⟩) hle1 (.slice A1 n1 c1)).setCell (p:=⟨w.heap.size+1+1+1,0,none⟩) hle2 (.slice A2 n2 c2)
  have p10:=RdI.of_own (ownsRow_setCell_below (a:=⟨w.heap.size+1+1+1,0,none⟩) (ownsRow_setCell_below (a:=⟨w.heap.size+1+1,0,none⟩) p19 (by show w.heap.size+1+1<W.heap.size; omega) (.slice A1 n1 c1)) (by show w.heap.size+1+1+1<W.heap.size; omega) (.slice A2 n2 c2))
  have p20:=RdI.of_own (ownsRow_setCell_below (a:=⟨w.heap.size+1+1+1,0,none⟩) (ownsRow_setCell_below (a:=⟨w.heap.size+1+1,0,none⟩) p29 (by show w.heap.size+1+1<W.heap.size; omega) (.slice A1 n1 c1)) (by show w.heap.size+1+1+1<W.heap.size; omega) (.slice A2 n2 c2))
  have hT10:TysV ((W9.setCell ⟨w.heap.size+1+1,0,none⟩ (.slice A1 n1 c1)).setCell ⟨w.heap.size+1+1+1,0,none⟩ (.slice A2 n2 c2)) ((W9.setCell ⟨w.heap.size+1+1,0,none⟩ (.slice A1 n1 c1)).setCell ⟨w.heap.size+1+1+1,0,none⟩ (.slice A2 n2 c2)).heap.size A5 n5 c5 u.l:=by
   refine TysS.lt (S:=fun b=>w2.drew.heap.size≤b∧b<W9.heap.size) (hT9.keep (fun b hb=>hb) fun p hp=>?_) (fun b hb=>by simpa using hb.2)
   have hp1:=hp.1
   rw[World.cell?_setCell_other _ _ _ _ (fun e=>by rw[← e] at hp1; simp at hp1; omega),World.cell?_setCell_other _ _ _ _ (fun e=>by rw[← e] at hp1; simp at hp1; omega)]
  generalize (W9.setCell ⟨w.heap.size+1+1,0,none⟩ (.slice A1 n1 c1)).setCell ⟨w.heap.size+1+1+1,0,none⟩ (.slice A2 n2 c2)=W10 at hx10 hq10 hs10 hb10 p10 p20 hT10 ⊢;have t0:=hs10.cell 0;have t1:=hs10.cell 1;have t2:=hs10.cell 2;have t3:=hs10.cell 3;have t4:=hs10.cell 4;have t5:=hx10.cell 0;have t6:=hq10.cell 0;have HR:Hid (RetCan u L1 L2 w (.returned (.tuple #[.agg #[.int .u8 u.k,.int .i64 u.n,.int .i64 u.v,.int .u8 u.c,.slice A5 n5 c5],.slice A1 n1 c1,.slice A2 n2 c2])) W10):=qq ⟨A5,n5,c5,A1,n1,c1,A2,n2,c2,rfl,hT10,p10,p20,hb10⟩;clear d0' d1' d2' d3' d4' hx9 hq9 hlt p19 p29 hc hT9 hx10 hq10 hs10 hb10 p10 p20 hT10 hs9 hb9 hW9 p1 p2 hxt hqt hbt k0 k7 k8 z0 z1 z2 z3 z4 cx cq cy0 cy1 cy2 cy3 cy4 fx fq fy0 fy1 fy2 fy3 fy4;go_wp2_with fail
  exact bodyPost_ret (v:=.tuple #[.agg #[.int .u8 u.k,.int .i64 u.n,.int .i64 u.v,.int .u8 u.c,.slice A5 n5 c5],.slice A1 n1 c1,.slice A2 n2 c2]) (by simp[results,Tryz.results45,go_sem,t0,t1,t2,t3,t4,t5,t6]) rfl (by rw[Hu.out]; exact HR.out)
def BT (w:World) (g:Nat) (t:TyD) (A:Option Addr) (m cp:Nat):Prop:=Blk w g 27 #[.int .u8 t.k,.int .i64 t.n,.int .i64 t.v,.int .u8 t.c,.slice A m cp]∧TysV w w.heap.size A m cp t.l
section
variable {w w':World} {g:Nat} {t:TyD} {A:Option Addr} {m cp n c:Nat} {l:List Int}
theorem BT.fresh (h:BT w g t A m cp) (hb:Below w.heap.size w w'):BT w' g t A m cp:=⟨h.1.below hb h.1.lt,TysV.fresh h.2 hb⟩
theorem BT.lt (h:BT w g t A m cp):g<w.heap.size:=h.1.lt
theorem BT.new (h:TysV w w.heap.size A m cp t.l):BT (w.alloc (Obj.cells #[.int .u8 t.k,.int .i64 t.n,.int .i64 t.v,.int .u8 t.c,.slice A m cp] 27)) w.heap.size t A m cp:=⟨blk_new w _ _,TysV.fresh h (below_box _)⟩
theorem BT.five (h:BT w g t A m cp):w.cell? ⟨g,0,none⟩=some (.int .u8 t.k)∧w.cell? ⟨g,1,none⟩=some (.int .i64 t.n)∧w.cell? ⟨g,2,none⟩=some (.int .i64 t.v)∧w.cell? ⟨g,3,none⟩=some (.int .u8 t.c)∧w.cell? ⟨g,4,none⟩=some (.slice A m cp):=
 ⟨h.1.cell 0,h.1.cell 1,h.1.cell 2,h.1.cell 3,h.1.cell 4⟩
end
theorem put_u {t u:TyD} {types:List TyD} {ms:List (Int × Int)} {x:Int} (ht:putT t types ms=u) (hx:putE t types ms=x) (A:Option Addr) (m cp:Nat) (A1:Option Addr) (n1 c1:Nat) (A2:Option Addr) (n2 c2:Nat) (w:World) (hl:TysV w w.heap.size A m cp t.l) (hts:TysV w w.heap.size A1 n1 c1 types) (hms:MusV w w.heap.size A2 n2 c2 ms) (hn:n1≤1099511627776):
 Calls Tryz.prog 20 #[.agg #[.int .u8 t.k,.int .i64 t.n,.int .i64 t.v,.int .u8 t.c,.slice A m cp],.slice A1 n1 c1,.slice A2 n2 c2] w fun e w'=>∃ A m cp,e=.returned (.tuple #[.agg #[.int .u8 u.k,.int .i64 u.n,.int .i64 u.v,.int .u8 u.c,.slice A m cp],.int .i64 x])∧TysV w' w'.heap.size A m cp u.l∧Below w.heap.size w w':=by
 subst ht; subst hx
 refine(tyPut_any t A m cp A1 n1 c1 types A2 n2 c2 ms w hl hts hms hn).mono ?_;rintro e w' ⟨A',m',cp',rfl,h1,h2⟩;exact⟨A',m',cp',rfl,h1.lt fun b hb=>hb.2,h2⟩
theorem MusV.fresh {w w':World} {A:Option Addr} {n c:Nat} {ms:List (Int × Int)} (h:MusV w w.heap.size A n c ms) (hb:Below w.heap.size w w'):MusV w' w'.heap.size A n c ms:=(h.below hb).more hb.size
end Go.Proofs.YtdmakpmbknindaaGreatDoor
