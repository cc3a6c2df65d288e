import Derived.Test.YtdmakpmbknindaaGreatDoorM27
import Derived.Maps.RangeWalk
set_option linter.unusedVariables false
set_option linter.unusedSimpArgs false
set_option maxHeartbeats 4000000
set_option maxRecDepth 100000
namespace Go.Proofs.YtdmakpmbknindaaGreatDoor
open Go.RowKit
def set5 (w:World) (b:Nat) (v0 v1 v2 v3 v4:Value):World:=((((w.setCell ⟨b,0,none⟩ v0).setCell ⟨b,1,none⟩ v1).setCell ⟨b,2,none⟩ v2).setCell ⟨b,3,none⟩ v3).setCell ⟨b,4,none⟩ v4
theorem set5_blk {w:World} {b:Nat} {t:TypeId} {x0 x1 x2 x3 x4:Value} (h:Blk w b t #[x0,x1,x2,x3,x4]) (v0 v1 v2 v3 v4:Value):Blk (set5 w b v0 v1 v2 v3 v4) b t #[v0,v1,v2,v3,v4]:=by
 have hh:=((((h.set_ 0 v0).set_ 1 v1).set_ 2 v2).set_ 3 v3).set_ 4 v4;simp only[qd,qh,qi] at hh;exact hh
theorem set5_in (w:World) (b:Nat) (v0 v1 v2 v3 v4:Value):SetIn b w (set5 w b v0 v1 v2 v3 v4):=(((((SetIn.refl b w).set 0 v0).set 1 v1).set 2 v2).set 3 v3).set 4 v4
theorem TysV.empty {w w':World} {B B':Nat} {A:Option Addr} {m cp:Nat} (h:TysV w B A m cp []):TysV w' B' A m cp []:=
 ⟨h.1,h.2.1,h.2.2.1,fun hm=>absurd h.1 (by simp; omega)⟩
theorem v8_any (n:Int) (w:World):Calls Tryz.prog 35 #[.int .i64 n] w (RetT5 1 (n) 0 0 [] w):=by
 have hk:=blk_new w z5 27;have hb:=below_box (w:=w) (Obj.cells z5 27);obtain⟨W,hW⟩:∃ x,w.alloc (Obj.cells z5 27)=x:=⟨_,rfl⟩
 have hs:W.heap.size=w.heap.size+1:=by rw[← hW]; simp
 rw[hW] at hk hb;have HW:=qq hW;have HK:=qq hk;have Hb:=qq hb;clear hW hk hb hs
 go_enter Tryz.func35,Tryz.ntmps35
 go_upto_region 1 with fail;rw[HW.out];go_wp2_with fail;refine(lawV_any n W).mono ?_;rintro e w1 ⟨A1,m1,p1,rfl,ht,hb1⟩;have HK1:=qq (HK.out.below hb1 HK.out.lt);have Ht:=qq ht;have hlt:=HK.out.lt;have Hb1:=qq (Hb.out.trans (hb1.mono Hb.out.size));clear ht hb1 HK HW Hb;have f0:=(HK1.out).frozen 0;have f1:=(HK1.out).frozen 1;have f2:=(HK1.out).frozen 2;have f3:=(HK1.out).frozen 3;have f4:=(HK1.out).frozen 4;have d0:w1.cell? ⟨w.heap.size,0,none⟩=some (.int .u8 0):=(HK1.out).cell 0;have d1:w1.cell? ⟨w.heap.size,1,none⟩=some (.int .i64 0):=(HK1.out).cell 1;have d2:w1.cell? ⟨w.heap.size,2,none⟩=some (.int .i64 0):=(HK1.out).cell 2;have d3:w1.cell? ⟨w.heap.size,3,none⟩=some (.int .u8 0):=(HK1.out).cell 3;have d4:w1.cell? ⟨w.heap.size,4,none⟩=some (.slice none 0 0):=(HK1.out).cell 4;go_wp2_with fail;show bodyPost _ _ _ _ _ (set5 w1 (w.heap.size) (.int .u8 (1)) (.int .i64 (n)) (.int .i64 (0)) (.int .u8 (0)) (.slice A1 m1 p1));have hkF:=set5_blk (HK1.out) (.int .u8 (1)) (.int .i64 (n)) (.int .i64 (0)) (.int .u8 (0)) (.slice A1 m1 p1);have hiF:=set5_in w1 (w.heap.size) (.int .u8 (1)) (.int .i64 (n)) (.int .i64 (0)) (.int .u8 (0)) (.slice A1 m1 p1);clear f0 f1 f2 f3 f4 d0 d1 d2 d3 d4;generalize set5 w1 (w.heap.size) (.int .u8 (1)) (.int .i64 (n)) (.int .i64 (0)) (.int .u8 (0)) (.slice A1 m1 p1)=wF at hkF hiF ⊢;have q0:wF.cell? ⟨w.heap.size,0,none⟩=some (.int .u8 (1)):=hkF.cell 0;have q1:wF.cell? ⟨w.heap.size,1,none⟩=some (.int .i64 (n)):=hkF.cell 1;have q2:wF.cell? ⟨w.heap.size,2,none⟩=some (.int .i64 (0)):=hkF.cell 2;have q3:wF.cell? ⟨w.heap.size,3,none⟩=some (.int .u8 (0)):=hkF.cell 3;have q4:wF.cell? ⟨w.heap.size,4,none⟩=some (.slice A1 m1 p1):=hkF.cell 4;exact bodyPost_ret (v:=.agg #[.int .u8 (1),.int .i64 (n),.int .i64 (0),.int .u8 (0),.slice A1 m1 p1]) (by simp[results,Tryz.results35,go_sem,q0,q1,q2,q3,q4]) rfl ⟨_,_,_,rfl,Ht.out.empty,hiF.bel _ _ (Nat.le_refl _) (Nat.le_refl _) Hb1.out⟩
theorem whole8_any  (w:World):Calls Tryz.prog 37 #[] w (RetT5 2 (0) 0 0 [] w):=by
 have hk:=blk_new w z5 27;have hb:=below_box (w:=w) (Obj.cells z5 27);obtain⟨W,hW⟩:∃ x,w.alloc (Obj.cells z5 27)=x:=⟨_,rfl⟩
 have hs:W.heap.size=w.heap.size+1:=by rw[← hW]; simp
 rw[hW] at hk hb;have HW:=qq hW;have HK:=qq hk;have Hb:=qq hb;clear hW hk hb hs
 go_enter Tryz.func37,Tryz.ntmps37
 go_upto_region 1 with fail;rw[HW.out];go_wp2_with fail;refine(lawOf_any 2 [] none 0 0 W TysV.nil).mono ?_;rintro e w1 ⟨A1,m1,p1,rfl,ht,hb1⟩;have HK1:=qq (HK.out.below hb1 HK.out.lt);have Ht:=qq ht;have hlt:=HK.out.lt;have Hb1:=qq (Hb.out.trans (hb1.mono Hb.out.size));clear ht hb1 HK HW Hb;have f0:=(HK1.out).frozen 0;have f1:=(HK1.out).frozen 1;have f2:=(HK1.out).frozen 2;have f3:=(HK1.out).frozen 3;have f4:=(HK1.out).frozen 4;have d0:w1.cell? ⟨w.heap.size,0,none⟩=some (.int .u8 0):=(HK1.out).cell 0;have d1:w1.cell? ⟨w.heap.size,1,none⟩=some (.int .i64 0):=(HK1.out).cell 1;have d2:w1.cell? ⟨w.heap.size,2,none⟩=some (.int .i64 0):=(HK1.out).cell 2;have d3:w1.cell? ⟨w.heap.size,3,none⟩=some (.int .u8 0):=(HK1.out).cell 3;have d4:w1.cell? ⟨w.heap.size,4,none⟩=some (.slice none 0 0):=(HK1.out).cell 4;go_wp2_with fail;show bodyPost _ _ _ _ _ (set5 w1 (w.heap.size) (.int .u8 (2)) (.int .i64 (0)) (.int .i64 (0)) (.int .u8 (0)) (.slice A1 m1 p1));have hkF:=set5_blk (HK1.out) (.int .u8 (2)) (.int .i64 (0)) (.int .i64 (0)) (.int .u8 (0)) (.slice A1 m1 p1);have hiF:=set5_in w1 (w.heap.size) (.int .u8 (2)) (.int .i64 (0)) (.int .i64 (0)) (.int .u8 (0)) (.slice A1 m1 p1);clear f0 f1 f2 f3 f4 d0 d1 d2 d3 d4;generalize set5 w1 (w.heap.size) (.int .u8 (2)) (.int .i64 (0)) (.int .i64 (0)) (.int .u8 (0)) (.slice A1 m1 p1)=wF at hkF hiF ⊢;have q0:wF.cell? ⟨w.heap.size,0,none⟩=some (.int .u8 (2)):=hkF.cell 0;have q1:wF.cell? ⟨w.heap.size,1,none⟩=some (.int .i64 (0)):=hkF.cell 1;have q2:wF.cell? ⟨w.heap.size,2,none⟩=some (.int .i64 (0)):=hkF.cell 2;have q3:wF.cell? ⟨w.heap.size,3,none⟩=some (.int .u8 (0)):=hkF.cell 3;have q4:wF.cell? ⟨w.heap.size,4,none⟩=some (.slice A1 m1 p1):=hkF.cell 4;exact bodyPost_ret (v:=.agg #[.int .u8 (2),.int .i64 (0),.int .i64 (0),.int .u8 (0),.slice A1 m1 p1]) (by simp[results,Tryz.results37,go_sem,q0,q1,q2,q3,q4]) rfl ⟨_,_,_,rfl,Ht.out.empty,hiF.bel _ _ (Nat.le_refl _) (Nat.le_refl _) Hb1.out⟩
theorem text8_any  (w:World):Calls Tryz.prog 38 #[] w (RetT5 3 (0) 0 0 [] w):=by
 have hk:=blk_new w z5 27;have hb:=below_box (w:=w) (Obj.cells z5 27);obtain⟨W,hW⟩:∃ x,w.alloc (Obj.cells z5 27)=x:=⟨_,rfl⟩
 have hs:W.heap.size=w.heap.size+1:=by rw[← hW]; simp
 rw[hW] at hk hb;have HW:=qq hW;have HK:=qq hk;have Hb:=qq hb;clear hW hk hb hs
 go_enter Tryz.func38,Tryz.ntmps38
 go_upto_region 1 with fail;rw[HW.out];go_wp2_with fail;refine(lawOf_any 3 [] none 0 0 W TysV.nil).mono ?_;rintro e w1 ⟨A1,m1,p1,rfl,ht,hb1⟩;have HK1:=qq (HK.out.below hb1 HK.out.lt);have Ht:=qq ht;have hlt:=HK.out.lt;have Hb1:=qq (Hb.out.trans (hb1.mono Hb.out.size));clear ht hb1 HK HW Hb;have f0:=(HK1.out).frozen 0;have f1:=(HK1.out).frozen 1;have f2:=(HK1.out).frozen 2;have f3:=(HK1.out).frozen 3;have f4:=(HK1.out).frozen 4;have d0:w1.cell? ⟨w.heap.size,0,none⟩=some (.int .u8 0):=(HK1.out).cell 0;have d1:w1.cell? ⟨w.heap.size,1,none⟩=some (.int .i64 0):=(HK1.out).cell 1;have d2:w1.cell? ⟨w.heap.size,2,none⟩=some (.int .i64 0):=(HK1.out).cell 2;have d3:w1.cell? ⟨w.heap.size,3,none⟩=some (.int .u8 0):=(HK1.out).cell 3;have d4:w1.cell? ⟨w.heap.size,4,none⟩=some (.slice none 0 0):=(HK1.out).cell 4;go_wp2_with fail;show bodyPost _ _ _ _ _ (set5 w1 (w.heap.size) (.int .u8 (3)) (.int .i64 (0)) (.int .i64 (0)) (.int .u8 (0)) (.slice A1 m1 p1));have hkF:=set5_blk (HK1.out) (.int .u8 (3)) (.int .i64 (0)) (.int .i64 (0)) (.int .u8 (0)) (.slice A1 m1 p1);have hiF:=set5_in w1 (w.heap.size) (.int .u8 (3)) (.int .i64 (0)) (.int .i64 (0)) (.int .u8 (0)) (.slice A1 m1 p1);clear f0 f1 f2 f3 f4 d0 d1 d2 d3 d4;generalize set5 w1 (w.heap.size) (.int .u8 (3)) (.int .i64 (0)) (.int .i64 (0)) (.int .u8 (0)) (.slice A1 m1 p1)=wF at hkF hiF ⊢;have q0:wF.cell? ⟨w.heap.size,0,none⟩=some (.int .u8 (3)):=hkF.cell 0;have q1:wF.cell? ⟨w.heap.size,1,none⟩=some (.int .i64 (0)):=hkF.cell 1;have q2:wF.cell? ⟨w.heap.size,2,none⟩=some (.int .i64 (0)):=hkF.cell 2;have q3:wF.cell? ⟨w.heap.size,3,none⟩=some (.int .u8 (0)):=hkF.cell 3;have q4:wF.cell? ⟨w.heap.size,4,none⟩=some (.slice A1 m1 p1):=hkF.cell 4;exact bodyPost_ret (v:=.agg #[.int .u8 (3),.int .i64 (0),.int .i64 (0),.int .u8 (0),.slice A1 m1 p1]) (by simp[results,Tryz.results38,go_sem,q0,q1,q2,q3,q4]) rfl ⟨_,_,_,rfl,Ht.out.empty,hiF.bel _ _ (Nat.le_refl _) (Nat.le_refl _) Hb1.out⟩
theorem fun8_any (a b:TyD) (ha:mayT a=true) (hb:mayT b=true) (v c:Int) (A:Option Addr) (m cp:Nat) (A':Option Addr) (m' cp':Nat) (w:World) (hl:TysV w w.heap.size A m cp a.l) (hl':TysV w w.heap.size A' m' cp' b.l):
 Calls Tryz.prog 34 #[.agg #[.int .u8 a.k,.int .i64 a.n,.int .i64 a.v,.int .u8 a.c,.slice A m cp],.agg #[.int .i64 v,.int .u8 c],.agg #[.int .u8 b.k,.int .i64 b.n,.int .i64 b.v,.int .u8 b.c,.slice A' m' cp']] w (RetT5 7 0 v c [a,b] w):=by
 obtain⟨w1,hw1⟩:∃ W,w.alloc (Obj.cells #[.int .u8 a.k,.int .i64 a.n,.int .i64 a.v,.int .u8 a.c,.slice A m cp] 27)=W:=⟨_,rfl⟩;have hb1:=below_box (w:=w) (Obj.cells #[.int .u8 a.k,.int .i64 a.n,.int .i64 a.v,.int .u8 a.c,.slice A m cp] 27);have hk1:=blk_new w #[.int .u8 a.k,.int .i64 a.n,.int .i64 a.v,.int .u8 a.c,.slice A m cp] 27
 have hs1:w1.heap.size=w.heap.size+1:=by rw[← hw1]; simp
 obtain⟨w2,hw2⟩:∃ W,w1.alloc (Obj.cells #[.int .i64 v,.int .u8 c] 24)=W:=⟨_,rfl⟩;have hb2:=below_box (w:=w1) (Obj.cells #[.int .i64 v,.int .u8 c] 24);have hk2:=blk_new w1 #[.int .i64 v,.int .u8 c] 24
 have hs2:w2.heap.size=w.heap.size+1+1:=by rw[← hw2]; simp[hs1]
 obtain⟨w3,hw3⟩:∃ W,w2.alloc (Obj.cells #[.int .u8 b.k,.int .i64 b.n,.int .i64 b.v,.int .u8 b.c,.slice A' m' cp'] 27)=W:=⟨_,rfl⟩;have hb3:=below_box (w:=w2) (Obj.cells #[.int .u8 b.k,.int .i64 b.n,.int .i64 b.v,.int .u8 b.c,.slice A' m' cp'] 27);have hk3:=blk_new w2 #[.int .u8 b.k,.int .i64 b.n,.int .i64 b.v,.int .u8 b.c,.slice A' m' cp'] 27
 have hs3:w3.heap.size=w.heap.size+1+1+1:=by rw[← hw3]; simp[hs2]
 obtain⟨w4,hw4⟩:∃ W,w3.alloc (Obj.cells z5 27)=W:=⟨_,rfl⟩;have hb4:=below_box (w:=w3) (Obj.cells z5 27);have hk4:=blk_new w3 z5 27;rw[hw1] at hb1 hk1;rw[hw2] at hb2 hk2;rw[hw3] at hb3 hk3;rw[hw4] at hb4 hk4;rw[hs1] at hk2;rw[hs2] at hk3;rw[hs3] at hk4;have hbb:=(((hb1.trans (hb2.mono hb1.size)).trans (hb3.mono (by omega))).trans (hb4.mono (by omega)));have hk1':=((hk1.below hb2 (by omega)).below hb3 (by omega)).below hb4 (by omega);have hk2':=(hk2.below hb3 (by omega)).below hb4 (by omega);have hk3':=hk3.below hb4 (by omega)
 have hww:(((w.alloc (Obj.cells #[.int .u8 a.k,.int .i64 a.n,.int .i64 a.v,.int .u8 a.c,.slice A m cp] 27)).alloc (Obj.cells #[.int .i64 v,.int .u8 c] 24)).alloc (Obj.cells #[.int .u8 b.k,.int .i64 b.n,.int .i64 b.v,.int .u8 b.c,.slice A' m' cp'] 27)).alloc (Obj.cells z5 27)=w4:=by rw[hw1,hw2,hw3,hw4]
 have HW:=qq hww;have Hb:=qq hbb;have Hl:=qq ((hl.below hbb).more hbb.size);have Hl':=qq ((hl'.below hbb).more hbb.size);have HK:=qq hk4;have x0:=hk1'.cell 0;have x1:=hk1'.cell 1;have x2:=hk1'.cell 2;have x3:=hk1'.cell 3;have x4:=hk1'.cell 4;have y0:=hk2'.cell 0;have y1:=hk2'.cell 1;have z0:=hk3'.cell 0;have z1:=hk3'.cell 1;have z2:=hk3'.cell 2;have z3:=hk3'.cell 3;have z4:=hk3'.cell 4;simp only[qc,qb,qa] at x0 x1 x2 x3 x4 y0 y1 z0 z1 z2 z3 z4;clear hw1 hw2 hw3 hw4 hww hb1 hb2 hb3 hb4 hk1 hk2 hk3 hk4 hk1' hk2' hk3' hs1 hs2 hs3 hbb hl hl';have Ha:=qq ha;have Hbm:=qq hb;clear ha hb
 go_enter Tryz.func34,Tryz.ntmps34
 go_upto_region 1 with fail;rw[HW.out];go_wp2_with fail;refine(lawFun_any a b v c A m cp A' m' cp' w4 Hl.out Hl'.out).mono ?_;rintro e w5 ⟨A1,m1,p1,rfl,ht,hb5⟩;have HK1:=qq (HK.out.below hb5 HK.out.lt);have Ht:=qq ht;have hlt:=HK.out.lt;have Hb1:=qq (Hb.out.trans (hb5.mono Hb.out.size));clear ht hb5 HK HW Hb x0 x1 x2 x3 x4 y0 y1 z0 z1 z2 z3 z4 Hl Hl';have f0:=(HK1.out).frozen 0;have f1:=(HK1.out).frozen 1;have f2:=(HK1.out).frozen 2;have f3:=(HK1.out).frozen 3;have f4:=(HK1.out).frozen 4;have d0:w5.cell? ⟨w.heap.size+1+1+1,0,none⟩=some (.int .u8 0):=(HK1.out).cell 0;have d1:w5.cell? ⟨w.heap.size+1+1+1,1,none⟩=some (.int .i64 0):=(HK1.out).cell 1;have d2:w5.cell? ⟨w.heap.size+1+1+1,2,none⟩=some (.int .i64 0):=(HK1.out).cell 2;have d3:w5.cell? ⟨w.heap.size+1+1+1,3,none⟩=some (.int .u8 0):=(HK1.out).cell 3;have d4:w5.cell? ⟨w.heap.size+1+1+1,4,none⟩=some (.slice none 0 0):=(HK1.out).cell 4;go_wp2_with fail;show bodyPost _ _ _ _ _ (set5 w5 (w.heap.size+1+1+1) (.int .u8 (7)) (.int .i64 (0)) (.int .i64 (v)) (.int .u8 (c)) (.slice A1 m1 p1));have hkF:=set5_blk (HK1.out) (.int .u8 (7)) (.int .i64 (0)) (.int .i64 (v)) (.int .u8 (c)) (.slice A1 m1 p1);have hiF:=set5_in w5 (w.heap.size+1+1+1) (.int .u8 (7)) (.int .i64 (0)) (.int .i64 (v)) (.int .u8 (c)) (.slice A1 m1 p1);clear f0 f1 f2 f3 f4 d0 d1 d2 d3 d4;generalize set5 w5 (w.heap.size+1+1+1) (.int .u8 (7)) (.int .i64 (0)) (.int .i64 (v)) (.int .u8 (c)) (.slice A1 m1 p1)=wF at hkF hiF ⊢;have q0:wF.cell? ⟨w.heap.size+1+1+1,0,none⟩=some (.int .u8 (7)):=hkF.cell 0;have q1:wF.cell? ⟨w.heap.size+1+1+1,1,none⟩=some (.int .i64 (0)):=hkF.cell 1;have q2:wF.cell? ⟨w.heap.size+1+1+1,2,none⟩=some (.int .i64 (v)):=hkF.cell 2;have q3:wF.cell? ⟨w.heap.size+1+1+1,3,none⟩=some (.int .u8 (c)):=hkF.cell 3;have q4:wF.cell? ⟨w.heap.size+1+1+1,4,none⟩=some (.slice A1 m1 p1):=hkF.cell 4
 have HT:=qq (Ht.out.zbox (w':=wF) (B':=wF.heap.size) (fun u hu=>by
  rcases qk.1 hu with e | hu
  · rw[e]; exact Ha.out
  · rw[List.mem_singleton.1 hu]; exact Hbm.out) HK1.out z5_u8 hiF.other (Nat.le_of_eq hiF.size.symm))
 exact bodyPost_ret (v:=.agg #[.int .u8 (7),.int .i64 (0),.int .i64 (v),.int .u8 (c),.slice A1 m1 p1]) (by simp[results,Tryz.results34,go_sem,q0,q1,q2,q3,q4]) rfl ⟨_,_,_,rfl,HT.out,hiF.bel _ _ (by omega) (by omega) Hb1.out⟩
theorem OkTab.rng {k:Nat} {t:TabD} (h:OkTab k t):RngT k t:=by
 refine⟨fun i hi=>noneB_rng h.nl i (by rw[h.ll]; exact hi),fun i hi=>noneB_rng h.nu i (by rw[h.ul]; exact hi),fun i j hi hj=>?_⟩
 have hi':i<t.pair.length:=by rw[h.pl]; exact hi
 have hp:=h.np t.pair[i] (List.getElem_mem hi')
 have e1:t.pair.getD i []=t.pair[i]:=by rw[List.getD_eq_getElem?_getD,qj hi']; rfl
 unfold pairE;rw[e1]
 exact noneB_rng hp.2 j (by rw[hp.1]; exact hj)
theorem closeR_ok {t:TyD} {n:Int} {xs:List IneqD} {s:SchD} (h:CloseR t n xs s 0):OkSch s∧s.t=canT t∧mayTE t=0∧(∀ v∈multsT t,v<n)∧ProjR n xs (multsT t) s.tab 0:=by
 rcases h with ⟨h1,_,h3⟩ | ⟨hm,⟨_,_,h3⟩ | ⟨ha,tab,e1,hp,⟨h1,_,h3⟩ | ⟨h1,_,rfl⟩⟩⟩
 · exact absurd h3.symm h1
 · omega
 · exact absurd h3.symm h1
 · subst h1
   have ht:=mayTE_may hm
   have hl:(multsT (canT t)).length=(multsT t).length:=by rw[canT_mults ht]; simp
   obtain⟨N,hN,hT⟩:=hp.table rfl
   exact⟨⟨canT_mayTE hm,canT_canT ht,by show((varsT t).length:Int)=_; rw[canT_vars ht]; simp,by show((multsT t).length:Int)=_; rw[hl],by show OkTab _ tab; rw[hl]; exact hT.ok_⟩,rfl,hm,ha,hp⟩
theorem z10_sl {A:Option Addr} {n c:Nat} (hn:0<n):∀ j:Nat,z10[j]?≠some (.slice A n c)
 | 0=>by simp
 | 1=>by simp
 | 2=>by simp
 | 3=>by simp
 | 4=>by simp
 | 5=>by simp
 | 6=>by simp; omega
 | 7=>by simp; omega
 | 8=>by simp; omega
 | 9=>by simp; omega
 | j+10=>by simp
section
variable {w w':World} {B B' bx:Nat} {t:TypeId}
theorem MssV.zbox2 {A:Option Addr} {n c:Nat} {ls:List (List Int)} (h:MssV w B A n c ls) (hls:∀ l∈ls,∀ u∈l,u≠0) (hA:∀ l∈ls,0<l.length) (hk:Blk w bx t z10) (hw:∀ b o,b≠bx→w'.cell? ⟨b,o,none⟩=w.cell? ⟨b,o,none⟩) (hB:B≤B'):MssV w' B' A n c ls:=by
 refine⟨h.1,h.2.1,h.2.2.1,fun hn=>?_⟩;obtain⟨b,off,e,hb,hc⟩:=h.2.2.2 hn
 have hne:b≠bx:=fun e2=>by
  subst e2
  have hl:0<ls.length:=by rw[h.1]; exact hn
  obtain⟨A',c',h1,_⟩:=hc 0 hl;rw[hk.cell] at h1;exact z10_sl (hA _ (List.getElem_mem hl)) _ h1
 refine⟨b,off,e,by omega,fun i hi=>?_⟩
 obtain⟨A',c',h1,h2⟩:=hc i hi;exact⟨A',c',(hw b (off+i) hne).trans h1,h2.zbox (hls _ (List.getElem_mem hi)) hk z10_u8 hw hB⟩
theorem SchR.zbox {s:SchD} {A:Option Addr} {m cp:Nat} {A1:Option Addr} {c1:Nat} {A2:Option Addr} {c2:Nat} {A3:Option Addr} {c3:Nat} (h:SchR w B s A m cp A1 c1 A2 c2 A3 c3) (hm:mayT s.t=true) {k:Nat} (hT:OkTab k s.tab) (hk:Blk w bx t z10) (hw:∀ b o,b≠bx→w'.cell? ⟨b,o,none⟩=w.cell? ⟨b,o,none⟩) (hB:B≤B'):SchR w' B' s A m cp A1 c1 A2 c2 A3 c3:=
 ⟨h.ty.zbox (mayT_l hm) hk z10_u8 hw hB,h.low.zbox (noneB_pos hT.nl) hk z10_u8 hw hB,h.up.zbox (noneB_pos hT.nu) hk z10_u8 hw hB,h.pair.zbox2 (fun l hl=>noneB_pos (hT.np l hl).2) (fun l hl=>by
  rw[(hT.np l hl).1,← hT.pl]
  exact List.length_pos_of_mem hl) hk hw hB⟩
end
def inT:TyD:=.mk 7 0 1 0 [plainV 1,plainV 0]
def keepT:TyD:=.mk 7 0 0 0 [plainV 0,inT]
def xsK:List IneqD:=[⟨0,2,1,1⟩]
def keepS:SchD:=⟨2,2,keepT,⟨[1,2],[3,3],[[1,3],[3,1]]⟩⟩
theorem tabK:TabOf 2 (KeptE 3 xsK [0,1]) ⟨[1,2],[3,3],[[1,3],[3,1]]⟩:=
 tab_two (by decide) (fun f hf=>by
  have r0:=hf.1.2 0 (by decide);have r1:=hf.1.2 1 (by decide);have h0:(2:Int)≤max 1 (f.getD 1 0):=hold_const (hf.2 ⟨0,2,1,1⟩ (by decide)) (by decide)
  omega) [1,2,1] [3,2,1] [1,2,1] [1,3,1] [3,2,1] [1,3,1] (by decide) (by decide) (by decide) (by decide) (.inr (by decide)) (.inr (by decide))
theorem okK:OkS ((3:Nat):Int) [] xsK:=⟨by decide,Or.inl rfl,by unfold xsK; decide,fun z hz=>by cases hz⟩
theorem keep_may:mayTE keepT=0:=by decide +kernel
theorem keep_m:multsT keepT=[0,1]:=by decide +kernel
theorem keep_v:varsT keepT=[0,1]:=by decide +kernel
theorem keep_can:canT keepT=keepT:=by
 have h:sameT (canT keepT) keepT=true:=by decide +kernel
 exact(sameT_iff _ _).1 h
theorem closeK {s:SchD} {er:Int} (h:CloseR keepT 3 xsK s er):er=0∧s=keepS:=by
 rcases h with ⟨h1,_,_⟩ | ⟨_,⟨⟨v,hv,hn⟩,_,_⟩ | ⟨_,tab,e1,hp,hE⟩⟩
 · exact absurd keep_may h1
 · rw[keep_m] at hv
   simp at hv;omega
 · rw[keep_m] at hp
   have hp:ProjR ((3:Nat):Int) xsK [0,1] tab e1:=hp
   have h0:=hp.yes (by decide) (by decide) okK (by decide) (f:=[1,2,1]) (solB_sol (by decide)) ⟨by decide,by decide⟩
   obtain⟨N,hN,ht⟩:=hp.table h0
   obtain rfl:N=3:=by omega
   have htab:=ht.tab.unique tabK
   rcases hE with ⟨h1,_,_⟩ | ⟨_,h2,h3⟩
   · exact absurd h0 h1
   · refine⟨h2,?_⟩
     rw[h3,keep_v,keep_m,keep_can,htab];rfl
theorem keep_ok:OkSch keepS:=by
 have hT:OkTab 2 keepS.tab:=tabK.ok (by decide)
 exact⟨keep_may,keep_can,by show(2:Int)=_; rw[show keepS.t=keepT from rfl,keep_v]; rfl,by show(2:Int)=_; rw[show keepS.t=keepT from rfl,keep_m]; rfl,by rw[show keepS.t=keepT from rfl,keep_m]; exact hT⟩
theorem keep8_any (w:World):Calls Tryz.prog 36 #[] w fun e w'=>∃ v,e=.returned (.tuple #[v,.int .i64 0])∧SchV w' w'.heap.size v keepS∧Below w.heap.size w w':=by
 have hk:=blk_new w z10 40;have hb:=below_box (w:=w) (Obj.cells z10 40);obtain⟨W,hW⟩:∃ x,w.alloc (Obj.cells z10 40)=x:=⟨_,rfl⟩
 have hs:W.heap.size=w.heap.size+1:=by rw[← hW]; simp
 rw[hW] at hk hb;have HW:=qq hW;have HK:=qq hk;have Hb:=qq hb;clear hW hk hb hs
 go_enter Tryz.func36,Tryz.ntmps36
 go_upto_region 1 with fail;rw[HW.out];go_wp2_with fail
 refine(v8_any 0 W).mono ?_; rintro e w1 ⟨A1,m1,p1,rfl,h1,hb1⟩
 go_wp2_with fail
 refine(v8_any 1 w1).mono ?_; rintro e w2 ⟨A2,m2,p2,rfl,h2,hb2⟩
 go_wp2_with fail
 refine(v8_any 0 w2).mono ?_; rintro e w3 ⟨A3,m3,p3,rfl,h3,hb3⟩
 have hb:=((hb1.trans (hb2.mono hb1.size)).trans (hb3.mono (Nat.le_trans hb1.size hb2.size)));have h1:=h1.empty (w':=w3) (B':=w3.heap.size);have h2:=h2.empty (w':=w3) (B':=w3.heap.size);clear hb1 hb2 hb3;go_wp2_with fail
 refine(fun8_any (plainV 1) (plainV 0) (by decide +kernel) (by decide +kernel) 1 0 A2 m2 p2 A3 m3 p3 w3 h2 h3).mono ?_; rintro e w4 ⟨A4,m4,p4,rfl,h4,hb4⟩
 have hb:=hb.trans (hb4.mono hb.size);have h1:=h1.empty (w':=w4) (B':=w4.heap.size);clear hb4 h2 h3;go_wp2_with fail
 refine(fun8_any (plainV 0) inT (by decide +kernel) (by decide +kernel) 0 0 A1 m1 p1 A4 m4 p4 w4 h1 h4).mono ?_; rintro e w5 ⟨A5,m5,p5,rfl,h5,hb5⟩
 have hb:=hb.trans (hb5.mono hb.size);clear hb5 h1 h4;have hbk:Blk (w5.alloc (Obj.cells #[.int .i64 0,.int .u8 2,.int .u8 1,.int .i64 1] 70)) w5.heap.size 70 (cellsQ xsK).toArray:=blk_new w5 _ _;have hbx:=below_box (w:=w5) (Obj.cells #[.int .i64 0,.int .u8 2,.int .u8 1,.int .i64 1] 70);obtain⟨w6,h6⟩:∃ x,w5.alloc (Obj.cells #[.int .i64 0,.int .u8 2,.int .u8 1,.int .i64 1] 70)=x:=⟨_,rfl⟩;rw[h6] at hbk hbx
 have hx:IneqsV w6 w6.heap.size (some ⟨w5.heap.size,0,none⟩) 1 1 xsK:=IneqsV.laid hbk (by unfold maxLen xsK; simp)
 have H6:=qq h6;have H5:=qq ((h5.below hbx).more hbx.size);have Hx:=qq hx;have hb:=hb.trans (hbx.mono hb.size);clear hbk hbx h6 hx h5;go_wp2_with fail;rw[H6.out];refine(close_any keepT A5 m5 p5 3 _ 1 1 xsK w6 H5.out Hx.out).mono ?_;rintro e w7 ⟨v,s,er,rfl,hv,hR,hb7⟩;obtain⟨rfl,rfl⟩:=closeK hR;obtain⟨A,m,cp,A1,c1,A2,c2,A3,c3,hve,hr⟩:=hv;have hve:v=.agg #[.int .i64 2,.int .i64 2,.int .u8 7,.int .i64 0,.int .i64 0,.int .u8 0,.slice A m cp,.slice A1 2 c1,.slice A2 2 c2,.slice A3 2 c3]:=hve;subst hve;have hbw:=hb.trans (hb7.mono hb.size);have HK7:=qq (HK.out.below hbw HK.out.lt);have Hbw:=qq (Hb.out.trans (hbw.mono Hb.out.size));have Hr:=qq hr;clear hb hb7 hbw hr H5 Hx H6 HK HW Hb hR;have ff0:=HK7.out.frozen 0;have ff1:=HK7.out.frozen 1;have ff2:=HK7.out.frozen 2;have ff3:=HK7.out.frozen 3;have ff4:=HK7.out.frozen 4;have ff5:=HK7.out.frozen 5;have ff6:=HK7.out.frozen 6;have ff7:=HK7.out.frozen 7;have ff8:=HK7.out.frozen 8;have ff9:=HK7.out.frozen 9;have dd0:w7.cell? ⟨w.heap.size,0,none⟩=some (.int .i64 0):=HK7.out.cell 0;have dd1:w7.cell? ⟨w.heap.size,1,none⟩=some (.int .i64 0):=HK7.out.cell 1;have dd2:w7.cell? ⟨w.heap.size,2,none⟩=some (.int .u8 0):=HK7.out.cell 2;have dd3:w7.cell? ⟨w.heap.size,3,none⟩=some (.int .i64 0):=HK7.out.cell 3;have dd4:w7.cell? ⟨w.heap.size,4,none⟩=some (.int .i64 0):=HK7.out.cell 4;have dd5:w7.cell? ⟨w.heap.size,5,none⟩=some (.int .u8 0):=HK7.out.cell 5;have dd6:w7.cell? ⟨w.heap.size,6,none⟩=some (.slice none 0 0):=HK7.out.cell 6;have dd7:w7.cell? ⟨w.heap.size,7,none⟩=some (.slice none 0 0):=HK7.out.cell 7;have dd8:w7.cell? ⟨w.heap.size,8,none⟩=some (.slice none 0 0):=HK7.out.cell 8;have dd9:w7.cell? ⟨w.heap.size,9,none⟩=some (.slice none 0 0):=HK7.out.cell 9;go_wp2_with fail;show bodyPost _ _ _ _ _ (set10 w7 w.heap.size (.int .i64 2) (.int .i64 2) (.int .u8 7) (.int .i64 0) (.int .i64 0) (.int .u8 0) (.slice A m cp) (.slice A1 2 c1) (.slice A2 2 c2) (.slice A3 2 c3));have hkF:=set10_blk HK7.out (.int .i64 2) (.int .i64 2) (.int .u8 7) (.int .i64 0) (.int .i64 0) (.int .u8 0) (.slice A m cp) (.slice A1 2 c1) (.slice A2 2 c2) (.slice A3 2 c3);have hiF:=set10_in w7 w.heap.size (.int .i64 2) (.int .i64 2) (.int .u8 7) (.int .i64 0) (.int .i64 0) (.int .u8 0) (.slice A m cp) (.slice A1 2 c1) (.slice A2 2 c2) (.slice A3 2 c3);have hrF:=Hr.out.zbox (w':=(set10 w7 w.heap.size (.int .i64 2) (.int .i64 2) (.int .u8 7) (.int .i64 0) (.int .i64 0) (.int .u8 0) (.slice A m cp) (.slice A1 2 c1) (.slice A2 2 c2) (.slice A3 2 c3))) (B':=(set10 w7 w.heap.size (.int .i64 2) (.int .i64 2) (.int .u8 7) (.int .i64 0) (.int .i64 0) (.int .u8 0) (.slice A m cp) (.slice A1 2 c1) (.slice A2 2 c2) (.slice A3 2 c3)).heap.size) (mayTE_may keep_may) (tabK.ok (by decide)) HK7.out hiF.other (Nat.le_of_eq hiF.size.symm);have HbF:=qq (hiF.bel w.heap.size w (Nat.le_refl _) (Nat.le_refl _) Hbw.out);clear ff0 ff1 ff2 ff3 ff4 ff5 ff6 ff7 ff8 ff9 dd0 dd1 dd2 dd3 dd4 dd5 dd6 dd7 dd8 dd9
 generalize set10 w7 w.heap.size (.int .i64 2) (.int .i64 2) (.int .u8 7) (.int .i64 0) (.int .i64 0) (.int .u8 0) (.slice A m cp) (.slice A1 2 c1) (.slice A2 2 c2) (.slice A3 2 c3)=wF at hkF hiF HbF hrF ⊢;have q0:wF.cell? ⟨w.heap.size,0,none⟩=some (.int .i64 2):=hkF.cell 0;have q1:wF.cell? ⟨w.heap.size,1,none⟩=some (.int .i64 2):=hkF.cell 1;have q2:wF.cell? ⟨w.heap.size,2,none⟩=some (.int .u8 7):=hkF.cell 2;have q3:wF.cell? ⟨w.heap.size,3,none⟩=some (.int .i64 0):=hkF.cell 3;have q4:wF.cell? ⟨w.heap.size,4,none⟩=some (.int .i64 0):=hkF.cell 4;have q5:wF.cell? ⟨w.heap.size,5,none⟩=some (.int .u8 0):=hkF.cell 5;have q6:wF.cell? ⟨w.heap.size,6,none⟩=some (.slice A m cp):=hkF.cell 6;have q7:wF.cell? ⟨w.heap.size,7,none⟩=some (.slice A1 2 c1):=hkF.cell 7;have q8:wF.cell? ⟨w.heap.size,8,none⟩=some (.slice A2 2 c2):=hkF.cell 8;have q9:wF.cell? ⟨w.heap.size,9,none⟩=some (.slice A3 2 c3):=hkF.cell 9;have HV:Hid (SchV wF wF.heap.size (.agg #[.int .i64 2,.int .i64 2,.int .u8 7,.int .i64 0,.int .i64 0,.int .u8 0,.slice A m cp,.slice A1 2 c1,.slice A2 2 c2,.slice A3 2 c3]) keepS):=qq ⟨A,m,cp,A1,c1,A2,c2,A3,c3,rfl,hrF⟩;clear hrF;exact bodyPost_ret (v:=.tuple #[.agg #[.int .i64 2,.int .i64 2,.int .u8 7,.int .i64 0,.int .i64 0,.int .u8 0,.slice A m cp,.slice A1 2 c1,.slice A2 2 c2,.slice A3 2 c3],.int .i64 0]) (by simp[results,Tryz.results36,go_sem,q0,q1,q2,q3,q4,q5,q6,q7,q8,q9]) rfl ⟨_,rfl,HV.out,HbF.out⟩
end Go.Proofs.YtdmakpmbknindaaGreatDoor
namespace Go.Proofs.YtdmakpmbknindaaGreatDoor
open Go.RowKit Go.Maps
theorem MapV.cap {w:World} {P:Program} {k:TypeId} {b n:Nat} {z:Value} {f:Int→Option Value} (hk:P.underlying k=some (.int .i64)) (h:MapV w P k b n z f) {K:Nat} (hf:∀ i,f i≠none→0≤i∧i<(K:Int)):MapV w P k b K z f:=by
 obtain⟨D,⟨es,clock,hb,F,hs,hD⟩,hm,hh,ha⟩:=h;refine⟨D,⟨es,clock,hb,F,?_,hD⟩,hm,hh,ha⟩;have hap:=fit_apart (int_keyed hk) F
 have hkey:∀ y∈es.toList.map (Go.WideElems.rg P k anyElem),∃ i:Int,y.1=litI i∧0≤i∧i<(K:Int):=by
  intro y hy;obtain⟨x,hx,rfl⟩:=List.mem_map.1 hy;obtain⟨y,hr⟩:=F.reads x hx;rw[Go.WideElems.rg_of hr];have hky:=Go.WideElems.rd_key hr;obtain⟨i,_,hi,_⟩:=keyOf_int_inv hk hky;have hi:y.1=litI i:=hi;refine⟨i,hi,hf i fun h0=>?_⟩;have h1:=hh i;rw[h0,hD] at h1
  have h2:has (.map ((es.toList.map (Go.WideElems.rg P k anyElem)).foldr DataW.insert [])) (litI i)=true:=by
   show List.any _ _=true;rw[List.any_eq_true];refine⟨y,(Go.WideShapes.sorted_perm _).mem_iff.2 (List.mem_map.2 ⟨x,hx,Go.WideElems.rg_of hr⟩),?_⟩;rw[hi];exact WideAt.sameKey_self (litI_key i)
  rw[h2] at h1
  cases h1
 have hnd:((es.toList.map (Go.WideElems.rg P k anyElem)).map fun y=>match y.1 with
  | .int _ i=>i
  | _=>0).Nodup:=by
  unfold List.Nodup;rw[List.pairwise_map];refine List.Pairwise.imp_of_mem ?_ hap;intro a c ha hc hne he;obtain⟨i,e1,_⟩:=hkey a ha;obtain⟨j,e2,_⟩:=hkey c hc;rw[e1,e2] at he hne
  exact hne (by rw[show i=j from he])
 have hlen:=few_int (N:=K) hnd fun x hx=>by
  obtain⟨y,hy,rfl⟩:=List.mem_map.1 hx;obtain⟨i,e1,h0,h1⟩:=hkey y hy;rw[e1];exact⟨h0,h1⟩
 simpa using hlen
def capN (n:Nat):Nat:=min n 1048576
theorem capN_mono {n n':Nat} (h:n≤n'):capN n≤capN n':=by unfold capN; omega
theorem capN_lt (n:Nat):capN n<maxLen:=by unfold capN maxLen; omega
theorem MapV.capS {w:World} {P:Program} {k:TypeId} {b n:Nat} {z:Value} {f:Int→Option Value} (hk:P.underlying k=some (.int .i64)) (h:MapV w P k b (capN n+1) z f) (hf:∀ i,f i≠none→0≤i∧i<1048576):MapV w P k b (capN (n+1)) z f:=by
 by_cases hn:n<1048576
 · exact h.mono (by unfold capN; omega)
 · exact(h.cap hk (K:=1048576) hf).mono (by unfold capN; omega)
abbrev zT:Value:=.agg #[.int .u8 0,.int .i64 0,.int .i64 0,.int .u8 0,.slice none 0 0]
abbrev zM:Value:=.agg #[.int .i64 0,.int .u8 0]
structure GrewM (b1 b2:Nat) (w w':World):Prop where
 os:w'.os=w.os
 tape:w'.tape=w.tape
 output:w'.output=w.output
 size:w.heap.size≤w'.heap.size
 block:∀ k,k<w.heap.size→k≠b1→k≠b2→w'.heap[k]?=w.heap[k]?
section
variable {b1 b2:Nat} {w w' w'':World}
theorem GrewM.refl (b1 b2:Nat) (w:World):GrewM b1 b2 w w:=⟨rfl,rfl,rfl,Nat.le_refl _,fun _ _ _ _=>rfl⟩
theorem GrewM.trans (h:GrewM b1 b2 w w') (h':GrewM b1 b2 w' w''):GrewM b1 b2 w w'':=
 ⟨h'.os.trans h.os,h'.tape.trans h.tape,h'.output.trans h.output,Nat.le_trans h.size h'.size,fun k h1 h2 h3=>(h'.block k (Nat.lt_of_lt_of_le h1 h.size) h2 h3).trans (h.block k h1 h2 h3)⟩
theorem GrewM.of_below (h:Below w.heap.size w w'):GrewM b1 b2 w w':=⟨h.os,h.tape,h.output,h.size,fun k h1 _ _=>h.block k h1⟩
theorem GrewM.of1 (h:w.grownBy w' (some b1)):GrewM b1 b2 w w':=⟨h.os,h.tape,h.output,h.size,fun k h1 h2 _=>h.block k h1 fun e=>h2 (by injection e)⟩
theorem GrewM.of2 (h:w.grownBy w' (some b2)):GrewM b1 b2 w w':=⟨h.os,h.tape,h.output,h.size,fun k h1 _ h2=>h.block k h1 fun e=>h2 (by injection e)⟩
theorem GrewM.below {B:Nat} (h:GrewM b1 b2 w w') (h1:B≤b1) (h2:B≤b2) (hB:B≤w.heap.size):Below B w w':=
 ⟨h.os,h.tape,h.output,h.size,fun k hk=>h.block k (by omega) (by omega) (by omega)⟩
theorem GrewM.blk {s:Nat} {t:TypeId} {cs:Array Value} (h:GrewM b1 b2 w w') (hk:Blk w s t cs) (h1:s≠b1) (h2:s≠b2):Blk w' s t cs:=(h.block s hk.lt h1 h2).trans hk
theorem GrewM.drew (h:GrewM b1 b2 w w'):GrewM b1 b2 w w'.drew:=⟨h.os,h.tape,h.output,h.size,h.block⟩
end
def ReadT (w:World) (B:Nat) (s:StM) (f:Int→Option Value):Prop:=∀ i,(s.types i=none∧f i=none)∨∃ t v,s.types i=some t∧f i=some v∧TyV w B v t
def ReadM (s:StM) (f:Int→Option Value):Prop:=∀ i,f i=(s.mults i).map fun m=>.agg #[.int .i64 m.1,.int .u8 m.2]
structure KeysS (s:StM):Prop where
 t:∀ i,s.types i≠none→0≤i∧i<1048576
 m:∀ i,s.mults i≠none→0≤i∧i<1048576
theorem KeysS.none:KeysS StM.none:=⟨fun i h=>absurd rfl h,fun i h=>absurd rfl h⟩
theorem KeysS.putT {s:StM} {i:Int} {t:TyD} (h:KeysS s) (hi:0≤i∧i<1048576):KeysS (s.putT i t):=⟨fun j hj=>by
 by_cases e:j=i
 · rw[e]; exact hi
 · exact h.t j (by simpa[StM.putT,e] using hj),h.m⟩
theorem KeysS.putM {s:StM} {i:Int} {m:Int × Int} (h:KeysS s) (hi:0≤i∧i<1048576):KeysS (s.putM i m):=⟨h.t,fun j hj=>by
 by_cases e:j=i
 · rw[e]; exact hi
 · exact h.m j (by simpa[StM.putM,e] using hj)⟩
theorem ReadT.keys {w:World} {B:Nat} {s:StM} {f:Int→Option Value} (h:ReadT w B s f) (hk:KeysS s):∀ i,f i≠none→0≤i∧i<1048576:=fun i hi=>by
 rcases h i with ⟨_,h2⟩ | ⟨t,v,h1,_⟩
 · exact absurd h2 hi
 · exact hk.t i (by rw[h1]; simp)
theorem ReadM.keys {s:StM} {f:Int→Option Value} (h:ReadM s f) (hk:KeysS s):∀ i,f i≠none→0≤i∧i<1048576:=fun i hi=>hk.m i fun e=>hi (by rw[h i,e]; rfl)
structure MSt (w:World) (B p1 p2 p3 b1 b2 n:Nat) (s:StM):Prop where
 c1:Blk w p1 104 #[.map (some b1)]
 c2:Blk w p2 105 #[.map (some b2)]
 c3:Blk w p3 58 #[.func (.func 123) #[] #[.pointer (some ⟨p1,0,none⟩),.pointer (some ⟨p2,0,none⟩),.pointer (some ⟨p3,0,none⟩)]]
 m1:∃ f,MapV w Tryz.prog 3 b1 (capN n) zT f∧ReadT w B s f
 m2:∃ f,MapV w Tryz.prog 3 b2 (capN n) zM f∧ReadM s f
 keys:KeysS s
 ne:b1≠b2
 l1:B≤b1
 l2:B≤b2
 l0:B≤w.heap.size
section
variable {w w':World} {B p1 p2 p3 b1 b2 n:Nat} {s:StM}
theorem blk_map {b p m:Nat} {t k:TypeId} {cs:Array Value} {z:Value} {f:Int→Option Value} (h:Blk w p t cs) (hm:MapV w Tryz.prog k b m z f):p≠b:=fun e=>by
 subst e;obtain⟨D,⟨es,clock,h1,_⟩,_⟩:=hm;unfold Blk at h;rw[h] at h1
 cases h1
theorem MSt.pne (h:MSt w B p1 p2 p3 b1 b2 n s):(p1≠b1∧p1≠b2)∧(p2≠b1∧p2≠b2)∧(p3≠b1∧p3≠b2):=by
 obtain⟨f1,h1,_⟩:=h.m1;obtain⟨f2,h2,_⟩:=h.m2;exact⟨⟨blk_map h.c1 h1,blk_map h.c1 h2⟩,⟨blk_map h.c2 h1,blk_map h.c2 h2⟩,⟨blk_map h.c3 h1,blk_map h.c3 h2⟩⟩
theorem ReadT.below {f:Int→Option Value} (h:ReadT w B s f) (hb:Below B w w'):ReadT w' B s f:=fun i=>by
 rcases h i with h | ⟨t,v,h1,h2,A,m,cp,e,h3⟩
 · exact .inl h
 · exact .inr ⟨t,v,h1,h2,A,m,cp,e,h3.below hb⟩
theorem MSt.fresh (h:MSt w B p1 p2 p3 b1 b2 n s) (hb:Below w.heap.size w w'):MSt w' B p1 p2 p3 b1 b2 n s:=by
 obtain⟨f1,h1,r1⟩:=h.m1;obtain⟨f2,h2,r2⟩:=h.m2;exact⟨h.c1.below hb h.c1.lt,h.c2.below hb h.c2.lt,h.c3.below hb h.c3.lt,⟨f1,h1.fresh hb,r1.below (hb.mono h.l0)⟩,⟨f2,h2.fresh hb,r2⟩,h.keys,h.ne,h.l1,h.l2,Nat.le_trans h.l0 hb.size⟩
theorem MSt.mono (h:MSt w B p1 p2 p3 b1 b2 n s) {n':Nat} (hn:n≤n'):MSt w B p1 p2 p3 b1 b2 n' s:=by
 obtain⟨f1,h1,r1⟩:=h.m1;obtain⟨f2,h2,r2⟩:=h.m2;exact⟨h.c1,h.c2,h.c3,⟨f1,h1.mono (capN_mono hn),r1⟩,⟨f2,h2.mono (capN_mono hn),r2⟩,h.keys,h.ne,h.l1,h.l2,h.l0⟩
theorem MSt.drew (h:MSt w B p1 p2 p3 b1 b2 n s):MSt w.drew B p1 p2 p3 b1 b2 n s:=by
 obtain⟨f1,h1,r1⟩:=h.m1;obtain⟨f2,h2,r2⟩:=h.m2;exact⟨h.c1,h.c2,h.c3,⟨f1,h1.block rfl,r1.below (Below.drew (Below.refl _ _))⟩,⟨f2,h2.block rfl,r2⟩,h.keys,h.ne,h.l1,h.l2,h.l0⟩
theorem MSt.putT {f:Int→Option Value} {i:Int} {v:Value} {t:TyD} (h:MSt w B p1 p2 p3 b1 b2 n s) (hr:ReadT w B s f) (hv:TyV w B v t) (hi:0≤i∧i<1048576) (hm:MapV w' Tryz.prog 3 b1 (capN n+1) zT (updV f i v)) (hg:w.grownBy w' (some b1)):MSt w' B p1 p2 p3 b1 b2 (n+1) (s.putT i t):=by
 obtain⟨⟨n1,n2⟩,⟨n3,n4⟩,n5,n6⟩:=h.pne;have hgm:GrewM b1 b2 w w':=GrewM.of1 hg;have hbel:=hgm.below h.l1 h.l2 h.l0;obtain⟨f2,h2,r2⟩:=h.m2
 have hr':ReadT w' B (s.putT i t) (updV f i v):=by
  intro j;unfold StM.putT updV
  by_cases e:j=i
  · obtain⟨A,m,cp,e1,h3⟩:=hv
    exact .inr ⟨t,v,by simp[e],by simp[e],A,m,cp,e1,h3.below hbel⟩
  · simp only[e,if_false]
    exact(hr.below hbel) j
 exact⟨hgm.blk h.c1 n1 n2,hgm.blk h.c2 n3 n4,hgm.blk h.c3 n5 n6,⟨_,hm.capS Tryz.underlying3 (hr'.keys (h.keys.putT hi)),hr'⟩,⟨f2,(h2.block (hg.block b2 h2.lt fun e=>h.ne (by injection e with e; exact e.symm))).mono (capN_mono (Nat.le_succ _)),r2⟩,h.keys.putT hi,h.ne,h.l1,h.l2,Nat.le_trans h.l0 hg.size⟩
theorem MSt.putM {f:Int→Option Value} {i:Int} {m:Int × Int} (h:MSt w B p1 p2 p3 b1 b2 n s) (hr:ReadM s f) (hi:0≤i∧i<1048576) (hm:MapV w' Tryz.prog 3 b2 (capN n+1) zM (updV f i (.agg #[.int .i64 m.1,.int .u8 m.2]))) (hg:w.grownBy w' (some b2)):MSt w' B p1 p2 p3 b1 b2 (n+1) (s.putM i m):=by
 obtain⟨⟨n1,n2⟩,⟨n3,n4⟩,n5,n6⟩:=h.pne;have hgm:GrewM b1 b2 w w':=GrewM.of2 hg;have hbel:=hgm.below h.l1 h.l2 h.l0;obtain⟨f1,h1,r1⟩:=h.m1
 have hr':ReadM (s.putM i m) (updV f i (.agg #[.int .i64 m.1,.int .u8 m.2])):=by
  intro j;unfold StM.putM updV
  by_cases e:j=i
  · simp[e]
  · simp only[e,if_false]
    exact hr j
 exact⟨hgm.blk h.c1 n1 n2,hgm.blk h.c2 n3 n4,hgm.blk h.c3 n5 n6,⟨f1,(h1.block (hg.block b1 h1.lt fun e=>h.ne (by injection e))).mono (capN_mono (Nat.le_succ _)),r1.below hbel⟩,⟨_,hm.capS Tryz.underlying3 (hr'.keys (h.keys.putM hi)),hr'⟩,h.keys.putM hi,h.ne,h.l1,h.l2,Nat.le_trans h.l0 hg.size⟩
end
end Go.Proofs.YtdmakpmbknindaaGreatDoor
