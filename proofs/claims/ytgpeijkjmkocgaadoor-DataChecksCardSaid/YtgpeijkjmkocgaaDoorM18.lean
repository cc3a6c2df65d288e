import Derived.Test.YtgpeijkjmkocgaaDoorM17
set_option linter.unusedVariables false
set_option linter.unusedSimpArgs false
set_option maxHeartbeats 8000000
set_option maxRecDepth 100000
namespace Go.Proofs.YtgpeijkjmkocgaaDoor
open Go.RowKit
theorem given_any (w:World):Calls Tryd.prog 18 #[] w fun e w'=>∃ vd vc vs,e=.returned (.agg #[vd,vc])∧SigM w' w.heap.size (fun b=>b<w.heap.size) givenS vd vc vs∧Below w.heap.size w w':=by
 have hb0:=below_box (w:=w) (Obj.cells #[.slice none 0 0,.slice none 0 0] 25);have hz0:=blk_new w #[.slice none 0 0,.slice none 0 0] 25
 go_enter Tryd.func18,Tryd.ntmps18
 go_upto_region 1 with fail;obtain⟨wz,hwz⟩:∃ x,w.alloc (Obj.cells #[.slice none 0 0,.slice none 0 0] 25)=x:=⟨_,rfl⟩;rw[hwz] at hb0 hz0 ⊢;clear hwz;go_wp2_with fail;refine(given1_any 1 none 0 0 _).mono ?_;rintro e w1 ⟨rfl,hb1⟩;go_upto_region 3 with fail;have hb2:=below_box (w:=w1) (Obj.cells (tyA 1 (.slice none 0 0)) 63);have hz2:=blk_new w1 (tyA 1 (.slice none 0 0)) 63;have hb3:=below_box (w:=w1.alloc (Obj.cells (tyA 1 (.slice none 0 0)) 63)) (Obj.cells #[.int .u8 1,.int .i64 1,.int .i64 0,.int .u8 0,.slice none 0 0] 63);have hz3:=blk_new (w1.alloc (Obj.cells (tyA 1 (.slice none 0 0)) 63)) #[.int .u8 1,.int .i64 1,.int .i64 0,.int .u8 0,.slice none 0 0] 63;have hw1:w.heap.size<w1.heap.size:=Nat.lt_of_lt_of_le hz0.lt hb1.size;have hz2:=hz2.below hb3 hz2.lt;have hz0:=(hz0.below hb1 hz0.lt).below (hb2.trans (hb3.mono hb2.size)) (hz0.below hb1 hz0.lt).lt;have hb9:=(hb0.trans (hb1.mono hb0.size)).trans ((hb2.trans (hb3.mono hb2.size)).mono (hb0.trans (hb1.mono hb0.size)).size);obtain⟨W,hW⟩:∃ x,(w1.alloc (Obj.cells (tyA 1 (.slice none 0 0)) 63)).alloc (Obj.cells #[.int .u8 1,.int .i64 1,.int .i64 0,.int .u8 0,.slice none 0 0] 63)=x:=⟨_,rfl⟩
 have hsz1:(w1.alloc (Obj.cells (tyA 1 (.slice none 0 0)) 63)).heap.size=w1.heap.size+1:=by simp
 rw[hsz1] at hz3;rw[hW] at hz0 hz2 hz3 hb9;unfold tyA at hW;rw[hW];have HZ0:=qq hz0;have HZ2:=qq hz2;have HZ3:=qq hz3;have HB:=qq hb9;clear hb0 hb1 hb2 hb3 hz2 hz3 hz0 hb9 hW hsz1;refine wp_region_noPanic ?_
 refine wp_region_inv (J3 (.pointer (some ⟨w.heap.size,0,none⟩)) (.pointer (some ⟨w1.heap.size+1,0,none⟩)) w1.heap.size W) (by kernel_rfl) (by kernel_rfl) (J3.start ⟨rfl,rfl,by simp⟩) ?_ ?_
 · intro i f a w2 hi hJ hf hd
   have t1:a.tmps[1]?=some (.func (.func 44) #[] #[]):=by obtain⟨bl,hfx,_⟩:=hJ; exact hfx.2.2 (1,_) (by simp)
   have t2:a.tmps[2]?=some (.pointer (some ⟨w1.heap.size,0,none⟩)):=by obtain⟨bl,hfx,_⟩:=hJ; exact hfx.2.2 (2,_) (by simp)
   replace hi:i<14:=hi
   obtain rfl | rfl | rfl | rfl | rfl | rfl | rfl | rfl | rfl | rfl | rfl | rfl | rfl | rfl:i=0∨i=1∨i=2∨i=3∨i=4∨i=5∨i=6∨i=7∨i=8∨i=9∨i=10∨i=11∨i=12∨i=13:=by omega
   · refine wpOp_step (i:=0) rfl (fun K hK=>?_)
     go_simp;exact hK.out _ _ (hJ.value 0 15 _ rfl (by omega) (by omega) rfl (fun _ _=>rfl) (Below.refl _ _) (fun h=>absurd h (by omega)) (by omega) (by omega))
   · refine wpOp_step (i:=1) rfl (fun K hK=>?_)
     have t15:=hJ.slot 0 15 _ rfl (hd 0 (by kernel_rfl)) (fun _=>rfl);go_simp;refine(given1_any 5 none 0 0 _).mono ?_;rintro e w5 ⟨rfl,hb5⟩;exact hK.out _ _ (hJ.value 1 16 _ rfl (by omega) (by omega) rfl (fun _ _=>rfl) (hb5) (fun h=>absurd h (by omega)) (by omega) (by omega))
   · refine wpOp_step (i:=2) rfl (fun K hK=>?_)
     go_simp;exact hK.out _ _ (hJ.value 2 17 _ rfl (by omega) (by omega) rfl (fun _ _=>rfl) (Below.refl _ _) (fun h=>absurd h (by omega)) (by omega) (by omega))
   · refine wpOp_step (i:=3) rfl (fun K hK=>?_)
     have t17:=hJ.slot 2 17 _ rfl (hd 2 (by kernel_rfl)) (fun _=>rfl);go_simp;refine(given1_any 4 none 0 0 _).mono ?_;rintro e w5 ⟨rfl,hb5⟩;exact hK.out _ _ (hJ.value 3 18 _ rfl (by omega) (by omega) rfl (fun _ _=>rfl) (hb5) (fun h=>absurd h (by omega)) (by omega) (by omega))
   · refine wpOp_step (i:=4) rfl (fun K hK=>?_)
     go_simp;exact hK.out _ _ (hJ.value 4 19 _ rfl (by omega) (by omega) rfl (fun _ _=>rfl) (Below.refl _ _) (fun h=>absurd h (by omega)) (by omega) (by omega))
   · refine wpOp_step (i:=5) rfl (fun K hK=>?_)
     have hbe:Below W.heap.size W w2:=by obtain⟨bl,_,_,_,hbe,_⟩:=hJ; exact hbe
     have hk:=HZ2.out.below hbe HZ2.out.lt;have c0:w2.cell? ⟨w1.heap.size,0,none⟩=some (.int .u8 1):=hk.cell 0;have c1:w2.cell? ⟨w1.heap.size,1,none⟩=some (.int .i64 0):=hk.cell 1;have c2:w2.cell? ⟨w1.heap.size,2,none⟩=some (.int .i64 0):=hk.cell 2;have c3:w2.cell? ⟨w1.heap.size,3,none⟩=some (.int .u8 0):=hk.cell 3;have c4:w2.cell? ⟨w1.heap.size,4,none⟩=some (.slice none 0 0):=hk.cell 4;go_simp;exact hK.out _ _ (hJ.value 5 20 _ rfl (by omega) (by omega) rfl (fun _ _=>rfl) (Below.refl _ _) (fun h=>absurd h (by omega)) (by omega) (by omega))
   · refine wpOp_step (i:=6) rfl (fun K hK=>?_)
     have t20:=hJ.slot 5 20 _ rfl (hd 5 (by kernel_rfl)) (fun _=>rfl);have hno:=hJ.no hf (Or.inl rfl);unfold V3 tyA at t20;go_simp;exact hK.out _ _ (hJ.block 6 21 (tyA 1 (.slice none 0 0)) (fun b=>.slice (some ⟨b,0,none⟩) 1 1) rfl (by omega) (by omega) (by omega) hf hno (fun _=>rfl) (fun _=>rfl))
   · refine wpOp_step (i:=7) rfl (fun K hK=>?_)
     have t19:=hJ.slot 4 19 _ rfl (hd 4 (by kernel_rfl)) (fun _=>rfl);have f6:=hd 6 (by kernel_rfl);have hJ2:=hJ;obtain⟨bl,hfx,hsl,_⟩:=hJ2;have t21:=hsl 6 21 rfl f6;unfold V3 at t21;go_simp;refine(given1_any 6 (some ⟨bl 6,0,none⟩) 1 1 _).mono ?_;rintro e w5 ⟨rfl,hb5⟩;refine hK.out _ _ (hJ.value 7 22 _ rfl (by omega) (by omega) rfl (fun bl' hs'=>?_) hb5 (fun _=>f6) (by omega) (by omega))
     have e:bl' 6=bl 6:=by simpa[V3] using (hs' 6 21 rfl f6).symm.trans (hsl 6 21 rfl f6)
     show Value.agg (tyA 6 (.slice (some ⟨bl' 6,0,none⟩) 1 1))=_;rw[e];rfl
   · refine wpOp_step (i:=8) rfl (fun K hK=>?_)
     have hno:=hJ.no hf (by simp);go_simp
     exact hK.out _ _ (hJ.block 8 4 (tyA 0 (.slice none 0 0)) (fun b=>.pointer (some ⟨b,0,none⟩)) rfl (by omega) (by omega) (by omega) hf hno (fun bl=>by unfold C3; simp only[hno.1,hno.2.1,hno.2.2]; rfl) (fun _=>rfl))
   · refine wpOp_step (i:=9) rfl (fun K hK=>?_)
     have hno:=hJ.no hf (by simp);go_simp
     exact hK.out _ _ (hJ.block 9 5 (tyA 0 (.slice none 0 0)) (fun b=>.pointer (some ⟨b,0,none⟩)) rfl (by omega) (by omega) (by omega) hf hno (fun bl=>by unfold C3; simp only[hno.1,hno.2.1,hno.2.2]; rfl) (fun _=>rfl))
   · refine wpOp_step (i:=10) rfl (fun K hK=>?_)
     have hno:=hJ.no hf (by simp);go_simp
     exact hK.out _ _ (hJ.block 10 6 (tyA 0 (.slice none 0 0)) (fun b=>.pointer (some ⟨b,0,none⟩)) rfl (by omega) (by omega) (by omega) hf hno (fun bl=>by unfold C3; simp only[hno.1,hno.2.1,hno.2.2]; rfl) (fun _=>rfl))
   · refine wpOp_step (i:=11) rfl (fun K hK=>?_)
     have hal:=hJ.al7 (hd 7 (by kernel_rfl)) (hd 8 (by kernel_rfl)) (hd 9 (by kernel_rfl)) (hd 10 (by kernel_rfl));have fj:f 8=true:=hal.2.2.1;have hJ2:=hJ;obtain⟨bl,hfx,hsl,hbx,hbe,h76,_⟩:=hJ2;have tj:=hsl 8 4 rfl fj;have ts:=hsl 1 16 rfl (hd 1 (by kernel_rfl))
     have hk:Blk w2 (bl 8) 63 #[.int .u8 0,.int .i64 0,.int .i64 0,.int .u8 0,.slice none 0 0]:=by
      have:=(hbx.blk 8 rfl fj).2;unfold C3 at this;simp only[hf] at this;exact this
     unfold V3 at tj ts;unfold tyA at ts;have c0:=hk.cell 0;have c1:=hk.cell 1;have c2:=hk.cell 2;have c3:=hk.cell 3;have c4:=hk.cell 4;simp only[qc,qb,qa] at c0 c1 c2 c3 c4;have z0:=hk.frozen 0;have z1:=hk.frozen 1;have z2:=hk.frozen 2;have z3:=hk.frozen 3;have z4:=hk.frozen 4;go_simp;refine hK.out _ _ (hJ.store 11 8 (by omega) fj hal (fun bl' hs' hb'=>?_))
     have e:bl' 8=bl 8:=by simpa[V3] using (hs' 8 4 rfl fj).symm.trans (hsl 8 4 rfl fj)
     rw[e];have hq:=store_five (.int .u8 5) (.int .i64 0) (.int .i64 0) (.int .u8 0) (.slice none 0 0) hk rfl;refine⟨hq.1,hq.2.1,hq.2.2.1,hq.2.2.2.1,?_,hq.2.2.2.2.2⟩;exact hq.2.2.2.2.1
   · refine wpOp_step (i:=12) rfl (fun K hK=>?_)
     have hal:=hJ.al (hd 11 (by kernel_rfl));have fj:f 9=true:=hal.2.2.2.1;have hJ2:=hJ;obtain⟨bl,hfx,hsl,hbx,hbe,h76,_⟩:=hJ2;have tj:=hsl 9 5 rfl fj;have ts:=hsl 3 18 rfl (hd 3 (by kernel_rfl))
     have hk:Blk w2 (bl 9) 63 #[.int .u8 0,.int .i64 0,.int .i64 0,.int .u8 0,.slice none 0 0]:=by
      have:=(hbx.blk 9 rfl fj).2;unfold C3 at this;simp only[hf] at this;exact this
     unfold V3 at tj ts;unfold tyA at ts;have c0:=hk.cell 0;have c1:=hk.cell 1;have c2:=hk.cell 2;have c3:=hk.cell 3;have c4:=hk.cell 4;simp only[qc,qb,qa] at c0 c1 c2 c3 c4;have z0:=hk.frozen 0;have z1:=hk.frozen 1;have z2:=hk.frozen 2;have z3:=hk.frozen 3;have z4:=hk.frozen 4;go_simp;refine hK.out _ _ (hJ.store 12 9 (by omega) fj hal (fun bl' hs' hb'=>?_))
     have e:bl' 9=bl 9:=by simpa[V3] using (hs' 9 5 rfl fj).symm.trans (hsl 9 5 rfl fj)
     rw[e];have hq:=store_five (.int .u8 4) (.int .i64 0) (.int .i64 0) (.int .u8 0) (.slice none 0 0) hk rfl;refine⟨hq.1,hq.2.1,hq.2.2.1,hq.2.2.2.1,?_,hq.2.2.2.2.2⟩;exact hq.2.2.2.2.1
   · refine wpOp_step (i:=13) rfl (fun K hK=>?_)
     have hal:=hJ.al (hd 11 (by kernel_rfl));have fj:f 10=true:=hal.2.2.2.2;have hJ2:=hJ;obtain⟨bl,hfx,hsl,hbx,hbe,h76,_⟩:=hJ2;have tj:=hsl 10 6 rfl fj;have ts:=hsl 7 22 rfl (hd 7 (by kernel_rfl))
     have hk:Blk w2 (bl 10) 63 #[.int .u8 0,.int .i64 0,.int .i64 0,.int .u8 0,.slice none 0 0]:=by
      have:=(hbx.blk 10 rfl fj).2;unfold C3 at this;simp only[hf] at this;exact this
     unfold V3 at tj ts;unfold tyA at ts;have c0:=hk.cell 0;have c1:=hk.cell 1;have c2:=hk.cell 2;have c3:=hk.cell 3;have c4:=hk.cell 4;simp only[qc,qb,qa] at c0 c1 c2 c3 c4;have z0:=hk.frozen 0;have z1:=hk.frozen 1;have z2:=hk.frozen 2;have z3:=hk.frozen 3;have z4:=hk.frozen 4;go_simp;refine hK.out _ _ (hJ.store 13 10 (by omega) fj hal (fun bl' hs' hb'=>?_))
     have e:bl' 10=bl 10:=by simpa[V3] using (hs' 10 6 rfl fj).symm.trans (hsl 10 6 rfl fj)
     rw[e];have hq:=store_five (.int .u8 6) (.int .i64 0) (.int .i64 0) (.int .u8 0) (.slice (some ⟨bl 6,0,none⟩) 1 1) hk rfl;refine⟨hq.1,hq.2.1,hq.2.2.1,hq.2.2.2.1,?_,hq.2.2.2.2.2⟩
     have e6:bl' 6=bl 6:=by simpa[V3] using (hs' 6 21 rfl hal.1).symm.trans (hsl 6 21 rfl hal.1)
     unfold C3;simp only[e6];exact hq.2.2.2.2.1
 · intro f a w2 hJ hall
   obtain⟨bl,hfx,hsl,hbx,hbe,h76,h77⟩:=hJ;have hal:∀ i,i<14→f i=true:=hall;have t4:=hsl 8 4 rfl (hal 8 (by omega));have t5:=hsl 9 5 rfl (hal 9 (by omega));have t6:=hsl 10 6 rfl (hal 10 (by omega));have k4:=(hbx.blk 8 rfl (hal 8 (by omega))).2;have k5:=(hbx.blk 9 rfl (hal 9 (by omega))).2;have k6:=(hbx.blk 10 rfl (hal 10 (by omega))).2;have kr:=(hbx.blk 6 rfl (hal 6 (by omega))).2;have m4:=(hbx.blk 8 rfl (hal 8 (by omega))).1;have m5:=(hbx.blk 9 rfl (hal 9 (by omega))).1;have m6:=(hbx.blk 10 rfl (hal 10 (by omega))).1;have mr:=(hbx.blk 6 rfl (hal 6 (by omega))).1;unfold C3 tyA at k4 k5 k6 kr;simp only[hal 11 (by omega),hal 12 (by omega),hal 13 (by omega),if_true] at k4 k5 k6;replace t4:a.tmps[4]?=some (.pointer (some ⟨bl 8,0,none⟩)):=t4;replace t5:a.tmps[5]?=some (.pointer (some ⟨bl 9,0,none⟩)):=t5;replace t6:a.tmps[6]?=some (.pointer (some ⟨bl 10,0,none⟩)):=t6;replace kr:Blk w2 (bl 6) 63 #[.int .u8 1,.int .i64 0,.int .i64 0,.int .u8 0,.slice none 0 0]:=kr;have HG:=qq (And.intro k4 (And.intro k5 (And.intro k6 (And.intro kr (And.intro m4 (And.intro m5 (And.intro m6 (And.intro mr hbe))))))));refine NoPanic.normal ?_;refine split137 (fun a=>Exit.then _ _ .normal a w2) a (.pointer (some ⟨w.heap.size,0,none⟩)) (.func (.func 44) #[] #[]) (.pointer (some ⟨w1.heap.size,0,none⟩)) (.pointer (some ⟨w1.heap.size+1,0,none⟩)) (.pointer (some ⟨bl 8,0,none⟩)) (.pointer (some ⟨bl 9,0,none⟩)) (.pointer (some ⟨bl 10,0,none⟩)) hfx.1 (hfx.2.2 (0,_) (by simp)) (hfx.2.2 (1,_) (by simp)) (hfx.2.2 (2,_) (by simp)) (hfx.2.2 (3,_) (by simp)) t4 t5 t6 hfx.2.1 ?_;clear t4 t5 t6 k4 k5 k6 kr m4 m5 m6 mr hfx hsl hbx hbe h76 h77 hall hal;intro s7 s8 s9 s10 s11 s12 s13 s14 s15 s16 s17 s18 s19 s20 s21 s22 s23 s24 s25 s26 s27 s28 s29 s30 s31 s32 s33 s34 s35 s36 s37 s38 s39 s40 s41 s42 s43 s44 s45 s46 s47 s48 s49 s50 s51 s52 s53 s54 s55 s56 s57 s58 s59 s60 s61 s62 s63 s64 s65 s66 s67 s68 s69 s70 s71 s72 s73 s74 s75 s76 s77 s78 s79 s80 s81 s82 s83 s84 s85 s86 s87 s88 s89 s90 s91 s92 s93 s94 s95 s96 s97 s98 s99 s100 s101 s102 s103 s104 s105 s106 s107 s108 s109 s110 s111 s112 s113 s114 s115 s116 s117 s118 s119 s120 s121 s122 s123 s124 s125 s126 s127 s128 s129 s130 s131 s132 s133 s134 s135 s136;generalize bl 8=b4 at HG ⊢;generalize bl 9=b5 at HG ⊢;generalize bl 10=b6 at HG ⊢;generalize bl 6=br at HG ⊢;clear bl f a;go_upto_region 7 with fail
   have hg0:GvDt (w2.alloc (Obj.cells #[.slice none 0 0,.slice none 0 0,.int .i64 0,.int .i64 0,.int .i64 0,.int .i64 0] 91)) w2.heap.size w.heap.size 0 (w2.alloc (Obj.cells #[.slice none 0 0,.slice none 0 0,.int .i64 0,.int .i64 0,.int .i64 0,.int .i64 0] 91)):=
    ⟨.slice none 0 0,.slice none 0 0,[],blk_new _ _ _,SigM.nil _ _ _,But.refl _ _,by simp,Nat.lt_of_lt_of_le (HZ0.out.below HG.out.2.2.2.2.2.2.2.2 HZ0.out.lt).lt (by simp)⟩
   have hbw:=below_box (w:=w2) (Obj.cells #[.slice none 0 0,.slice none 0 0,.int .i64 0,.int .i64 0,.int .i64 0,.int .i64 0] 91)
   have hsw:(w2.alloc (Obj.cells #[.slice none 0 0,.slice none 0 0,.int .i64 0,.int .i64 0,.int .i64 0,.int .i64 0] 91)).heap.size=w2.heap.size+1:=by simp
   obtain⟨wb,hwb⟩:∃ x,w2.alloc (Obj.cells #[.slice none 0 0,.slice none 0 0,.int .i64 0,.int .i64 0,.int .i64 0,.int .i64 0] 91)=x:=⟨_,rfl⟩;rw[hwb] at hg0 hbw hsw ⊢;have Hg0:=qq hg0;have Hbw:=qq hbw;have Hsw:=qq hsw;clear hwb hg0 hbw hsw hz0;go_wp2_with fail
   go_loopg [26] 9 (fun gh i wr=>∃ k:Nat,k≤9∧gh=9 - k∧i=.int .i64 (k:Nat)∧GvDt wb w2.heap.size w.heap.size k wr)
   case atStart=>exact⟨0,by omega,rfl,rfl,Hg0.out⟩
   case round=>
    obtain⟨k,hk,rfl,rfl,hgk⟩:=hrel;have Hgk:=qq hgk;clear hgk
    obtain rfl | rfl | rfl | rfl | rfl | rfl | rfl | rfl | rfl | rfl:k=0∨k=1∨k=2∨k=3∨k=4∨k=5∨k=6∨k=7∨k=8∨k=9:=by omega
    · have hxS:∀ w9,(Instr.index 111 (.agg #[.string ⟨#[66,111,111,108]⟩,.string ⟨#[85,110,105,116]⟩,.string ⟨#[80,97,105,114]⟩,.string ⟨#[76,105,115,116]⟩,.string ⟨#[79,112,101,110,101,100]⟩,.string ⟨#[82,101,97,100]⟩,.string ⟨#[71,111,116]⟩,.string ⟨#[83,105,122,101,100]⟩,.string ⟨#[87,114,111,116,101]⟩]) (.int .i64 0)).run Tryd.prog w9=.ok (.string ⟨#[66,111,111,108]⟩) w9:=fun _=>by kernel_rfl
      have hxI:∀ w9,(Instr.index 113 (.agg #[.int .i64 0,.int .i64 0,.int .i64 2,.int .i64 1,.int .i64 0,.int .i64 0,.int .i64 1,.int .i64 1,.int .i64 0]) (.int .i64 0)).run Tryd.prog w9=.ok (.int .i64 0) w9:=fun _=>by kernel_rfl
      go_wp2_with fail;refine(data_gv wb w2.heap.size w.heap.size 0 _ _ _ (by rfl) Hgk.out).mono ?_;rintro e wn ⟨rfl,hgn⟩;have Hgn:=qq hgn;clear hgn;go_wp2_with fail;go_roundg 8
      case measure=>omega
      case rel=>exact⟨1,by omega,rfl,by go_num,Hgn.out⟩
    · have hxS:∀ w9,(Instr.index 111 (.agg #[.string ⟨#[66,111,111,108]⟩,.string ⟨#[85,110,105,116]⟩,.string ⟨#[80,97,105,114]⟩,.string ⟨#[76,105,115,116]⟩,.string ⟨#[79,112,101,110,101,100]⟩,.string ⟨#[82,101,97,100]⟩,.string ⟨#[71,111,116]⟩,.string ⟨#[83,105,122,101,100]⟩,.string ⟨#[87,114,111,116,101]⟩]) (.int .i64 1)).run Tryd.prog w9=.ok (.string ⟨#[85,110,105,116]⟩) w9:=fun _=>by kernel_rfl
      have hxI:∀ w9,(Instr.index 113 (.agg #[.int .i64 0,.int .i64 0,.int .i64 2,.int .i64 1,.int .i64 0,.int .i64 0,.int .i64 1,.int .i64 1,.int .i64 0]) (.int .i64 1)).run Tryd.prog w9=.ok (.int .i64 0) w9:=fun _=>by kernel_rfl
      go_wp2_with fail;refine(data_gv wb w2.heap.size w.heap.size 1 _ _ _ (by rfl) Hgk.out).mono ?_;rintro e wn ⟨rfl,hgn⟩;have Hgn:=qq hgn;clear hgn;go_wp2_with fail;go_roundg 7
      case measure=>omega
      case rel=>exact⟨2,by omega,rfl,by go_num,Hgn.out⟩
    · have hxS:∀ w9,(Instr.index 111 (.agg #[.string ⟨#[66,111,111,108]⟩,.string ⟨#[85,110,105,116]⟩,.string ⟨#[80,97,105,114]⟩,.string ⟨#[76,105,115,116]⟩,.string ⟨#[79,112,101,110,101,100]⟩,.string ⟨#[82,101,97,100]⟩,.string ⟨#[71,111,116]⟩,.string ⟨#[83,105,122,101,100]⟩,.string ⟨#[87,114,111,116,101]⟩]) (.int .i64 2)).run Tryd.prog w9=.ok (.string ⟨#[80,97,105,114]⟩) w9:=fun _=>by kernel_rfl
      have hxI:∀ w9,(Instr.index 113 (.agg #[.int .i64 0,.int .i64 0,.int .i64 2,.int .i64 1,.int .i64 0,.int .i64 0,.int .i64 1,.int .i64 1,.int .i64 0]) (.int .i64 2)).run Tryd.prog w9=.ok (.int .i64 2) w9:=fun _=>by kernel_rfl
      go_wp2_with fail;refine(data_gv wb w2.heap.size w.heap.size 2 _ _ _ (by rfl) Hgk.out).mono ?_;rintro e wn ⟨rfl,hgn⟩;have Hgn:=qq hgn;clear hgn;go_wp2_with fail;go_roundg 6
      case measure=>omega
      case rel=>exact⟨3,by omega,rfl,by go_num,Hgn.out⟩
    · have hxS:∀ w9,(Instr.index 111 (.agg #[.string ⟨#[66,111,111,108]⟩,.string ⟨#[85,110,105,116]⟩,.string ⟨#[80,97,105,114]⟩,.string ⟨#[76,105,115,116]⟩,.string ⟨#[79,112,101,110,101,100]⟩,.string ⟨#[82,101,97,100]⟩,.string ⟨#[71,111,116]⟩,.string ⟨#[83,105,122,101,100]⟩,.string ⟨#[87,114,111,116,101]⟩]) (.int .i64 3)).run Tryd.prog w9=.ok (.string ⟨#[76,105,115,116]⟩) w9:=fun _=>by kernel_rfl
      have hxI:∀ w9,(Instr.index 113 (.agg #[.int .i64 0,.int .i64 0,.int .i64 2,.int .i64 1,.int .i64 0,.int .i64 0,.int .i64 1,.int .i64 1,.int .i64 0]) (.int .i64 3)).run Tryd.prog w9=.ok (.int .i64 1) w9:=fun _=>by kernel_rfl
      go_wp2_with fail;refine(data_gv wb w2.heap.size w.heap.size 3 _ _ _ (by rfl) Hgk.out).mono ?_;rintro e wn ⟨rfl,hgn⟩;have Hgn:=qq hgn;clear hgn;go_wp2_with fail;go_roundg 5
      case measure=>omega
      case rel=>exact⟨4,by omega,rfl,by go_num,Hgn.out⟩
    · have hxS:∀ w9,(Instr.index 111 (.agg #[.string ⟨#[66,111,111,108]⟩,.string ⟨#[85,110,105,116]⟩,.string ⟨#[80,97,105,114]⟩,.string ⟨#[76,105,115,116]⟩,.string ⟨#[79,112,101,110,101,100]⟩,.string ⟨#[82,101,97,100]⟩,.string ⟨#[71,111,116]⟩,.string ⟨#[83,105,122,101,100]⟩,.string ⟨#[87,114,111,116,101]⟩]) (.int .i64 4)).run Tryd.prog w9=.ok (.string ⟨#[79,112,101,110,101,100]⟩) w9:=fun _=>by kernel_rfl
      have hxI:∀ w9,(Instr.index 113 (.agg #[.int .i64 0,.int .i64 0,.int .i64 2,.int .i64 1,.int .i64 0,.int .i64 0,.int .i64 1,.int .i64 1,.int .i64 0]) (.int .i64 4)).run Tryd.prog w9=.ok (.int .i64 0) w9:=fun _=>by kernel_rfl
      go_wp2_with fail;refine(data_gv wb w2.heap.size w.heap.size 4 _ _ _ (by rfl) Hgk.out).mono ?_;rintro e wn ⟨rfl,hgn⟩;have Hgn:=qq hgn;clear hgn;go_wp2_with fail;go_roundg 4
      case measure=>omega
      case rel=>exact⟨5,by omega,rfl,by go_num,Hgn.out⟩
    · have hxS:∀ w9,(Instr.index 111 (.agg #[.string ⟨#[66,111,111,108]⟩,.string ⟨#[85,110,105,116]⟩,.string ⟨#[80,97,105,114]⟩,.string ⟨#[76,105,115,116]⟩,.string ⟨#[79,112,101,110,101,100]⟩,.string ⟨#[82,101,97,100]⟩,.string ⟨#[71,111,116]⟩,.string ⟨#[83,105,122,101,100]⟩,.string ⟨#[87,114,111,116,101]⟩]) (.int .i64 5)).run Tryd.prog w9=.ok (.string ⟨#[82,101,97,100]⟩) w9:=fun _=>by kernel_rfl
      have hxI:∀ w9,(Instr.index 113 (.agg #[.int .i64 0,.int .i64 0,.int .i64 2,.int .i64 1,.int .i64 0,.int .i64 0,.int .i64 1,.int .i64 1,.int .i64 0]) (.int .i64 5)).run Tryd.prog w9=.ok (.int .i64 0) w9:=fun _=>by kernel_rfl
      go_wp2_with fail;refine(data_gv wb w2.heap.size w.heap.size 5 _ _ _ (by rfl) Hgk.out).mono ?_;rintro e wn ⟨rfl,hgn⟩;have Hgn:=qq hgn;clear hgn;go_wp2_with fail;go_roundg 3
      case measure=>omega
      case rel=>exact⟨6,by omega,rfl,by go_num,Hgn.out⟩
    · have hxS:∀ w9,(Instr.index 111 (.agg #[.string ⟨#[66,111,111,108]⟩,.string ⟨#[85,110,105,116]⟩,.string ⟨#[80,97,105,114]⟩,.string ⟨#[76,105,115,116]⟩,.string ⟨#[79,112,101,110,101,100]⟩,.string ⟨#[82,101,97,100]⟩,.string ⟨#[71,111,116]⟩,.string ⟨#[83,105,122,101,100]⟩,.string ⟨#[87,114,111,116,101]⟩]) (.int .i64 6)).run Tryd.prog w9=.ok (.string ⟨#[71,111,116]⟩) w9:=fun _=>by kernel_rfl
      have hxI:∀ w9,(Instr.index 113 (.agg #[.int .i64 0,.int .i64 0,.int .i64 2,.int .i64 1,.int .i64 0,.int .i64 0,.int .i64 1,.int .i64 1,.int .i64 0]) (.int .i64 6)).run Tryd.prog w9=.ok (.int .i64 1) w9:=fun _=>by kernel_rfl
      go_wp2_with fail;refine(data_gv wb w2.heap.size w.heap.size 6 _ _ _ (by rfl) Hgk.out).mono ?_;rintro e wn ⟨rfl,hgn⟩;have Hgn:=qq hgn;clear hgn;go_wp2_with fail;go_roundg 2
      case measure=>omega
      case rel=>exact⟨7,by omega,rfl,by go_num,Hgn.out⟩
    · have hxS:∀ w9,(Instr.index 111 (.agg #[.string ⟨#[66,111,111,108]⟩,.string ⟨#[85,110,105,116]⟩,.string ⟨#[80,97,105,114]⟩,.string ⟨#[76,105,115,116]⟩,.string ⟨#[79,112,101,110,101,100]⟩,.string ⟨#[82,101,97,100]⟩,.string ⟨#[71,111,116]⟩,.string ⟨#[83,105,122,101,100]⟩,.string ⟨#[87,114,111,116,101]⟩]) (.int .i64 7)).run Tryd.prog w9=.ok (.string ⟨#[83,105,122,101,100]⟩) w9:=fun _=>by kernel_rfl
      have hxI:∀ w9,(Instr.index 113 (.agg #[.int .i64 0,.int .i64 0,.int .i64 2,.int .i64 1,.int .i64 0,.int .i64 0,.int .i64 1,.int .i64 1,.int .i64 0]) (.int .i64 7)).run Tryd.prog w9=.ok (.int .i64 1) w9:=fun _=>by kernel_rfl
      go_wp2_with fail;refine(data_gv wb w2.heap.size w.heap.size 7 _ _ _ (by rfl) Hgk.out).mono ?_;rintro e wn ⟨rfl,hgn⟩;have Hgn:=qq hgn;clear hgn;go_wp2_with fail;go_roundg 1
      case measure=>omega
      case rel=>exact⟨8,by omega,rfl,by go_num,Hgn.out⟩
    · have hxS:∀ w9,(Instr.index 111 (.agg #[.string ⟨#[66,111,111,108]⟩,.string ⟨#[85,110,105,116]⟩,.string ⟨#[80,97,105,114]⟩,.string ⟨#[76,105,115,116]⟩,.string ⟨#[79,112,101,110,101,100]⟩,.string ⟨#[82,101,97,100]⟩,.string ⟨#[71,111,116]⟩,.string ⟨#[83,105,122,101,100]⟩,.string ⟨#[87,114,111,116,101]⟩]) (.int .i64 8)).run Tryd.prog w9=.ok (.string ⟨#[87,114,111,116,101]⟩) w9:=fun _=>by kernel_rfl
      have hxI:∀ w9,(Instr.index 113 (.agg #[.int .i64 0,.int .i64 0,.int .i64 2,.int .i64 1,.int .i64 0,.int .i64 0,.int .i64 1,.int .i64 1,.int .i64 0]) (.int .i64 8)).run Tryd.prog w9=.ok (.int .i64 0) w9:=fun _=>by kernel_rfl
      go_wp2_with fail;refine(data_gv wb w2.heap.size w.heap.size 8 _ _ _ (by rfl) Hgk.out).mono ?_;rintro e wn ⟨rfl,hgn⟩;have Hgn:=qq hgn;clear hgn;go_wp2_with fail;go_roundg 0
      case measure=>omega
      case rel=>exact⟨9,by omega,rfl,by go_num,Hgn.out⟩
    · have Hk0:Hid (GvK wb w2.heap.size w.heap.size 0 wr):=qq Hgk.out
      clear Hgk;obtain⟨k4,k5,k6,kr,m4,m5,m6,mr,hbe⟩:=HG.out;have hBw:=Hbw.out;have hsw:=Hsw.out;have hWs:=HB.out.size;have l2:=HZ3.out.lt;have HA:Hid (Blk wb w1.heap.size 63 #[.int .u8 1,.int .i64 0,.int .i64 0,.int .u8 0,.slice none 0 0]):=qq ((HZ2.out.below hbe HZ2.out.lt).below hBw (HZ2.out.below hbe HZ2.out.lt).lt);have HBx:Hid (Blk wb (w1.heap.size+1) 63 #[.int .u8 1,.int .i64 1,.int .i64 0,.int .u8 0,.slice none 0 0]):=qq ((HZ3.out.below hbe HZ3.out.lt).below hBw (HZ3.out.below hbe HZ3.out.lt).lt);have H4:Hid (Blk wb b4 63 #[.int .u8 5,.int .i64 0,.int .i64 0,.int .u8 0,.slice none 0 0]):=qq (k4.below hBw k4.lt);have H5:Hid (Blk wb b5 63 #[.int .u8 4,.int .i64 0,.int .i64 0,.int .u8 0,.slice none 0 0]):=qq (k5.below hBw k5.lt);have H6:Hid (Blk wb b6 63 #[.int .u8 6,.int .i64 0,.int .i64 0,.int .u8 0,.slice (some ⟨br,0,none⟩) 1 1]):=qq (k6.below hBw k6.lt);have Hr:Hid (Blk wb br 63 #[.int .u8 1,.int .i64 0,.int .i64 0,.int .u8 0,.slice none 0 0]):=qq (kr.below hBw kr.lt);have HZ:Hid (Blk wb w.heap.size 25 #[.slice none 0 0,.slice none 0 0]):=qq ((HZ0.out.below hbe HZ0.out.lt).below hBw (HZ0.out.below hbe HZ0.out.lt).lt);have hbe2:=hbe.size
      have nA:w1.heap.size≠w2.heap.size:=by omega
      have nB:w1.heap.size+1≠w2.heap.size:=by omega
      have n4:b4≠w2.heap.size:=by have:=k4.lt; omega
      have n5:b5≠w2.heap.size:=by have:=k5.lt; omega
      have n6:b6≠w2.heap.size:=by have:=k6.lt; omega
      have nr:br≠w2.heap.size:=by have:=kr.lt; omega
      have lr:br<wb.heap.size:=Hr.out.lt
      have nrr:w.heap.size<br:=by have:=HZ0.out.lt; omega
      have lz:w.heap.size<w2.heap.size:=(HZ0.out.below hbe HZ0.out.lt).lt
      have nz:w.heap.size≠w2.heap.size:=by omega
      have HBel:Hid (Below w.heap.size w wb):=qq ((HB.out.trans (hbe.mono hWs)).trans (hBw.mono (HB.out.trans (hbe.mono hWs)).size));clear HG Hbw Hsw HB HZ0 HZ2 HZ3 k4 k5 k6 kr m4 m5 m6 mr hbe hBw hsw hWs l2 hbe2
      -- False
      go_upto_region 12 with fail;go_wp2_with fail;refine(con_gv wb w2.heap.size w.heap.size 0 0 _ [] none 0 0 _ _ (by rfl) (by omega) Hk0.out (Below.refl _ _) Sl.nil (by omega)).mono ?_;rintro e wc1 ⟨rfl,hk1⟩;have Hk1:=qq hk1;clear hk1 Hk0
      -- True
      go_upto_region 13 with fail;go_wp2_with fail;refine(con_gv wb w2.heap.size w.heap.size 1 0 _ [] none 0 0 _ _ (by rfl) (by omega) Hk1.out (Below.refl _ _) Sl.nil (by omega)).mono ?_;rintro e wc2 ⟨rfl,hk2⟩;have Hk2:=qq hk2;clear hk2 Hk1
      -- Unit
      go_upto_region 14 with fail;go_wp2_with fail;refine(con_gv wb w2.heap.size w.heap.size 2 1 _ [] none 0 0 _ _ (by rfl) (by omega) Hk2.out (Below.refl _ _) Sl.nil (by omega)).mono ?_;rintro e wc3 ⟨rfl,hk3⟩;have Hk3:=qq hk3;clear hk3 Hk2
      -- Pair
      go_upto_region 15 with fail;have Hk:=qq (Hk3.out.below (Below.drew (Below.refl wc3.heap.size wc3)));refine wp_region_noPanic ?_;refine wp_region_T (fun w'=>(w'.cell? ⟨w1.heap.size,0,none⟩=some (.int .u8 1)∧w'.cell? ⟨w1.heap.size,1,none⟩=some (.int .i64 0)∧w'.cell? ⟨w1.heap.size,2,none⟩=some (.int .i64 0)∧w'.cell? ⟨w1.heap.size,3,none⟩=some (.int .u8 0)∧w'.cell? ⟨w1.heap.size,4,none⟩=some (.slice none 0 0))∧(w'.cell? ⟨(w1.heap.size+1),0,none⟩=some (.int .u8 1)∧w'.cell? ⟨(w1.heap.size+1),1,none⟩=some (.int .i64 1)∧w'.cell? ⟨(w1.heap.size+1),2,none⟩=some (.int .i64 0)∧w'.cell? ⟨(w1.heap.size+1),3,none⟩=some (.int .u8 0)∧w'.cell? ⟨(w1.heap.size+1),4,none⟩=some (.slice none 0 0))) 8 (by kernel_rfl) (⟨box5 ((Hk.out.below (Below.refl _ _)).box HA.out nA),box5 ((Hk.out.below (Below.refl _ _)).box HBx.out nB)⟩) (fun hHeld=>?_);clear Hk3;generalize wc3.drew=W0 at Hk hHeld ⊢;have hb0:=Below.refl W0.heap.size W0;refine nx0 0 ?_
      iterate 3 (refine nxC (v:=?_) rfl (by kernel_rfl) (fun _ _ _ h=>h) (by kernel_rfl) ?_ (by assumption) ?_; rotate_left; (focus (intro w hSw; (try dsimp only at hSw); first | (go_simp; done) | (go_simp; with_reducible rfl))); try simp only[Act.put,qg,qe,qf,qd,qh,qi,Nat.reduceAdd])
      refine nx9 ?_;refine nx0 4 ?_
      iterate 2 (refine nxC (v:=?_) rfl (by kernel_rfl) (fun _ _ _ h=>h) (by kernel_rfl) ?_ (by assumption) ?_; rotate_left; (focus (intro w hSw; (try dsimp only at hSw); first | (go_simp; done) | (go_simp; with_reducible rfl))); try simp only[Act.put,qg,qe,qf,qd,qh,qi,Nat.reduceAdd])
      refine nx9 ?_;refine wpAnyT_step (i:=3) (by kernel_rfl) rfl (fun K hK=>?_)
      (go_simp; refine(given2_any (leafT 1 0) none 0 0 W0).mono ?_; rintro e w5 ⟨rfl,hq⟩; have hb5:=hb0.trans (hq.mono hb0.size); clear hq)
      refine hK.out _ _ (⟨box5 ((Hk.out.below hb5).box HA.out nA),box5 ((Hk.out.below hb5).box HBx.out nB)⟩) ?_;clear hK K
      try simp only[Act.put,qg,qe,qf,qd,qh,qi]
      refine wpAnyT_step (i:=6) (by kernel_rfl) rfl (fun K hK=>?_)
      (go_simp; refine(given2_any (leafT 1 1) none 0 0 w5).mono ?_; rintro e w6 ⟨rfl,hq⟩; have hb6:=hb5.trans (hq.mono hb5.size); clear hq)
      refine hK.out _ _ (⟨box5 ((Hk.out.below hb6).box HA.out nA),box5 ((Hk.out.below hb6).box HBx.out nB)⟩) ?_;clear hK K
      try simp only[Act.put,qg,qe,qf,qd,qh,qi]
      have hb7:=hb6.trans ((below_box (w:=w6) (Obj.cells #[.int .u8 1,.int .u8 1,.int .i64 0,.int .i64 0,.int .u8 0,.slice none 0 0,.int .u8 1,.int .u8 1,.int .i64 1,.int .i64 0,.int .u8 0,.slice none 0 0] 109)).mono hb6.size);refine wpAnyT_step (i:=7) (by kernel_rfl) rfl (fun K hK=>?_);go_simp;refine hK.out _ _ (⟨box5 ((Hk.out.below hb7).box HA.out nA),box5 ((Hk.out.below hb7).box HBx.out nB)⟩) ?_;clear hK K
      try simp only[Act.put,qg,qe,qf,qd,qh,qi]
      have hbx:=hb7
      have hsl:=sl_blk (S:=GvS wb w2.heap.size w.heap.size W0.heap.size (w6.alloc (Obj.cells #[.int .u8 1,.int .u8 1,.int .i64 0,.int .i64 0,.int .u8 0,.slice none 0 0,.int .u8 1,.int .u8 1,.int .i64 1,.int .i64 0,.int .u8 0,.slice none 0 0] 109))) (enc:=encFt) (k:=6) (m:=2) (blk_new w6 #[.int .u8 1,.int .u8 1,.int .i64 0,.int .i64 0,.int .u8 0,.slice none 0 0,.int .u8 1,.int .u8 1,.int .i64 1,.int .i64 0,.int .u8 0,.slice none 0 0] 109) (GvS.new Hk.out (by have:=hb6.size; exact this) (by simp)) (celV_two (celV_ft celV_leaf) (celV_ft celV_leaf)) rfl (by omega)
      refine wpAnyT_seq 8 (by omega) (by rfl) (by kernel_rfl) ?_;simp only[List.drop_succ_cons,List.drop_zero];go_wp2_with fail;refine(con_gv wb w2.heap.size w.heap.size 3 2 _ _ _ 2 2 W0 _ (by rfl) (by omega) Hk.out hbx hsl (by omega)).mono ?_;rintro e wc4 ⟨rfl,hk4⟩;have Hk4:=qq hk4;clear hk4 Hk hsl hbx hHeld;go_wp2_with fail;refine NoPanic.normal ?_
      -- Nil
      go_upto_region 16 with fail;go_wp2_with fail;refine(con_gv wb w2.heap.size w.heap.size 4 3 _ [] none 0 0 _ _ (by rfl) (by omega) Hk4.out (Below.refl _ _) Sl.nil (by omega)).mono ?_;rintro e wc5 ⟨rfl,hk5⟩;have Hk5:=qq hk5;clear hk5 Hk4
      -- Cons
      go_upto_region 17 with fail
      go_cut [] (fun wx=>GvK wb w2.heap.size w.heap.size 6 wx)
      case first=>
       have Hk:=qq (Hk5.out.below (Below.drew (Below.refl wc5.heap.size wc5)));refine wp_region_noPanic ?_;refine wp_region_T (fun w'=>(w'.cell? ⟨w1.heap.size,0,none⟩=some (.int .u8 1)∧w'.cell? ⟨w1.heap.size,1,none⟩=some (.int .i64 0)∧w'.cell? ⟨w1.heap.size,2,none⟩=some (.int .i64 0)∧w'.cell? ⟨w1.heap.size,3,none⟩=some (.int .u8 0)∧w'.cell? ⟨w1.heap.size,4,none⟩=some (.slice none 0 0))) 10 (by kernel_rfl) (box5 ((Hk.out.below (Below.refl _ _)).box HA.out nA)) (fun hHeld=>?_);clear Hk5;generalize wc5.drew=W0 at Hk hHeld ⊢;have hb0:=Below.refl W0.heap.size W0;refine nx0 0 ?_
       iterate 3 (refine nxC (v:=?_) rfl (by kernel_rfl) (fun _ _ _ h=>h) (by kernel_rfl) ?_ (by assumption) ?_; rotate_left; (focus (intro w hSw; (try dsimp only at hSw); first | (go_simp; done) | (go_simp; with_reducible rfl))); try simp only[Act.put,qg,qe,qf,qd,qh,qi,Nat.reduceAdd])
       refine nx9 ?_;refine nx0 4 ?_
       iterate 2 (refine nxC (v:=?_) rfl (by kernel_rfl) (fun _ _ _ h=>h) (by kernel_rfl) ?_ (by assumption) ?_; rotate_left; (focus (intro w hSw; (try dsimp only at hSw); first | (go_simp; done) | (go_simp; with_reducible rfl))); try simp only[Act.put,qg,qe,qf,qd,qh,qi,Nat.reduceAdd])
       refine nx9 ?_;refine wpAnyT_two (i:=3) (j:=6) (by kernel_rfl) rfl rfl (fun K hK=>?_) (fun K hK=>?_)
       · go_simp
         refine(given2_any (leafT 1 0) none 0 0 W0).mono ?_;rintro e w5 ⟨rfl,hb5⟩;refine hK.out _ _ (box5 ((Hk.out.below hb5).box HA.out nA)) ?_;clear hK K
         try simp only[Act.put,qg,qe,qf,qd,qh,qi]
         have hb6:=hb5.trans ((below_box (w:=w5) (Obj.cells #[.int .u8 1,.int .i64 0,.int .i64 0,.int .u8 0,.slice none 0 0] 63)).mono hb5.size);have hrow0:=blk_new w5 #[.int .u8 1,.int .i64 0,.int .i64 0,.int .u8 0,.slice none 0 0] 63;have hrg:W0.heap.size≤w5.heap.size:=hb5.size;refine wpAnyT_step (i:=6) (by kernel_rfl) rfl (fun K hK=>?_);go_simp;refine hK.out _ _ (box5 ((Hk.out.below hb6).box HA.out nA)) ?_;clear hK K
         try simp only[Act.put,qg,qe,qf,qd,qh,qi]
         obtain⟨w6,hw6⟩:∃ x,w5.alloc (Obj.cells #[.int .u8 1,.int .i64 0,.int .i64 0,.int .u8 0,.slice none 0 0] 63)=x:=⟨_,rfl⟩;rw[hw6] at hb6 hrow0 ⊢;clear hw6;replace hHeld:=box5 ((Hk.out.below hb6).box HA.out nA)
         refine wpAnyT_takeC (i:=7) (v:=?_) rfl (by kernel_rfl) (by kernel_rfl) (by kernel_rfl) (by kernel_rfl) (by kernel_rfl) (fun _ _ _ h=>h) (Or.inl ⟨by kernel_rfl,?_⟩) (by assumption) ?_
         rotate_left
         · (intro w hSw; (try dsimp only at hSw); first | (go_simp; done) | (go_simp; with_reducible rfl))
         try simp only[Act.put,qg,qe,qf,qd,qh,qi]
         refine wpAnyT_step (i:=8) (by kernel_rfl) rfl (fun K hK=>?_)
         (go_simp; refine(given2_any (.mk 8 3 0 0 [leafT 1 0]) (some ⟨w5.heap.size,0,none⟩) 1 1 w6).mono ?_; rintro e w7 ⟨rfl,hq⟩; have hrow1:=hrow0.below hq hrow0.lt; have hb7:=hb6.trans (hq.mono hb6.size); clear hq)
         refine hK.out _ _ (box5 ((Hk.out.below hb7).box HA.out nA)) ?_;clear hK K
         try simp only[Act.put,qg,qe,qf,qd,qh,qi]
         have hrow:=hrow1.below (below_box (w:=w7) (Obj.cells #[.int .u8 1,.int .u8 1,.int .i64 0,.int .i64 0,.int .u8 0,.slice none 0 0,.int .u8 1,.int .u8 8,.int .i64 3,.int .i64 0,.int .u8 0,.slice (some ⟨w5.heap.size,0,none⟩) 1 1] 109)) hrow1.lt;have hb8:=hb7.trans ((below_box (w:=w7) (Obj.cells #[.int .u8 1,.int .u8 1,.int .i64 0,.int .i64 0,.int .u8 0,.slice none 0 0,.int .u8 1,.int .u8 8,.int .i64 3,.int .i64 0,.int .u8 0,.slice (some ⟨w5.heap.size,0,none⟩) 1 1] 109)).mono hb7.size);refine wpAnyT_step (i:=9) (by kernel_rfl) rfl (fun K hK=>?_);go_simp;refine hK.out _ _ (box5 ((Hk.out.below hb8).box HA.out nA)) ?_;clear hK K
         try simp only[Act.put,qg,qe,qf,qd,qh,qi]
         have hbx:=hb8
         have hsl:=sl_blk (S:=GvS wb w2.heap.size w.heap.size W0.heap.size (w7.alloc (Obj.cells #[.int .u8 1,.int .u8 1,.int .i64 0,.int .i64 0,.int .u8 0,.slice none 0 0,.int .u8 1,.int .u8 8,.int .i64 3,.int .i64 0,.int .u8 0,.slice (some ⟨w5.heap.size,0,none⟩) 1 1] 109))) (enc:=encFt) (k:=6) (m:=2) (blk_new w7 #[.int .u8 1,.int .u8 1,.int .i64 0,.int .i64 0,.int .u8 0,.slice none 0 0,.int .u8 1,.int .u8 8,.int .i64 3,.int .i64 0,.int .u8 0,.slice (some ⟨w5.heap.size,0,none⟩) 1 1] 109) (GvS.new Hk.out (by have:=hb7.size; exact this) (by simp)) (celV_two (celV_ft celV_leaf) (celV_ft (celV_ty (sl_blk (m:=1) hrow (GvS.new Hk.out hrg (by have:=hrow.lt; exact this)) (celV_one celV_leaf) rfl (by omega))))) rfl (by omega)
         refine wpAnyT_seq 10 (by omega) (by rfl) (by kernel_rfl) ?_;simp only[List.drop_succ_cons,List.drop_zero];go_wp2_with fail;refine(con_gv wb w2.heap.size w.heap.size 5 3 _ _ _ 2 2 W0 _ (by rfl) (by omega) Hk.out hbx hsl (by omega)).mono ?_;rintro e wc ⟨rfl,hk6⟩;have Hk6:=qq hk6;clear hk6 Hk hsl hbx hHeld;go_wp2_with fail;refine NoPanic.normal ?_;go_wp2_with fail;go_meet;exact Hk6.out
       · go_simp
         have hb5:=hb0.trans ((below_box (w:=W0) (Obj.cells #[.int .u8 1,.int .i64 0,.int .i64 0,.int .u8 0,.slice none 0 0] 63)).mono hb0.size);have hrow0:=blk_new W0 #[.int .u8 1,.int .i64 0,.int .i64 0,.int .u8 0,.slice none 0 0] 63;have hrg:W0.heap.size≤W0.heap.size:=Nat.le_refl _;refine hK.out _ _ (box5 ((Hk.out.below hb5).box HA.out nA)) ?_;clear hK K
         try simp only[Act.put,qg,qe,qf,qd,qh,qi]
         obtain⟨w5,hw5⟩:∃ x,W0.alloc (Obj.cells #[.int .u8 1,.int .i64 0,.int .i64 0,.int .u8 0,.slice none 0 0] 63)=x:=⟨_,rfl⟩;rw[hw5] at hb5 hrow0 ⊢;clear hw5;replace hHeld:=box5 ((Hk.out.below hb5).box HA.out nA)
         refine wpAnyT_takeC (i:=7) (v:=?_) rfl (by kernel_rfl) (by kernel_rfl) (by kernel_rfl) (by kernel_rfl) (by kernel_rfl) (fun _ _ _ h=>h) (Or.inl ⟨by kernel_rfl,?_⟩) (by assumption) ?_
         rotate_left
         · (intro w hSw; (try dsimp only at hSw); first | (go_simp; done) | (go_simp; with_reducible rfl))
         try simp only[Act.put,qg,qe,qf,qd,qh,qi]
         refine wpAnyT_step (i:=3) (by kernel_rfl) rfl (fun K hK=>?_)
         (go_simp; refine(given2_any (leafT 1 0) none 0 0 w5).mono ?_; rintro e w6 ⟨rfl,hq⟩; have hrow2:=hrow0.below hq hrow0.lt; have hb6:=hb5.trans (hq.mono hb5.size); clear hq)
         refine hK.out _ _ (box5 ((Hk.out.below hb6).box HA.out nA)) ?_;clear hK K
         try simp only[Act.put,qg,qe,qf,qd,qh,qi]
         refine wpAnyT_step (i:=8) (by kernel_rfl) rfl (fun K hK=>?_)
         (go_simp; refine(given2_any (.mk 8 3 0 0 [leafT 1 0]) (some ⟨W0.heap.size,0,none⟩) 1 1 w6).mono ?_; rintro e w7 ⟨rfl,hq⟩; have hrow1:=hrow2.below hq hrow2.lt; have hb7:=hb6.trans (hq.mono hb6.size); clear hq)
         refine hK.out _ _ (box5 ((Hk.out.below hb7).box HA.out nA)) ?_;clear hK K
         try simp only[Act.put,qg,qe,qf,qd,qh,qi]
         have hrow:=hrow1.below (below_box (w:=w7) (Obj.cells #[.int .u8 1,.int .u8 1,.int .i64 0,.int .i64 0,.int .u8 0,.slice none 0 0,.int .u8 1,.int .u8 8,.int .i64 3,.int .i64 0,.int .u8 0,.slice (some ⟨W0.heap.size,0,none⟩) 1 1] 109)) hrow1.lt;have hb8:=hb7.trans ((below_box (w:=w7) (Obj.cells #[.int .u8 1,.int .u8 1,.int .i64 0,.int .i64 0,.int .u8 0,.slice none 0 0,.int .u8 1,.int .u8 8,.int .i64 3,.int .i64 0,.int .u8 0,.slice (some ⟨W0.heap.size,0,none⟩) 1 1] 109)).mono hb7.size);refine wpAnyT_step (i:=9) (by kernel_rfl) rfl (fun K hK=>?_);go_simp;refine hK.out _ _ (box5 ((Hk.out.below hb8).box HA.out nA)) ?_;clear hK K
         try simp only[Act.put,qg,qe,qf,qd,qh,qi]
         have hbx:=hb8
         have hsl:=sl_blk (S:=GvS wb w2.heap.size w.heap.size W0.heap.size (w7.alloc (Obj.cells #[.int .u8 1,.int .u8 1,.int .i64 0,.int .i64 0,.int .u8 0,.slice none 0 0,.int .u8 1,.int .u8 8,.int .i64 3,.int .i64 0,.int .u8 0,.slice (some ⟨W0.heap.size,0,none⟩) 1 1] 109))) (enc:=encFt) (k:=6) (m:=2) (blk_new w7 #[.int .u8 1,.int .u8 1,.int .i64 0,.int .i64 0,.int .u8 0,.slice none 0 0,.int .u8 1,.int .u8 8,.int .i64 3,.int .i64 0,.int .u8 0,.slice (some ⟨W0.heap.size,0,none⟩) 1 1] 109) (GvS.new Hk.out (by have:=hb7.size; exact this) (by simp)) (celV_two (celV_ft celV_leaf) (celV_ft (celV_ty (sl_blk (m:=1) hrow (GvS.new Hk.out hrg (by have:=hrow.lt; exact this)) (celV_one celV_leaf) rfl (by omega))))) rfl (by omega)
         refine wpAnyT_seq 10 (by omega) (by rfl) (by kernel_rfl) ?_;simp only[List.drop_succ_cons,List.drop_zero];go_wp2_with fail;refine(con_gv wb w2.heap.size w.heap.size 5 3 _ _ _ 2 2 W0 _ (by rfl) (by omega) Hk.out hbx hsl (by omega)).mono ?_;rintro e wc ⟨rfl,hk6⟩;have Hk6:=qq hk6;clear hk6 Hk hsl hbx hHeld;go_wp2_with fail;refine NoPanic.normal ?_;go_wp2_with fail;go_meet;exact Hk6.out
      case rest=>
       have Hk6:=qq hcut;clear hcut
       -- Yes
       go_upto_region 18 with fail;have Hk:=qq (Hk6.out.below (Below.drew (Below.refl wc.heap.size wc)));refine wp_region_noPanic ?_;refine wp_region_T (fun w'=>(w'.cell? ⟨b4,0,none⟩=some (.int .u8 5)∧w'.cell? ⟨b4,1,none⟩=some (.int .i64 0)∧w'.cell? ⟨b4,2,none⟩=some (.int .i64 0)∧w'.cell? ⟨b4,3,none⟩=some (.int .u8 0)∧w'.cell? ⟨b4,4,none⟩=some (.slice none 0 0))∧(w'.cell? ⟨b5,0,none⟩=some (.int .u8 4)∧w'.cell? ⟨b5,1,none⟩=some (.int .i64 0)∧w'.cell? ⟨b5,2,none⟩=some (.int .i64 0)∧w'.cell? ⟨b5,3,none⟩=some (.int .u8 0)∧w'.cell? ⟨b5,4,none⟩=some (.slice none 0 0))) 8 (by kernel_rfl) (⟨box5 ((Hk.out.below (Below.refl _ _)).box H4.out n4),box5 ((Hk.out.below (Below.refl _ _)).box H5.out n5)⟩) (fun hHeld=>?_);clear Hk6;generalize wc.drew=W0 at Hk hHeld ⊢;have hb0:=Below.refl W0.heap.size W0;refine nx0 0 ?_
       iterate 3 (refine nxC (v:=?_) rfl (by kernel_rfl) (fun _ _ _ h=>h) (by kernel_rfl) ?_ (by assumption) ?_; rotate_left; (focus (intro w hSw; (try dsimp only at hSw); first | (go_simp; done) | (go_simp; with_reducible rfl))); try simp only[Act.put,qg,qe,qf,qd,qh,qi,Nat.reduceAdd])
       refine nx9 ?_;refine nx0 4 ?_
       iterate 2 (refine nxC (v:=?_) rfl (by kernel_rfl) (fun _ _ _ h=>h) (by kernel_rfl) ?_ (by assumption) ?_; rotate_left; (focus (intro w hSw; (try dsimp only at hSw); first | (go_simp; done) | (go_simp; with_reducible rfl))); try simp only[Act.put,qg,qe,qf,qd,qh,qi,Nat.reduceAdd])
       refine nx9 ?_;refine wpAnyT_step (i:=3) (by kernel_rfl) rfl (fun K hK=>?_)
       (go_simp; refine(given2_any (leafT 5 0) none 0 0 W0).mono ?_; rintro e w5 ⟨rfl,hq⟩; have hb5:=hb0.trans (hq.mono hb0.size); clear hq)
       refine hK.out _ _ (⟨box5 ((Hk.out.below hb5).box H4.out n4),box5 ((Hk.out.below hb5).box H5.out n5)⟩) ?_;clear hK K
       try simp only[Act.put,qg,qe,qf,qd,qh,qi]
       refine wpAnyT_step (i:=6) (by kernel_rfl) rfl (fun K hK=>?_)
       (go_simp; refine(given2_any (leafT 4 0) none 0 0 w5).mono ?_; rintro e w6 ⟨rfl,hq⟩; have hb6:=hb5.trans (hq.mono hb5.size); clear hq)
       refine hK.out _ _ (⟨box5 ((Hk.out.below hb6).box H4.out n4),box5 ((Hk.out.below hb6).box H5.out n5)⟩) ?_;clear hK K
       try simp only[Act.put,qg,qe,qf,qd,qh,qi]
       have hb7:=hb6.trans ((below_box (w:=w6) (Obj.cells #[.int .u8 1,.int .u8 5,.int .i64 0,.int .i64 0,.int .u8 0,.slice none 0 0,.int .u8 1,.int .u8 4,.int .i64 0,.int .i64 0,.int .u8 0,.slice none 0 0] 109)).mono hb6.size);refine wpAnyT_step (i:=7) (by kernel_rfl) rfl (fun K hK=>?_);go_simp;refine hK.out _ _ (⟨box5 ((Hk.out.below hb7).box H4.out n4),box5 ((Hk.out.below hb7).box H5.out n5)⟩) ?_;clear hK K
       try simp only[Act.put,qg,qe,qf,qd,qh,qi]
       have hbx:=hb7
       have hsl:=sl_blk (S:=GvS wb w2.heap.size w.heap.size W0.heap.size (w6.alloc (Obj.cells #[.int .u8 1,.int .u8 5,.int .i64 0,.int .i64 0,.int .u8 0,.slice none 0 0,.int .u8 1,.int .u8 4,.int .i64 0,.int .i64 0,.int .u8 0,.slice none 0 0] 109))) (enc:=encFt) (k:=6) (m:=2) (blk_new w6 #[.int .u8 1,.int .u8 5,.int .i64 0,.int .i64 0,.int .u8 0,.slice none 0 0,.int .u8 1,.int .u8 4,.int .i64 0,.int .i64 0,.int .u8 0,.slice none 0 0] 109) (GvS.new Hk.out (by have:=hb6.size; exact this) (by simp)) (celV_two (celV_ft celV_leaf) (celV_ft celV_leaf)) rfl (by omega)
       refine wpAnyT_seq 8 (by omega) (by rfl) (by kernel_rfl) ?_;simp only[List.drop_succ_cons,List.drop_zero];go_wp2_with fail;refine(con_gv wb w2.heap.size w.heap.size 6 4 _ _ _ 2 2 W0 _ (by rfl) (by omega) Hk.out hbx hsl (by omega)).mono ?_;rintro e wc7 ⟨rfl,hk7⟩;have Hk7:=qq hk7;clear hk7 Hk hsl hbx hHeld;go_wp2_with fail;refine NoPanic.normal ?_
       -- No
       go_upto_region 19 with fail;have Hk:=qq Hk7.out;clear Hk7;have hb0:=Below.refl wc7.heap.size wc7;obtain⟨q50,q51,q52,q53,q54⟩:=box5 ((Hk.out.below hb0).box H5.out n5);go_wp2_with fail;refine(given2_any (leafT 4 0) none 0 0 wc7).mono ?_;rintro e w5 ⟨rfl,hq⟩;have hb5:=hb0.trans (hq.mono hb0.size);clear hq;clear q50 q51 q52 q53 q54;have hbx:=hb5.trans ((below_box (w:=w5) (Obj.cells #[.int .u8 1,.int .u8 4,.int .i64 0,.int .i64 0,.int .u8 0,.slice none 0 0] 109)).mono hb5.size)
       have hsl:=sl_blk (S:=GvS wb w2.heap.size w.heap.size wc7.heap.size (w5.alloc (Obj.cells #[.int .u8 1,.int .u8 4,.int .i64 0,.int .i64 0,.int .u8 0,.slice none 0 0] 109))) (enc:=encFt) (k:=6) (m:=1) (blk_new w5 #[.int .u8 1,.int .u8 4,.int .i64 0,.int .i64 0,.int .u8 0,.slice none 0 0] 109) (GvS.new Hk.out (by have:=hb5.size; exact this) (by simp)) (celV_one (celV_ft celV_leaf)) rfl (by omega)
       go_wp2_with fail;refine(con_gv wb w2.heap.size w.heap.size 7 4 _ _ _ 1 1 wc7 _ (by rfl) (by omega) Hk.out hbx hsl (by omega)).mono ?_;rintro e wc8 ⟨rfl,hk8⟩;have Hk8:=qq hk8;clear hk8 Hk hsl hbx
       -- Line
       go_upto_region 20 with fail;have Hk:=qq (Hk8.out.below (Below.drew (Below.refl wc8.heap.size wc8)));refine wp_region_noPanic ?_;refine wp_region_T (fun w'=>(w'.cell? ⟨b4,0,none⟩=some (.int .u8 5)∧w'.cell? ⟨b4,1,none⟩=some (.int .i64 0)∧w'.cell? ⟨b4,2,none⟩=some (.int .i64 0)∧w'.cell? ⟨b4,3,none⟩=some (.int .u8 0)∧w'.cell? ⟨b4,4,none⟩=some (.slice none 0 0))) 9 (by kernel_rfl) (box5 ((Hk.out.below (Below.refl _ _)).box H4.out n4)) (fun hHeld=>?_);clear Hk8;generalize wc8.drew=W0 at Hk hHeld ⊢;have hb0:=Below.refl W0.heap.size W0;refine nx0 0 ?_
       iterate 3 (refine nxC (v:=?_) rfl (by kernel_rfl) (fun _ _ _ h=>h) (by kernel_rfl) ?_ (by assumption) ?_; rotate_left; (focus (intro w hSw; (try dsimp only at hSw); first | (go_simp; done) | (go_simp; with_reducible rfl))); try simp only[Act.put,qg,qe,qf,qd,qh,qi,Nat.reduceAdd])
       refine nx9 ?_;refine nx0 5 ?_
       iterate 2 (refine nxC (v:=?_) rfl (by kernel_rfl) (fun _ _ _ h=>h) (by kernel_rfl) ?_ (by assumption) ?_; rotate_left; (focus (intro w hSw; (try dsimp only at hSw); first | (go_simp; done) | (go_simp; with_reducible rfl))); try simp only[Act.put,qg,qe,qf,qd,qh,qi,Nat.reduceAdd])
       refine nx9 ?_;refine wpAnyT_step (i:=3) (by kernel_rfl) rfl (fun K hK=>?_)
       (go_simp; refine(given1_any 3 none 0 0 W0).mono ?_; rintro e w4 ⟨rfl,hq⟩; have hb4:=hb0.trans (hq.mono hb0.size); clear hq)
       refine hK.out _ _ (box5 ((Hk.out.below hb4).box H4.out n4)) ?_;clear hK K
       try simp only[Act.put,qg,qe,qf,qd,qh,qi]
       refine wpAnyT_step (i:=4) (by kernel_rfl) rfl (fun K hK=>?_)
       (go_simp; refine(given3_any (leafT 3 0) none 0 0 w4).mono ?_; rintro e w5 ⟨rfl,hq⟩; have hb5:=hb4.trans (hq.mono hb4.size); clear hq)
       refine hK.out _ _ (box5 ((Hk.out.below hb5).box H4.out n4)) ?_;clear hK K
       try simp only[Act.put,qg,qe,qf,qd,qh,qi]
       refine wpAnyT_step (i:=7) (by kernel_rfl) rfl (fun K hK=>?_)
       (go_simp; refine(given2_any (leafT 5 0) none 0 0 w5).mono ?_; rintro e w6 ⟨rfl,hq⟩; have hb6:=hb5.trans (hq.mono hb5.size); clear hq)
       refine hK.out _ _ (box5 ((Hk.out.below hb6).box H4.out n4)) ?_;clear hK K
       try simp only[Act.put,qg,qe,qf,qd,qh,qi]
       have hb7:=hb6.trans ((below_box (w:=w6) (Obj.cells #[.int .u8 3,.int .u8 3,.int .i64 0,.int .i64 0,.int .u8 0,.slice none 0 0,.int .u8 1,.int .u8 5,.int .i64 0,.int .i64 0,.int .u8 0,.slice none 0 0] 109)).mono hb6.size);refine wpAnyT_step (i:=8) (by kernel_rfl) rfl (fun K hK=>?_);go_simp;refine hK.out _ _ (box5 ((Hk.out.below hb7).box H4.out n4)) ?_;clear hK K
       try simp only[Act.put,qg,qe,qf,qd,qh,qi]
       have hbx:=hb7
       have hsl:=sl_blk (S:=GvS wb w2.heap.size w.heap.size W0.heap.size (w6.alloc (Obj.cells #[.int .u8 3,.int .u8 3,.int .i64 0,.int .i64 0,.int .u8 0,.slice none 0 0,.int .u8 1,.int .u8 5,.int .i64 0,.int .i64 0,.int .u8 0,.slice none 0 0] 109))) (enc:=encFt) (k:=6) (m:=2) (blk_new w6 #[.int .u8 3,.int .u8 3,.int .i64 0,.int .i64 0,.int .u8 0,.slice none 0 0,.int .u8 1,.int .u8 5,.int .i64 0,.int .i64 0,.int .u8 0,.slice none 0 0] 109) (GvS.new Hk.out (by have:=hb6.size; exact this) (by simp)) (celV_two (celV_ft celV_leaf) (celV_ft celV_leaf)) rfl (by omega)
       refine wpAnyT_seq 9 (by omega) (by rfl) (by kernel_rfl) ?_;simp only[List.drop_succ_cons,List.drop_zero];go_wp2_with fail;refine(con_gv wb w2.heap.size w.heap.size 8 5 _ _ _ 2 2 W0 _ (by rfl) (by omega) Hk.out hbx hsl (by omega)).mono ?_;rintro e wc9 ⟨rfl,hk9⟩;have Hk9:=qq hk9;clear hk9 Hk hsl hbx hHeld;go_wp2_with fail;refine NoPanic.normal ?_
       -- End
       go_upto_region 21 with fail;have Hk:=qq Hk9.out;clear Hk9;have hb0:=Below.refl wc9.heap.size wc9;obtain⟨q40,q41,q42,q43,q44⟩:=box5 ((Hk.out.below hb0).box H4.out n4);go_wp2_with fail;refine(given2_any (leafT 5 0) none 0 0 wc9).mono ?_;rintro e w5 ⟨rfl,hq⟩;have hb5:=hb0.trans (hq.mono hb0.size);clear hq;clear q40 q41 q42 q43 q44;have hbx:=hb5.trans ((below_box (w:=w5) (Obj.cells #[.int .u8 1,.int .u8 5,.int .i64 0,.int .i64 0,.int .u8 0,.slice none 0 0] 109)).mono hb5.size)
       have hsl:=sl_blk (S:=GvS wb w2.heap.size w.heap.size wc9.heap.size (w5.alloc (Obj.cells #[.int .u8 1,.int .u8 5,.int .i64 0,.int .i64 0,.int .u8 0,.slice none 0 0] 109))) (enc:=encFt) (k:=6) (m:=1) (blk_new w5 #[.int .u8 1,.int .u8 5,.int .i64 0,.int .i64 0,.int .u8 0,.slice none 0 0] 109) (GvS.new Hk.out (by have:=hb5.size; exact this) (by simp)) (celV_one (celV_ft celV_leaf)) rfl (by omega)
       go_wp2_with fail;refine(con_gv wb w2.heap.size w.heap.size 9 5 _ _ _ 1 1 wc9 _ (by rfl) (by omega) Hk.out hbx hsl (by omega)).mono ?_;rintro e wc10 ⟨rfl,hk10⟩;have Hk10:=qq hk10;clear hk10 Hk hsl hbx
       -- Torn
       go_upto_region 22 with fail;have Hk:=qq Hk10.out;clear Hk10;have hb0:=Below.refl wc10.heap.size wc10;obtain⟨q40,q41,q42,q43,q44⟩:=box5 ((Hk.out.below hb0).box H4.out n4);go_wp2_with fail;refine(given2_any (leafT 5 0) none 0 0 wc10).mono ?_;rintro e w5 ⟨rfl,hq⟩;have hb5:=hb0.trans (hq.mono hb0.size);clear hq;clear q40 q41 q42 q43 q44;have hbx:=hb5.trans ((below_box (w:=w5) (Obj.cells #[.int .u8 1,.int .u8 5,.int .i64 0,.int .i64 0,.int .u8 0,.slice none 0 0] 109)).mono hb5.size)
       have hsl:=sl_blk (S:=GvS wb w2.heap.size w.heap.size wc10.heap.size (w5.alloc (Obj.cells #[.int .u8 1,.int .u8 5,.int .i64 0,.int .i64 0,.int .u8 0,.slice none 0 0] 109))) (enc:=encFt) (k:=6) (m:=1) (blk_new w5 #[.int .u8 1,.int .u8 5,.int .i64 0,.int .i64 0,.int .u8 0,.slice none 0 0] 109) (GvS.new Hk.out (by have:=hb5.size; exact this) (by simp)) (celV_one (celV_ft celV_leaf)) rfl (by omega)
       go_wp2_with fail;refine(con_gv wb w2.heap.size w.heap.size 10 5 _ _ _ 1 1 wc10 _ (by rfl) (by omega) Hk.out hbx hsl (by omega)).mono ?_;rintro e wc11 ⟨rfl,hk11⟩;have Hk11:=qq hk11;clear hk11 Hk hsl hbx
       -- Got
       go_upto_region 23 with fail;have Hk:=qq (Hk11.out.below (Below.drew (Below.refl wc11.heap.size wc11)));refine wp_region_noPanic ?_;refine wp_region_T (fun w'=>(w'.cell? ⟨b6,0,none⟩=some (.int .u8 6)∧w'.cell? ⟨b6,1,none⟩=some (.int .i64 0)∧w'.cell? ⟨b6,2,none⟩=some (.int .i64 0)∧w'.cell? ⟨b6,3,none⟩=some (.int .u8 0)∧w'.cell? ⟨b6,4,none⟩=some (.slice (some ⟨br,0,none⟩) 1 1))∧(w'.cell? ⟨w1.heap.size,0,none⟩=some (.int .u8 1)∧w'.cell? ⟨w1.heap.size,1,none⟩=some (.int .i64 0)∧w'.cell? ⟨w1.heap.size,2,none⟩=some (.int .i64 0)∧w'.cell? ⟨w1.heap.size,3,none⟩=some (.int .u8 0)∧w'.cell? ⟨w1.heap.size,4,none⟩=some (.slice none 0 0))) 8 (by kernel_rfl) (⟨box5 ((Hk.out.below (Below.refl _ _)).box H6.out n6),box5 ((Hk.out.below (Below.refl _ _)).box HA.out nA)⟩) (fun hHeld=>?_);clear Hk11;generalize wc11.drew=W0 at Hk hHeld ⊢;have hb0:=Below.refl W0.heap.size W0;refine nx0 0 ?_
       iterate 3 (refine nxC (v:=?_) rfl (by kernel_rfl) (fun _ _ _ h=>h) (by kernel_rfl) ?_ (by assumption) ?_; rotate_left; (focus (intro w hSw; (try dsimp only at hSw); first | (go_simp; done) | (go_simp; with_reducible rfl))); try simp only[Act.put,qg,qe,qf,qd,qh,qi,Nat.reduceAdd])
       refine nx9 ?_;refine nx0 4 ?_
       iterate 2 (refine nxC (v:=?_) rfl (by kernel_rfl) (fun _ _ _ h=>h) (by kernel_rfl) ?_ (by assumption) ?_; rotate_left; (focus (intro w hSw; (try dsimp only at hSw); first | (go_simp; done) | (go_simp; with_reducible rfl))); try simp only[Act.put,qg,qe,qf,qd,qh,qi,Nat.reduceAdd])
       refine nx9 ?_;refine wpAnyT_step (i:=3) (by kernel_rfl) rfl (fun K hK=>?_)
       (go_simp; refine(given2_any (.mk 6 0 0 0 [leafT 1 0]) (some ⟨br,0,none⟩) 1 1 W0).mono ?_; rintro e w5 ⟨rfl,hq⟩; have hb5:=hb0.trans (hq.mono hb0.size); clear hq)
       refine hK.out _ _ (⟨box5 ((Hk.out.below hb5).box H6.out n6),box5 ((Hk.out.below hb5).box HA.out nA)⟩) ?_;clear hK K
       try simp only[Act.put,qg,qe,qf,qd,qh,qi]
       refine wpAnyT_step (i:=6) (by kernel_rfl) rfl (fun K hK=>?_)
       (go_simp; refine(given3_any (leafT 1 0) none 0 0 w5).mono ?_; rintro e w6 ⟨rfl,hq⟩; have hb6:=hb5.trans (hq.mono hb5.size); clear hq)
       refine hK.out _ _ (⟨box5 ((Hk.out.below hb6).box H6.out n6),box5 ((Hk.out.below hb6).box HA.out nA)⟩) ?_;clear hK K
       try simp only[Act.put,qg,qe,qf,qd,qh,qi]
       have hb7:=hb6.trans ((below_box (w:=w6) (Obj.cells #[.int .u8 1,.int .u8 6,.int .i64 0,.int .i64 0,.int .u8 0,.slice (some ⟨br,0,none⟩) 1 1,.int .u8 3,.int .u8 1,.int .i64 0,.int .i64 0,.int .u8 0,.slice none 0 0] 109)).mono hb6.size);refine wpAnyT_step (i:=7) (by kernel_rfl) rfl (fun K hK=>?_);go_simp;refine hK.out _ _ (⟨box5 ((Hk.out.below hb7).box H6.out n6),box5 ((Hk.out.below hb7).box HA.out nA)⟩) ?_;clear hK K
       try simp only[Act.put,qg,qe,qf,qd,qh,qi]
       have hbx:=hb7
       have hsl:=sl_blk (S:=GvS wb w2.heap.size w.heap.size W0.heap.size (w6.alloc (Obj.cells #[.int .u8 1,.int .u8 6,.int .i64 0,.int .i64 0,.int .u8 0,.slice (some ⟨br,0,none⟩) 1 1,.int .u8 3,.int .u8 1,.int .i64 0,.int .i64 0,.int .u8 0,.slice none 0 0] 109))) (enc:=encFt) (k:=6) (m:=2) (blk_new w6 #[.int .u8 1,.int .u8 6,.int .i64 0,.int .i64 0,.int .u8 0,.slice (some ⟨br,0,none⟩) 1 1,.int .u8 3,.int .u8 1,.int .i64 0,.int .i64 0,.int .u8 0,.slice none 0 0] 109) (GvS.new Hk.out (by have:=hb6.size; exact this) (by simp)) (celV_two (celV_ft (celV_ty (sl_blk (m:=1) ((Hk.out.below hbx).box Hr.out nr) (GvS.old Hk.out hbx.size lr nr nrr) (celV_one celV_leaf) rfl (by omega)))) (celV_ft celV_leaf)) rfl (by omega)
       refine wpAnyT_seq 8 (by omega) (by rfl) (by kernel_rfl) ?_;simp only[List.drop_succ_cons,List.drop_zero];go_wp2_with fail;refine(con_gv wb w2.heap.size w.heap.size 11 6 _ _ _ 2 2 W0 _ (by rfl) (by omega) Hk.out hbx hsl (by omega)).mono ?_;rintro e wc12 ⟨rfl,hk12⟩;have Hk12:=qq hk12;clear hk12 Hk hsl hbx hHeld;go_wp2_with fail;refine NoPanic.normal ?_
       -- Sized
       go_upto_region 24 with fail;have Hk:=qq Hk12.out;clear Hk12;have hb0:=Below.refl wc12.heap.size wc12;obtain⟨q60,q61,q62,q63,q64⟩:=box5 ((Hk.out.below hb0).box H6.out n6);go_wp2_with fail;refine(given2_any (.mk 6 0 0 0 [leafT 1 0]) (some ⟨br,0,none⟩) 1 1 wc12).mono ?_;rintro e w5 ⟨rfl,hq⟩;have hb5:=hb0.trans (hq.mono hb0.size);clear hq;go_wp2_with fail;refine(given1_any 2 none 0 0 w5).mono ?_;rintro e w6 ⟨rfl,hq⟩;have hb6:=hb5.trans (hq.mono hb5.size);clear hq;go_wp2_with fail;refine(given3_any (leafT 2 0) none 0 0 w6).mono ?_;rintro e w7 ⟨rfl,hq⟩;have hb7:=hb6.trans (hq.mono hb6.size);clear hq;clear q60 q61 q62 q63 q64;have hbx:=hb7.trans ((below_box (w:=w7) (Obj.cells #[.int .u8 1,.int .u8 6,.int .i64 0,.int .i64 0,.int .u8 0,.slice (some ⟨br,0,none⟩) 1 1,.int .u8 3,.int .u8 2,.int .i64 0,.int .i64 0,.int .u8 0,.slice none 0 0] 109)).mono hb7.size)
       have hsl:=sl_blk (S:=GvS wb w2.heap.size w.heap.size wc12.heap.size (w7.alloc (Obj.cells #[.int .u8 1,.int .u8 6,.int .i64 0,.int .i64 0,.int .u8 0,.slice (some ⟨br,0,none⟩) 1 1,.int .u8 3,.int .u8 2,.int .i64 0,.int .i64 0,.int .u8 0,.slice none 0 0] 109))) (enc:=encFt) (k:=6) (m:=2) (blk_new w7 #[.int .u8 1,.int .u8 6,.int .i64 0,.int .i64 0,.int .u8 0,.slice (some ⟨br,0,none⟩) 1 1,.int .u8 3,.int .u8 2,.int .i64 0,.int .i64 0,.int .u8 0,.slice none 0 0] 109) (GvS.new Hk.out (by have:=hb7.size; exact this) (by simp)) (celV_two (celV_ft (celV_ty (sl_blk (m:=1) ((Hk.out.below hbx).box Hr.out nr) (GvS.old Hk.out hbx.size lr nr nrr) (celV_one celV_leaf) rfl (by omega)))) (celV_ft celV_leaf)) rfl (by omega)
       go_wp2_with fail;refine(con_gv wb w2.heap.size w.heap.size 12 7 _ _ _ 2 2 wc12 _ (by rfl) (by omega) Hk.out hbx hsl (by omega)).mono ?_;rintro e wc13 ⟨rfl,hk13⟩;have Hk13:=qq hk13;clear hk13 Hk hsl hbx
       -- Done
       go_upto_region 25 with fail;have Hk:=qq Hk13.out;clear Hk13;have hb0:=Below.refl wc13.heap.size wc13;obtain⟨q40,q41,q42,q43,q44⟩:=box5 ((Hk.out.below hb0).box H4.out n4);go_wp2_with fail;refine(given2_any (leafT 5 0) none 0 0 wc13).mono ?_;rintro e w5 ⟨rfl,hq⟩;have hb5:=hb0.trans (hq.mono hb0.size);clear hq;clear q40 q41 q42 q43 q44;have hbx:=hb5.trans ((below_box (w:=w5) (Obj.cells #[.int .u8 1,.int .u8 5,.int .i64 0,.int .i64 0,.int .u8 0,.slice none 0 0] 109)).mono hb5.size)
       have hsl:=sl_blk (S:=GvS wb w2.heap.size w.heap.size wc13.heap.size (w5.alloc (Obj.cells #[.int .u8 1,.int .u8 5,.int .i64 0,.int .i64 0,.int .u8 0,.slice none 0 0] 109))) (enc:=encFt) (k:=6) (m:=1) (blk_new w5 #[.int .u8 1,.int .u8 5,.int .i64 0,.int .i64 0,.int .u8 0,.slice none 0 0] 109) (GvS.new Hk.out (by have:=hb5.size; exact this) (by simp)) (celV_one (celV_ft celV_leaf)) rfl (by omega)
       go_wp2_with fail;refine(con_gv wb w2.heap.size w.heap.size 13 8 _ _ _ 1 1 wc13 _ (by rfl) (by omega) Hk.out hbx hsl (by omega)).mono ?_;rintro e wc14 ⟨rfl,hk14⟩;have Hk14:=qq hk14;clear hk14 Hk hsl hbx
       -- Fail
       go_upto_region 26 with fail;have Hk:=qq Hk14.out;clear Hk14;have hb0:=Below.refl wc14.heap.size wc14;obtain⟨q40,q41,q42,q43,q44⟩:=box5 ((Hk.out.below hb0).box H4.out n4);go_wp2_with fail;refine(given2_any (leafT 5 0) none 0 0 wc14).mono ?_;rintro e w5 ⟨rfl,hq⟩;have hb5:=hb0.trans (hq.mono hb0.size);clear hq;clear q40 q41 q42 q43 q44;have hbx:=hb5.trans ((below_box (w:=w5) (Obj.cells #[.int .u8 1,.int .u8 5,.int .i64 0,.int .i64 0,.int .u8 0,.slice none 0 0] 109)).mono hb5.size)
       have hsl:=sl_blk (S:=GvS wb w2.heap.size w.heap.size wc14.heap.size (w5.alloc (Obj.cells #[.int .u8 1,.int .u8 5,.int .i64 0,.int .i64 0,.int .u8 0,.slice none 0 0] 109))) (enc:=encFt) (k:=6) (m:=1) (blk_new w5 #[.int .u8 1,.int .u8 5,.int .i64 0,.int .i64 0,.int .u8 0,.slice none 0 0] 109) (GvS.new Hk.out (by have:=hb5.size; exact this) (by simp)) (celV_one (celV_ft celV_leaf)) rfl (by omega)
       go_wp2_with fail;refine(con_gv wb w2.heap.size w.heap.size 14 8 _ _ _ 1 1 wc14 _ (by rfl) (by omega) Hk.out hbx hsl (by omega)).mono ?_;rintro e wc15 ⟨rfl,hk15⟩;have Hk15:=qq hk15;clear hk15 Hk hsl hbx;go_upto_region 27 with fail;obtain⟨vd,vc,vs,hgm⟩:=Hk15.out;obtain⟨Ad,cd,rfl⟩:=ownsRow_form hgm.sig.od;obtain⟨Ac,cc,rfl⟩:=hgm.sig.oc.form;have hkz:=Hk15.out.box HZ.out nz;have x0:wc15.cell? ⟨w2.heap.size,0,none⟩=some (.slice Ad (gv 15).datas.length cd):=hgm.blk.cell 0;have x1:wc15.cell? ⟨w2.heap.size,1,none⟩=some (.slice Ac (gv 15).cons.length cc):=hgm.blk.cell 1;obtain⟨nd,hnd⟩:∃ x,(gv 15).datas.length=x:=⟨_,rfl⟩;obtain⟨nc,hnc⟩:∃ x,(gv 15).cons.length=x:=⟨_,rfl⟩;rw[hnd] at x0 hgm;rw[hnc] at x1 hgm;have y0:=hkz.cell 0;have y1:=hkz.cell 1;simp only[qc,qb,qa] at y0 y1;have f0:=hkz.frozen 0;have f1:=hkz.frozen 1
       have hno:¬ RowB (.slice Ad nd cd) (.slice Ac nc cc) vs w.heap.size:=fun e=>by
        have:=(hgm.sig.rows e).1;have:=hgm.rl;omega
       have hs:=(hgm.sig.setR (p:=⟨w.heap.size,0,none⟩) hno (Or.inr (Nat.le_refl _)) (.slice Ad nd cd)).setR (p:=⟨w.heap.size,1,none⟩) hno (Or.inr (Nat.le_refl _)) (.slice Ac nc cc)
       have hbf:=((HBel.out.trans ((hgm.but.below (B:=w.heap.size) (Nat.le_of_lt lz) (by have:=HBel.out.size; omega)))).setCell (p:=⟨w.heap.size,0,none⟩) (Nat.le_refl _) (.slice Ad nd cd)).setCell (p:=⟨w.heap.size,1,none⟩) (Nat.le_refl _) (.slice Ac nc cc)
       have hkf:=(hkz.set_ 0 (.slice Ad nd cd)).set_ 1 (.slice Ac nc cc);have Hs:=qq hs;have Hbf:=qq hbf;have Hkf:=qq hkf;clear hs hbf hkf hkz hno hnd hnc;go_wp2_with fail;have hs:=Hs.out;have hb9:=Hbf.out;have hkf:=Hkf.out;generalize (wc15.setCell ⟨w.heap.size,0,none⟩ (.slice Ad nd cd)).setCell ⟨w.heap.size,1,none⟩ (.slice Ac nc cc)=W9 at hs hb9 hkf ⊢;replace hkf:Blk W9 w.heap.size 25 #[.slice Ad nd cd,.slice Ac nc cc]:=hkf;have d0:W9.cell? ⟨w.heap.size,0,none⟩=some (.slice Ad nd cd):=hkf.cell 0;have d1:W9.cell? ⟨w.heap.size,1,none⟩=some (.slice Ac nc cc):=hkf.cell 1;refine bodyPost_ret (v:=.agg #[.slice Ad nd cd,.slice Ac nc cc]) (by simp[results,Tryd.results18,go_sem,d0,d1]) rfl ⟨_,_,vs,rfl,?_,hb9⟩
       exact(hs.base (by have:=HBel.out.size; exact this)).weak fun _ _ h=>Or.inr (Nat.le_of_lt h)
end Go.Proofs.YtgpeijkjmkocgaaDoor
