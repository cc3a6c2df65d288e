import Derived.Test.YtdmakpmbknindaaGreatDoorM39
import Derived.Test.YtdmakpmbknindaaGreatDoorM36
import Derived.Test.YtdmakpmbknindaaGreatDoorM32
import Derived.Test.YtdmakpmbknindaaGreatDoorM17
namespace Go.Proofs.YtdmakpmbknindaaGreatDoor
set_option linter.unusedVariables false
set_option linter.unusedSimpArgs false
open Go.RowKit
theorem more_good {a b:SchD} {t:TabD} (ha:OkSch a) (hb:OkSch b) (h:TabOf (multsT b.t).length (LetB b) t) (hok:(putsE a (oneT b.t t (multsT b.t).length)).1=true):
 (∀ i:Nat,i<(multsT a.t).length→GoodM (multsT b.t).length t ((putsE a (oneT b.t t (multsT b.t).length)).2.fm (i:Nat)))∧∀ i:Nat,i<(multsT a.t).length→∃ m,(putsE a (oneT b.t t (multsT b.t).length)).2.mults (i:Nat)=some m:=by
 have hm:=match_made (mayTE_may ha.may) (mayTE_may (one_may hb h)) hok;refine⟨fun i hi=>?_,fun i hi=>hm.m _ (ha.mu_ hi)⟩
 exact good_at (fv:=(putsE a (oneT b.t t (multsT b.t).length)).2.types) (mayTE_may ha.may) (by have:=hm.turn; unfold putsE; rw[this]; exact one_good hb h) _ (ha.mu_ hi)
theorem sub_idx {ka K:Nat} {f:Int→Int × Int} {t:TabD} (hf:∀ i:Nat,i<ka→GoodM K t (f (i:Nat))) {x:IneqD} (i1:x.lc=0→0≤x.lv∧x.lv<(ka:Int)) (i2:x.r<(ka:Int)):
 ((subQ f x).lc=0→0≤(subQ f x).lv∧(subQ f x).lv<(K:Int))∧(0≤x.r∨x.r<(K:Int)→(subQ f x).r<(K:Int)):=by
 have hgz:∀ z:Int,0≤z→z<(ka:Int)→GoodM K t (f z):=fun z z0 z1=>by
  have:=hf z.toNat (by omega)
  rwa [show((z.toNat:Nat):Int)=z from Int.toNat_of_nonneg z0] at this
 constructor
 · show(subL _ x).2=0→0≤(subL _ x).1∧(subL _ x).1<_
   unfold subL
   by_cases hc:x.lc=0
   · rw[if_pos hc]
     obtain⟨l0,l1⟩:=i1 hc;intro hz
     rcases hgz _ l0 l1 with ⟨_,g2,_⟩ | ⟨j,hj,e,_⟩
     · omega
     · rw[e]; exact⟨Int.natCast_nonneg _,by show(j:Int)<_; omega⟩
   · rw[if_neg hc]
     intro hz;exact absurd hz hc
 · intro hor
   show(subR _ x).2<_;unfold subR
   by_cases hr:0≤x.r
   · rw[if_pos hr]
     rcases hgz _ hr i2 with ⟨_,g2,_⟩ | ⟨j,hj,e,_⟩
     · rw[if_neg (by omega)]
       show(-1:Int)<_;omega
     · rw[e,if_pos rfl]
       show(j:Int)<_;omega
   · rw[if_neg hr]
     show x.r<_;omega
structure MoreSt (w:World) (p14 p9 b2 n K:Nat) (t:TabD) (σ:StM) (f:Int→Option Value) (A1:Option Addr) (c1:Nat) (A2:Option Addr) (c2:Nat) (A3:Option Addr) (c3:Nat):Prop where
 m:Blk w p14 105 #[.map (some b2)]
 map:MapV w Tryz.prog 3 b2 n zM f
 rd:ReadM σ f
 tb:Blk w p9 38 #[.slice A1 t.low.length c1,.slice A2 t.up.length c2,.slice A3 t.pair.length c3]
 l:RdI .u8 w w.heap.size A1 t.low.length c1 t.low
 u:RdI .u8 w w.heap.size A2 t.up.length c2 t.up
 p:MssV w w.heap.size A3 t.pair.length c3 t.pair
theorem MoreSt.fresh {w w':World} {p14 p9 b2 n K:Nat} {t:TabD} {σ:StM} {f:Int→Option Value} {A1:Option Addr} {c1:Nat} {A2:Option Addr} {c2:Nat} {A3:Option Addr} {c3:Nat} (h:MoreSt w p14 p9 b2 n K t σ f A1 c1 A2 c2 A3 c3) (hb:Below w.heap.size w w'):MoreSt w' p14 p9 b2 n K t σ f A1 c1 A2 c2 A3 c3:=
 ⟨h.m.below hb h.m.lt,h.map.fresh hb,h.rd,h.tb.below hb h.tb.lt,h.l.freshM hb,h.u.freshM hb,h.p.fresh hb⟩
theorem set2_blk4 {w:World} {b:Nat} {t:TypeId} {x0 x1 x2 x3:Value} (h:Blk w b t #[x0,x1,x2,x3]) (v0 v1:Value):Blk (set2 w b v0 v1) b t #[v0,v1,x2,x3]:=by
 have hh:=(h.set_ 0 v0).set_ 1 v1;simp only[qd,qh,qi] at hh;exact hh
def set2b (w:World) (b:Nat) (v2 v3:Value):World:=(w.setCell ⟨b,2,none⟩ v2).setCell ⟨b,3,none⟩ v3
theorem set2b_blk4 {w:World} {b:Nat} {t:TypeId} {x0 x1 x2 x3:Value} (h:Blk w b t #[x0,x1,x2,x3]) (v2 v3:Value):Blk (set2b w b v2 v3) b t #[x0,x1,v2,v3]:=by
 have hh:=(h.set_ 2 v2).set_ 3 v3;simp only[qd,qh,qi] at hh;exact hh
theorem set2b_in (w:World) (b:Nat) (v2 v3:Value):SetIn b w (set2b w b v2 v3):=((SetIn.refl b w).set 2 v2).set 3 v3
theorem set3_blk4 {w:World} {b:Nat} {t:TypeId} {x0 x1 x2 x3:Value} (h:Blk w b t #[x0,x1,x2,x3]) (v3:Value):Blk (w.setCell ⟨b,3,none⟩ v3) b t #[x0,x1,x2,v3]:=by
 have hh:=h.set_ 3 v3;simp only[qd,qh,qi] at hh;exact hh
theorem set3_in (w:World) (b:Nat) (v3:Value):SetIn b w (w.setCell ⟨b,3,none⟩ v3):=(SetIn.refl b w).set 3 v3
theorem set3_def (w:World) (b:Nat) (v3:Value):∃ V,w.setCell ⟨b,3,none⟩ v3=V:=⟨_,rfl⟩
set_option maxRecDepth 100000 in
set_option maxHeartbeats 4000000 in
theorem more1_any {ka K:Nat} {t:TabD} {σ:StM} (hok:OkTab K t) (x:IneqD) (hi1:x.lc=0→0≤x.lv∧x.lv<(ka:Int)) (hi2:x.r<(ka:Int)) (hka:ka≤1048576)
 (hg:∀ i:Nat,i<ka→GoodM K t (σ.fm (i:Nat))) (hmu:∀ i:Nat,i<ka→∃ m,σ.mults (i:Nat)=some m) {q:Bool} (hq:sureB t (subQ σ.fm x)=q)
 {p14 p9 b2 n:Nat} {f:Int→Option Value} {A1:Option Addr} {c1:Nat} {A2:Option Addr} {c2:Nat} {A3:Option Addr} {c3:Nat} (w:World) (hst:MoreSt w p14 p9 b2 n K t σ f A1 c1 A2 c2 A3 c3):
 Calls Tryz.prog 94 #[.agg #[.int .i64 x.lv,.int .u8 x.lc,.int .u8 x.c,.int .i64 x.r],.pointer (some ⟨p14,0,none⟩),.pointer (some ⟨p9,0,none⟩)] w fun e w'=>e=.returned (.bool (!q))∧Below w.heap.size w w':=by
 have hmx:=@run_max2 Tryz.prog;obtain⟨lv,lc,c,r⟩:=x;have hsub:=sub_idx (K:=K) (t:=t) hg hi1 hi2;simp only at hi1 hi2 ⊢;have Hrr:=qq hsub;have Hr:=qq hi2;have Hsq:=qq hq;have Hok:=qq hok
 have Hmu:Hid (∀ z:Int,0≤z→z<(ka:Int)→∃ m,σ.mults z=some m):=qq fun z z0 z1=>by
  have:=hmu z.toNat (by omega)
  rwa [show((z.toNat:Nat):Int)=z from Int.toNat_of_nonneg z0] at this
 have hkX:=blk_new w #[.int .i64 lv,.int .u8 lc,.int .u8 c,.int .i64 r] 70;have hbX:=below_box (w:=w) (Obj.cells #[.int .i64 lv,.int .u8 lc,.int .u8 c,.int .i64 r] 70);obtain⟨W,hW⟩:∃ x,w.alloc (Obj.cells #[.int .i64 lv,.int .u8 lc,.int .u8 c,.int .i64 r] 70)=x:=⟨_,rfl⟩;rw[hW] at hkX hbX;have HW:=qq hW;have HkX:=qq hkX;have HbX:=qq hbX;have Hst:=qq hst;have hx0:=hkX.cell 0;have hx1:=hkX.cell 1;simp only[qc,qb,qa] at hx0 hx1
 by_cases hc:lc=0
 · subst hc
   obtain⟨z0,z1⟩:=hi1 rfl;obtain⟨⟨l1,l2⟩,hl⟩:∃ q,subL σ.fm ⟨lv,0,c,r⟩=q:=⟨_,rfl⟩;have Hsl:=qq hl
   have Hl:Hid (l2=0→0≤l1∧l1<(K:Int)):=qq fun h=>by
    have:=hsub.1
    rw[show(subQ σ.fm ⟨lv,0,c,r⟩).lc=(subL σ.fm ⟨lv,0,c,r⟩).2 from rfl,show(subQ σ.fm ⟨lv,0,c,r⟩).lv=(subL σ.fm ⟨lv,0,c,r⟩).1 from rfl,hl] at this
    exact this h
   have hlv:(f lv).getD zM=.agg #[.int .i64 l1,.int .u8 l2]:=by
    obtain⟨m,hm⟩:=Hmu.out lv z0 z1
    have e:σ.fm lv=(l1,l2):=by
     rw[← hl];unfold subL;rw[if_pos rfl]
    unfold StM.fm at e;rw[hm] at e;have e:m=(l1,l2):=e;rw[readM_get hst.rd,hm,e];rfl
   have hwf:(Lit.int .i64 lv).wf=true:=WalkArith.wf_i64 (by omega);have hS:=hst.fresh hbX;have m0:W.cell? ⟨p14,0,none⟩=some (.map (some b2)):=hS.m.cell 0;have Hmap:=qq hS.map;have Hlv:=qq hlv;have f0:=hkX.frozen 0;have f1:=hkX.frozen 1;clear hi1 hi2 hq hok hmu hkX hbX hW hst hl hsub hg hS hlv
   go_enter Tryz.func94,Tryz.ntmps94
   go_upto_region 1 with fail;rw[HW.out]
   go_upto_region 3 with (at_lookup; refine wpList_look_V _ rfl _ _ 105 rfl 3 24 Tryz.underlying3 Tryz.underlying105 (zeroMu_run _) b2 n f rfl Hmap.out lv rfl hwf _ Hlv.out ?_)
   show Code.wp _ _ _ _ (set2 W w.heap.size (.int .i64 l1) (.int .u8 l2));have HX0:=qq (set2_blk4 HkX.out (.int .i64 l1) (.int .u8 l2));have HB0:=qq ((set2_in W w.heap.size (.int .i64 l1) (.int .u8 l2)).bel _ _ (Nat.le_refl _) (Nat.le_refl _) HbX.out);clear hx0 hx1 m0 f0 f1 hwf;generalize set2 W w.heap.size (.int .i64 l1) (.int .u8 l2)=V at HX0 HB0 ⊢
   by_cases hr:0≤r
   · have dr:decide (0≤r)=true:=by simpa using hr
     obtain⟨r1,r2,hrv⟩:∃ r1 r2,(f r).getD zM=.agg #[.int .i64 r1,.int .u8 r2]∧σ.fm r=(r1,r2):=by
      obtain⟨⟨r1,r2⟩,hm⟩:=Hmu.out r hr Hr.out
      exact⟨r1,r2,by rw[readM_get Hst.out.rd,hm]; rfl,by unfold StM.fm; rw[hm]; rfl⟩
     obtain⟨hrv,hfr⟩:=hrv
     have hwf:(Lit.int .i64 r).wf=true:=WalkArith.wf_i64 (by have:=Hr.out; omega)
     have hx3:=(HX0.out).cell 3;simp only[qc,qb,qa] at hx3;have hS:=Hst.out.fresh (HB0.out);have m0:(V).cell? ⟨p14,0,none⟩=some (.map (some b2)):=hS.m.cell 0;have Hmap:=qq hS.map;have Hrv:=qq hrv;have hkY:=blk_new (V) #[.int .i64 r1,.int .u8 r2] 24;have hbY:=below_box (w:=V) (Obj.cells #[.int .i64 r1,.int .u8 r2] 24);obtain⟨U,hU⟩:∃ x,(V).alloc (Obj.cells #[.int .i64 r1,.int .u8 r2] 24)=x:=⟨_,rfl⟩;rw[hU] at hkY hbY;have HU:=qq hU;have HbU:=qq ((HB0.out).trans (hbY.mono (HB0.out).size));have HkU:=qq ((HX0.out).below hbY (HX0.out).lt);have y0:U.cell? ⟨(V).heap.size,0,none⟩=some (.int .i64 r1):=hkY.cell 0;have y1:U.cell? ⟨(V).heap.size,1,none⟩=some (.int .u8 r2):=hkY.cell 1;have u2:U.cell? ⟨w.heap.size,2,none⟩=some (.int .u8 c):=HkU.out.cell 2;have Hfr:=qq hfr;clear hkY hbY hU hS hrv hfr
     go_upto_region 5 with (at_lookup; refine wpList_look_V _ rfl _ _ 105 rfl 3 24 Tryz.underlying3 Tryz.underlying105 (zeroMu_run _) b2 n f rfl Hmap.out r rfl hwf _ Hrv.out ?_)
     rw[HU.out];clear hx3 m0;have f2:=HkU.out.frozen 2;have f3:=HkU.out.frozen 3;have h3:U.cell? ⟨w.heap.size,3,none⟩=some (.int .i64 r):=HkU.out.cell 3
     by_cases h0:r2=0
     · subst h0
       have hqe:subR σ.fm ⟨lv,0,c,r⟩=(c,r1):=by unfold subR; rw[if_pos hr,Hfr.out,if_pos rfl]
       have HX:=qq (set3_blk4 HkU.out (.int .i64 r1));have HBX:=qq ((set3_in U w.heap.size (.int .i64 r1)).bel _ _ (Nat.le_refl _) (Nat.le_refl _) HbU.out);have Hi1:Hid ((IneqD.mk (l1) (l2) c r1).lc=0→0≤(l1)∧(l1)<(K:Int)):=qq fun h=>Hl.out h
       have Hi2:Hid (r1<(K:Int)):=qq (by have:=Hrr.out.2 (.inl hr); rw[show(subQ σ.fm ⟨lv,0,c,r⟩).r=(subR σ.fm ⟨lv,0,c,r⟩).2 from rfl,hqe] at this; exact this)
       have Hqs:Hid (sureB t ⟨l1,l2,c,r1⟩=q):=qq (by rw[← Hsq.out]; unfold subQ; rw[Hsl.out,hqe])
       clear hqe hr;go_upto_region 8 with fail;clear f2 f3 h3 u2 y0 y1 dr;obtain⟨V9,hV9⟩:=set3_def U w.heap.size (.int .i64 r1);rw[hV9] at HX HBX ⊢;have hz0:=(HX.out).cell 0;have hz1:=(HX.out).cell 1;have hz2:=(HX.out).cell 2;have hz3:=(HX.out).cell 3;simp only[qc,qb,qa] at hz0 hz1 hz2 hz3;have hS:=Hst.out.fresh (HBX.out);have g0:=hS.tb.cell 0;have g1:=hS.tb.cell 1;have g2:=hS.tb.cell 2;simp only[qc,qb,qa] at g0 g1 g2;have Hq:=qq (sure_any Hok.out ⟨l1,l2,c,r1⟩ Hi1.out Hi2.out Hqs.out _ V9 ⟨A1,c1,A2,c2,A3,c3,rfl,hS.l,hS.u,hS.p⟩);have HbE:=qq (HBX.out);clear hS;go_wp2_with fail;refine Hq.out.mono ?_;rintro e wE ⟨rfl,hbE⟩;have HbF:=qq (HbE.out.trans (hbE.mono HbE.out.size));clear hbE hz0 hz1 hz2 hz3 g0 g1 g2;go_wp2_with fail;go_ret;exact⟨rfl,HbF.out⟩
     · have d0:(r2 != 0)=true:=by simpa using h0
       have hqe:subR σ.fm ⟨lv,0,c,r⟩=(max c r2, -1):=by unfold subR; rw[if_pos hr,Hfr.out,if_neg h0]
       obtain⟨q1,hq1⟩:∃ q,max c r2=q:=⟨_,rfl⟩;obtain⟨q2,hq2⟩:∃ q:Int, -1=q:=⟨_,rfl⟩;rw[hq1,hq2] at hqe;have HX:=qq (set2b_blk4 HkU.out (.int .u8 q1) (.int .i64 q2));have HBX:=qq ((set2b_in U w.heap.size (.int .u8 q1) (.int .i64 q2)).bel _ _ (Nat.le_refl _) (Nat.le_refl _) HbU.out);have Hi1:Hid ((IneqD.mk (l1) (l2) q1 q2).lc=0→0≤(l1)∧(l1)<(K:Int)):=qq fun h=>Hl.out h
       have Hi2:Hid (q2<(K:Int)):=qq (by have:=Hrr.out.2 (.inl hr); rw[show(subQ σ.fm ⟨lv,0,c,r⟩).r=(subR σ.fm ⟨lv,0,c,r⟩).2 from rfl,hqe] at this; exact this)
       have Hqs:Hid (sureB t ⟨l1,l2,q1,q2⟩=q):=qq (by rw[← Hsq.out]; unfold subQ; rw[Hsl.out,hqe])
       have Hq1:=qq hq1;have Hq2:=qq hq2;clear hqe hr h0 hq1 hq2;go_upto_region 8 with fail;rw[Hq1.out,Hq2.out];clear f2 f3 h3 u2 y0 y1 d0 dr;show Code.wp _ _ _ _ (set2b U w.heap.size (.int .u8 q1) (.int .i64 q2));generalize set2b U w.heap.size (.int .u8 q1) (.int .i64 q2)=V9 at HX HBX ⊢;have hz0:=(HX.out).cell 0;have hz1:=(HX.out).cell 1;have hz2:=(HX.out).cell 2;have hz3:=(HX.out).cell 3;simp only[qc,qb,qa] at hz0 hz1 hz2 hz3;have hS:=Hst.out.fresh (HBX.out);have g0:=hS.tb.cell 0;have g1:=hS.tb.cell 1;have g2:=hS.tb.cell 2;simp only[qc,qb,qa] at g0 g1 g2;have Hq:=qq (sure_any Hok.out ⟨l1,l2,q1,q2⟩ Hi1.out Hi2.out Hqs.out _ V9 ⟨A1,c1,A2,c2,A3,c3,rfl,hS.l,hS.u,hS.p⟩);have HbE:=qq (HBX.out);clear hS;go_wp2_with fail;refine Hq.out.mono ?_;rintro e wE ⟨rfl,hbE⟩;have HbF:=qq (HbE.out.trans (hbE.mono HbE.out.size));clear hbE hz0 hz1 hz2 hz3 g0 g1 g2;go_wp2_with fail;go_ret;exact⟨rfl,HbF.out⟩
   · have dr:decide (0≤r)=false:=by simpa using hr
     have hqe:subR σ.fm ⟨lv,0,c,r⟩=(c,r):=by unfold subR; rw[if_neg hr]
     obtain⟨q1,hq1⟩:∃ q,c=q:=⟨_,rfl⟩;obtain⟨q2,hq2⟩:∃ q,r=q:=⟨_,rfl⟩;have Hi1:Hid ((IneqD.mk (l1) (l2) q1 q2).lc=0→0≤(l1)∧(l1)<(K:Int)):=qq fun h=>Hl.out h
     have Hi2:Hid (q2<(K:Int)):=qq (by rw[← hq2]; omega)
     have Hqs:Hid (sureB t ⟨l1,l2,q1,q2⟩=q):=qq (by rw[← Hsq.out]; unfold subQ; rw[Hsl.out,hqe,hq1,hq2])
     subst hq1; subst hq2
     have hx3:=(HX0.out).cell 3;simp only[qc,qb,qa] at hx3;clear hqe hr;go_upto_region 8 with fail;clear hx3 dr;have hz0:=(HX0.out).cell 0;have hz1:=(HX0.out).cell 1;have hz2:=(HX0.out).cell 2;have hz3:=(HX0.out).cell 3;simp only[qc,qb,qa] at hz0 hz1 hz2 hz3;have hS:=Hst.out.fresh (HB0.out);have g0:=hS.tb.cell 0;have g1:=hS.tb.cell 1;have g2:=hS.tb.cell 2;simp only[qc,qb,qa] at g0 g1 g2;have Hq:=qq (sure_any Hok.out ⟨l1,l2,c,r⟩ Hi1.out Hi2.out Hqs.out _ V ⟨A1,c1,A2,c2,A3,c3,rfl,hS.l,hS.u,hS.p⟩);have HbE:=qq (HB0.out);clear hS;go_wp2_with fail;refine Hq.out.mono ?_;rintro e wE ⟨rfl,hbE⟩;have HbF:=qq (HbE.out.trans (hbE.mono HbE.out.size));clear hbE hz0 hz1 hz2 hz3 g0 g1 g2;go_wp2_with fail;go_ret;exact⟨rfl,HbF.out⟩
 · have dc:(lc==0)=false:=by simpa using hc
   have hl:subL σ.fm ⟨lv,lc,c,r⟩=(lv,lc):=by unfold subL; rw[if_neg hc]
   have Hsl:=qq hl;have Hl:Hid (lc=0→0≤lv∧lv<(K:Int)):=qq fun h=>absurd h hc;clear hi1 hi2 hq hok hmu hkX hbX hW hst hl hsub hg hc
   go_enter Tryz.func94,Tryz.ntmps94
   go_upto_region 1 with fail;rw[HW.out];go_upto_region 3 with fail;clear hx0 hx1 dc
   by_cases hr:0≤r
   · have dr:decide (0≤r)=true:=by simpa using hr
     obtain⟨r1,r2,hrv⟩:∃ r1 r2,(f r).getD zM=.agg #[.int .i64 r1,.int .u8 r2]∧σ.fm r=(r1,r2):=by
      obtain⟨⟨r1,r2⟩,hm⟩:=Hmu.out r hr Hr.out
      exact⟨r1,r2,by rw[readM_get Hst.out.rd,hm]; rfl,by unfold StM.fm; rw[hm]; rfl⟩
     obtain⟨hrv,hfr⟩:=hrv
     have hwf:(Lit.int .i64 r).wf=true:=WalkArith.wf_i64 (by have:=Hr.out; omega)
     have hx3:=(HkX.out).cell 3;simp only[qc,qb,qa] at hx3;have hS:=Hst.out.fresh (HbX.out);have m0:(W).cell? ⟨p14,0,none⟩=some (.map (some b2)):=hS.m.cell 0;have Hmap:=qq hS.map;have Hrv:=qq hrv;have hkY:=blk_new (W) #[.int .i64 r1,.int .u8 r2] 24;have hbY:=below_box (w:=W) (Obj.cells #[.int .i64 r1,.int .u8 r2] 24);obtain⟨U,hU⟩:∃ x,(W).alloc (Obj.cells #[.int .i64 r1,.int .u8 r2] 24)=x:=⟨_,rfl⟩;rw[hU] at hkY hbY;have HU:=qq hU;have HbU:=qq ((HbX.out).trans (hbY.mono (HbX.out).size));have HkU:=qq ((HkX.out).below hbY (HkX.out).lt);have y0:U.cell? ⟨(W).heap.size,0,none⟩=some (.int .i64 r1):=hkY.cell 0;have y1:U.cell? ⟨(W).heap.size,1,none⟩=some (.int .u8 r2):=hkY.cell 1;have u2:U.cell? ⟨w.heap.size,2,none⟩=some (.int .u8 c):=HkU.out.cell 2;have Hfr:=qq hfr;clear hkY hbY hU hS hrv hfr
     go_upto_region 5 with (at_lookup; refine wpList_look_V _ rfl _ _ 105 rfl 3 24 Tryz.underlying3 Tryz.underlying105 (zeroMu_run _) b2 n f rfl Hmap.out r rfl hwf _ Hrv.out ?_)
     rw[HU.out];clear hx3 m0;have f2:=HkU.out.frozen 2;have f3:=HkU.out.frozen 3;have h3:U.cell? ⟨w.heap.size,3,none⟩=some (.int .i64 r):=HkU.out.cell 3
     by_cases h0:r2=0
     · subst h0
       have hqe:subR σ.fm ⟨lv,lc,c,r⟩=(c,r1):=by unfold subR; rw[if_pos hr,Hfr.out,if_pos rfl]
       have HX:=qq (set3_blk4 HkU.out (.int .i64 r1));have HBX:=qq ((set3_in U w.heap.size (.int .i64 r1)).bel _ _ (Nat.le_refl _) (Nat.le_refl _) HbU.out);have Hi1:Hid ((IneqD.mk (lv) (lc) c r1).lc=0→0≤(lv)∧(lv)<(K:Int)):=qq fun h=>Hl.out h
       have Hi2:Hid (r1<(K:Int)):=qq (by have:=Hrr.out.2 (.inl hr); rw[show(subQ σ.fm ⟨lv,lc,c,r⟩).r=(subR σ.fm ⟨lv,lc,c,r⟩).2 from rfl,hqe] at this; exact this)
       have Hqs:Hid (sureB t ⟨lv,lc,c,r1⟩=q):=qq (by rw[← Hsq.out]; unfold subQ; rw[Hsl.out,hqe])
       clear hqe hr;go_upto_region 8 with fail;clear f2 f3 h3 u2 y0 y1 dr;obtain⟨V9,hV9⟩:=set3_def U w.heap.size (.int .i64 r1);rw[hV9] at HX HBX ⊢;have hz0:=(HX.out).cell 0;have hz1:=(HX.out).cell 1;have hz2:=(HX.out).cell 2;have hz3:=(HX.out).cell 3;simp only[qc,qb,qa] at hz0 hz1 hz2 hz3;have hS:=Hst.out.fresh (HBX.out);have g0:=hS.tb.cell 0;have g1:=hS.tb.cell 1;have g2:=hS.tb.cell 2;simp only[qc,qb,qa] at g0 g1 g2;have Hq:=qq (sure_any Hok.out ⟨lv,lc,c,r1⟩ Hi1.out Hi2.out Hqs.out _ V9 ⟨A1,c1,A2,c2,A3,c3,rfl,hS.l,hS.u,hS.p⟩);have HbE:=qq (HBX.out);clear hS;go_wp2_with fail;refine Hq.out.mono ?_;rintro e wE ⟨rfl,hbE⟩;have HbF:=qq (HbE.out.trans (hbE.mono HbE.out.size));clear hbE hz0 hz1 hz2 hz3 g0 g1 g2;go_wp2_with fail;go_ret;exact⟨rfl,HbF.out⟩
     · have d0:(r2 != 0)=true:=by simpa using h0
       have hqe:subR σ.fm ⟨lv,lc,c,r⟩=(max c r2, -1):=by unfold subR; rw[if_pos hr,Hfr.out,if_neg h0]
       obtain⟨q1,hq1⟩:∃ q,max c r2=q:=⟨_,rfl⟩;obtain⟨q2,hq2⟩:∃ q:Int, -1=q:=⟨_,rfl⟩;rw[hq1,hq2] at hqe;have HX:=qq (set2b_blk4 HkU.out (.int .u8 q1) (.int .i64 q2));have HBX:=qq ((set2b_in U w.heap.size (.int .u8 q1) (.int .i64 q2)).bel _ _ (Nat.le_refl _) (Nat.le_refl _) HbU.out);have Hi1:Hid ((IneqD.mk (lv) (lc) q1 q2).lc=0→0≤(lv)∧(lv)<(K:Int)):=qq fun h=>Hl.out h
       have Hi2:Hid (q2<(K:Int)):=qq (by have:=Hrr.out.2 (.inl hr); rw[show(subQ σ.fm ⟨lv,lc,c,r⟩).r=(subR σ.fm ⟨lv,lc,c,r⟩).2 from rfl,hqe] at this; exact this)
       have Hqs:Hid (sureB t ⟨lv,lc,q1,q2⟩=q):=qq (by rw[← Hsq.out]; unfold subQ; rw[Hsl.out,hqe])
       have Hq1:=qq hq1;have Hq2:=qq hq2;clear hqe hr h0 hq1 hq2;go_upto_region 8 with fail;rw[Hq1.out,Hq2.out];clear f2 f3 h3 u2 y0 y1 d0 dr;show Code.wp _ _ _ _ (set2b U w.heap.size (.int .u8 q1) (.int .i64 q2));generalize set2b U w.heap.size (.int .u8 q1) (.int .i64 q2)=V9 at HX HBX ⊢;have hz0:=(HX.out).cell 0;have hz1:=(HX.out).cell 1;have hz2:=(HX.out).cell 2;have hz3:=(HX.out).cell 3;simp only[qc,qb,qa] at hz0 hz1 hz2 hz3;have hS:=Hst.out.fresh (HBX.out);have g0:=hS.tb.cell 0;have g1:=hS.tb.cell 1;have g2:=hS.tb.cell 2;simp only[qc,qb,qa] at g0 g1 g2;have Hq:=qq (sure_any Hok.out ⟨lv,lc,q1,q2⟩ Hi1.out Hi2.out Hqs.out _ V9 ⟨A1,c1,A2,c2,A3,c3,rfl,hS.l,hS.u,hS.p⟩);have HbE:=qq (HBX.out);clear hS;go_wp2_with fail;refine Hq.out.mono ?_;rintro e wE ⟨rfl,hbE⟩;have HbF:=qq (HbE.out.trans (hbE.mono HbE.out.size));clear hbE hz0 hz1 hz2 hz3 g0 g1 g2;go_wp2_with fail;go_ret;exact⟨rfl,HbF.out⟩
   · have dr:decide (0≤r)=false:=by simpa using hr
     have hqe:subR σ.fm ⟨lv,lc,c,r⟩=(c,r):=by unfold subR; rw[if_neg hr]
     obtain⟨q1,hq1⟩:∃ q,c=q:=⟨_,rfl⟩;obtain⟨q2,hq2⟩:∃ q,r=q:=⟨_,rfl⟩;have Hi1:Hid ((IneqD.mk (lv) (lc) q1 q2).lc=0→0≤(lv)∧(lv)<(K:Int)):=qq fun h=>Hl.out h
     have Hi2:Hid (q2<(K:Int)):=qq (by rw[← hq2]; omega)
     have Hqs:Hid (sureB t ⟨lv,lc,q1,q2⟩=q):=qq (by rw[← Hsq.out]; unfold subQ; rw[Hsl.out,hqe,hq1,hq2])
     subst hq1; subst hq2
     have hx3:=(HkX.out).cell 3;simp only[qc,qb,qa] at hx3;clear hqe hr;go_upto_region 8 with fail;clear hx3 dr;have hz0:=(HkX.out).cell 0;have hz1:=(HkX.out).cell 1;have hz2:=(HkX.out).cell 2;have hz3:=(HkX.out).cell 3;simp only[qc,qb,qa] at hz0 hz1 hz2 hz3;have hS:=Hst.out.fresh (HbX.out);have g0:=hS.tb.cell 0;have g1:=hS.tb.cell 1;have g2:=hS.tb.cell 2;simp only[qc,qb,qa] at g0 g1 g2;have Hq:=qq (sure_any Hok.out ⟨lv,lc,c,r⟩ Hi1.out Hi2.out Hqs.out _ W ⟨A1,c1,A2,c2,A3,c3,rfl,hS.l,hS.u,hS.p⟩);have HbE:=qq (HbX.out);clear hS;go_wp2_with fail;refine Hq.out.mono ?_;rintro e wE ⟨rfl,hbE⟩;have HbF:=qq (HbE.out.trans (hbE.mono HbE.out.size));clear hbE hz0 hz1 hz2 hz3 g0 g1 g2;go_wp2_with fail;go_ret;exact⟨rfl,HbF.out⟩
set_option maxRecDepth 100000 in
set_option maxHeartbeats 1000000 in
theorem indexMo_any (p:IneqD→Bool) (p14 p9:Nat) (A:Option Addr) (nl c:Nat) (xs:List IneqD) (w:World) (hr:IneqsV w w.heap.size A nl c xs)
 (he:∀ x∈xs,∀ w',Below w.heap.size w w'→Calls Tryz.prog 94 #[.agg #[.int .i64 x.lv,.int .u8 x.lc,.int .u8 x.c,.int .i64 x.r],.pointer (some ⟨p14,0,none⟩),.pointer (some ⟨p9,0,none⟩)] w' fun e w''=>e=.returned (.bool (p x))∧Below w'.heap.size w' w''):
 Calls Tryz.prog 128 #[.slice A nl c,.func (.func 94) #[] #[.pointer (some ⟨p14,0,none⟩),.pointer (some ⟨p9,0,none⟩)]] w fun e w'=>∃ z:Int,e=.returned (.int .i64 z)∧decide (z≥0)=xs.any p∧Below w.heap.size w w':=by
 have hlen:=hr.len;have hcm:=hr.2.2.1;have hnc:=hr.2.1;have Hr:=qq hr;have He:=qq he;clear hr he;unfold maxLen at hcm
 go_enter Tryz.func128,Tryz.ntmps128
 go_wp2_with fail
 go_loopg [5,8] nl (fun g _ i wr=>∃ k:Nat,k≤nl∧g=nl - k∧i=.int .i64 k∧(∀ j (h:j<xs.length),j<k→p xs[j]=false)∧Below w.heap.size w wr)
 case atStart=>exact⟨0,Nat.zero_le _,rfl,rfl,fun j _ h=>absurd h (by omega),Below.refl _ _⟩
 case round=>
  obtain⟨k,hk,rfl,rfl,hno,hbel⟩:=hrel;have Hno:=qq hno;have Hbel:=qq hbel;clear hno
  by_cases hlt:k<nl
  · obtain⟨b',off,rfl,hb',hcell⟩:=(Hr.out.below hbel).at_ (by omega)
    have hk':k<xs.length:=by omega
    obtain⟨e0,e1,e2,e3⟩:=hcell k hk';have hq:=He.out xs[k] (List.getElem_mem hk') wr hbel;generalize hx:xs[k]=x at e0 e1 e2 e3 hq;have Hx:=qq hx;have Hq:=qq hq
    have i1:(0:Int)≤(k:Int):=by omega
    have i2:(k:Int)<nl:=by omega
    clear hcell hq hx hbel;go_wp2_with fail
    refine Hq.out.mono ?_; rintro e w1 ⟨rfl,hb1⟩
    have hw1:=Hbel.out.trans (hb1.mono Hbel.out.size)
    cases hm:p x
    · have Hm:=qq hm
      clear hm hb1;go_wp2_with fail;go_roundg (nl - (k+1))
      case measure=>omega
      case rel=>
       refine⟨k+1,by omega,rfl,by go_num,fun j hj hjk=>?_,hw1⟩
       rcases Nat.lt_or_ge j k with h | h
       · exact Hno.out j hj h
       · have:j=k:=by omega
         subst this
         rw[Hx.out]; exact Hm.out
    · have HF:Hid (xs.any p=true):=List.any_eq_true.2 ⟨_,List.getElem_mem hk',by rw[Hx.out,hm]⟩
      clear hm hb1;go_wp2_with fail;go_ret
      exact⟨_,rfl,by rw[HF.out]; simp,hw1⟩
  · have HF:Hid (xs.any p=false):=by
     show _=_;rw[List.any_eq_false];intro x hx;obtain⟨j,hj,rfl⟩:=List.getElem_of_mem hx
     rw[Hno.out j hj (by omega)]; simp
    clear hbel;go_wp2_with fail;go_ret
    exact⟨-1,rfl,by rw[HF.out]; simp,Hbel.out⟩
theorem containsMo_any (p:IneqD→Bool) (p14 p9:Nat) (A:Option Addr) (nl c:Nat) (xs:List IneqD) (w:World) (hr:IneqsV w w.heap.size A nl c xs)
 (he:∀ x∈xs,∀ w',Below w.heap.size w w'→Calls Tryz.prog 94 #[.agg #[.int .i64 x.lv,.int .u8 x.lc,.int .u8 x.c,.int .i64 x.r],.pointer (some ⟨p14,0,none⟩),.pointer (some ⟨p9,0,none⟩)] w' fun e w''=>e=.returned (.bool (p x))∧Below w'.heap.size w' w''):
 Calls Tryz.prog 78 #[.slice A nl c,.func (.func 94) #[] #[.pointer (some ⟨p14,0,none⟩),.pointer (some ⟨p9,0,none⟩)]] w fun e w'=>e=.returned (.bool (xs.any p))∧Below w.heap.size w w':=by
 go_enter Tryz.func78,Tryz.ntmps78
 go_wp2_with fail
 refine(indexMo_any p p14 p9 A nl c xs _ hr he).mono ?_; rintro e w1 ⟨z,rfl,hz,hb1⟩
 have HZ:=qq hz;clear hz;go_wp2_with fail;go_ret
 exact⟨by rw[← HZ.out]; rfl,hb1⟩
set_option maxRecDepth 100000 in
set_option maxHeartbeats 4000000 in
theorem schMay_any (s:SchD) (v:Value) (w:World) (hv:SchV w w.heap.size v s):
 Calls Tryz.prog 15 #[v] w fun e w'=>∃ er:Int,e=.returned (.int .i64 er)∧(er=0↔OkSch s)∧Below w.heap.size w w':=by
 obtain⟨A,m,cp,A1,c1,A2,c2,A3,c3,rfl,hr⟩:=hv;have hk:=blk_new w (cellsS s A m cp A1 c1 A2 c2 A3 c3) 40;have hb:=below_box (w:=w) (Obj.cells (cellsS s A m cp A1 c1 A2 c2 A3 c3) 40);obtain⟨W,hW⟩:∃ x,w.alloc (Obj.cells (cellsS s A m cp A1 c1 A2 c2 A3 c3) 40)=x:=⟨_,rfl⟩;rw[hW] at hk hb;unfold cellsS at hW;have HW:=qq hW;have HK:=qq hk;have Hb:=qq hb;have HR:=qq (hr.fresh hb);obtain⟨x0,x1,x2,x3,x4,x5,x6,x7,x8,x9⟩:=box_cells hk;rw[← HW.out] at x2 x3 x4 x5 x6
 have z1:s.tab.low.length≤9223372036854775807:=by have:=hr.low.2.1; have:=hr.low.2.2; unfold maxLen at *; have:=hr.low.len; omega
 clear hW hk hb hr x0 x1 x7 x8 x9;unfold cellsS
 go_enter Tryz.func15,Tryz.ntmps15
 go_wp2_with fail;rw[HW.out];refine(tyMay_any s.t _ W ⟨A,m,cp,rfl,HR.out.ty⟩).mono ?_;rintro e w1 ⟨rfl,hb1⟩;have HR1:=qq (HR.out.fresh hb1);have HK1:=qq (HK.out.below hb1 HK.out.lt);have Hb1:=qq (Hb.out.trans (hb1.mono Hb.out.size));obtain⟨y0,y1,y2,y3,y4,y5,y6,y7,y8,y9⟩:=box_cells HK1.out;clear x2 x3 x4 x5 x6 hb1 HW y0 y1 y7 y8 y9
 by_cases hmay:mayTE s.t=0
 · rw[hmay]
   have Hmay:=qq hmay;clear hmay;go_wp2_with fail;refine(canon_any s.t (mayTE_may Hmay.out) A m cp w1 HR1.out.ty).mono ?_;rintro e w2 ⟨Ac,mc,cc,B1,n1,e1,B2,n2,e2,rfl,hty,hl1,hl2,hb2⟩;have hn1:=hl1.len;have hn2:=hl2.len;have Hn1:=qq hn1;have Hn2:=qq hn2;have n63:n1≤9223372036854775807:=Nat.le_trans hl1.2.1 hl1.2.2;have n63':n2≤9223372036854775807:=Nat.le_trans hl2.2.1 hl2.2.2;clear y2 y3 y4 y5 y6 hl1 hl2 hn1 hn2;have hbx:=below_box (w:=w2) (Obj.cells #[.int .u8 (canT s.t).k,.int .i64 (canT s.t).n,.int .i64 (canT s.t).v,.int .u8 (canT s.t).c,.slice Ac mc cc] 27);have hkx:=blk_new w2 #[.int .u8 (canT s.t).k,.int .i64 (canT s.t).n,.int .i64 (canT s.t).v,.int .u8 (canT s.t).c,.slice Ac mc cc] 27;obtain⟨w3,hw3⟩:∃ x,w2.alloc (Obj.cells #[.int .u8 (canT s.t).k,.int .i64 (canT s.t).n,.int .i64 (canT s.t).v,.int .u8 (canT s.t).c,.slice Ac mc cc] 27)=x:=⟨_,rfl⟩;rw[hw3] at hbx hkx;have hb13:=hb2.trans (hbx.mono hb2.size);have Hw3:=qq hw3;have Hty3:=qq ((hty.below hbx).more hbx.size);have HR3:=qq (HR1.out.fresh hb13);have HK3:=qq (HK1.out.below hb13 HK1.out.lt);have Hb3:=qq (Hb1.out.trans (hb13.mono Hb1.out.size));have z0:=hkx.cell 0;have z1':=hkx.cell 1;have z2:=hkx.cell 2;have z3:=hkx.cell 3;have z4:=hkx.cell 4;simp only[qc,qb,qa] at z0 z1' z2 z3 z4;clear hbx hkx hb13 hw3 hty hb2;obtain⟨y0,y1,y2,y3,y4,y5,y6,y7,y8,y9⟩:=box_cells HK3.out;clear y0 y1 y7 y8 y9;obtain⟨r,hsr⟩:∃ r,sameT (canT s.t) s.t=r:=⟨_,rfl⟩;have Hsr:=qq hsr;clear hsr;go_upto_region 5 with fail;rw[Hw3.out];go_wp2_with fail;refine(same_go (nodes (canT s.t)) (canT s.t) s.t (Nat.le_refl _) Ac mc cc A m cp w3 Hty3.out HR3.out.ty).mono ?_;rw[Hsr.out];rintro e w4 ⟨rfl,hb4⟩;have HR4:=qq (HR3.out.fresh hb4);have HK4:=qq (HK3.out.below hb4 HK3.out.lt);have Hb4:=qq (Hb3.out.trans (hb4.mono Hb3.out.size));clear z0 z1' z2 z3 z4 y2 y3 y4 y5 y6 hb4
   cases r with
   | false=>
     have Hno:Hid (¬ OkSch s):=qq fun h=>by
      have:=Hsr.out;rw[h.can,(sameT_iff s.t s.t).2 rfl] at this
      cases this
     go_wp2_with fail;go_ret;exact⟨2,rfl,⟨fun h=>absurd h (by decide),fun h=>absurd h Hno.out⟩,Hb4.out⟩
   | true=>
     have hcan:canT s.t=s.t:=(sameT_iff _ _).1 Hsr.out;have Hcan:=qq hcan;clear hcan;obtain⟨y0,y1,y2,y3,y4,y5,y6,y7,y8,y9⟩:=box_cells HK4.out;clear y2 y3 y4 y5 y6
     by_cases q1:s.types=(n1:Int)
     · have d1:(s.types != (n1:Int))=false:=by rw[q1]; simp
       by_cases q2:s.mults=(n2:Int)
       · have d2:(s.mults != (n2:Int))=false:=by rw[q2]; simp
         have Q1:=qq q1;have Q2:=qq q2;clear q1 q2;go_wp2_with fail;refine(tabMay_any s.tab _ w4 HR4.out.tab).mono ?_;rintro e w5 ⟨er,rfl,hiff,hb5⟩;have HK5:=qq (HK4.out.below hb5 HK4.out.lt);have Hb5:=qq (Hb4.out.trans (hb5.mono Hb4.out.size));have Hiff:=qq hiff;clear y0 y1 y7 y8 y9 hb5 d1 d2 hiff
         by_cases her:er=0
         · subst her
           have hot:=Hiff.out.1 rfl;have Hot:=qq hot;clear hot;obtain⟨y0,y1,y2,y3,y4,y5,y6,y7,y8,y9⟩:=box_cells HK5.out;clear y0 y2 y3 y4 y5 y6 y8 y9
           by_cases q3:(s.tab.low.length:Int)=s.mults
           · have d3:((s.tab.low.length:Int) != s.mults)=false:=by rw[q3]; simp
             have Hyes:Hid (OkSch s):=qq ⟨Hmay.out,Hcan.out,by rw[Q1.out,← Hn1.out],by rw[Q2.out,← Hn2.out],by
              have hl:(multsT s.t).length=s.tab.low.length:=by have:=Q2.out; have:=Hn2.out; omega
              rw[hl]; exact Hot.out⟩
             clear q3;go_wp2_with fail;go_ret;exact⟨0,rfl,⟨fun _=>Hyes.out,fun _=>rfl⟩,Hb5.out⟩
           · have d3:((s.tab.low.length:Int) != s.mults)=true:=by simpa using q3
             have Hno:Hid (¬ OkSch s):=qq fun h=>q3 (by rw[h.tab.ll,h.mu]);clear q3;go_wp2_with fail;go_ret;exact⟨2,rfl,⟨fun h=>absurd h (by decide),fun h=>absurd h Hno.out⟩,Hb5.out⟩
         · have de:(er != 0)=true:=by simpa using her
           have Hno:Hid (¬ OkSch s):=qq fun h=>her (Hiff.out.2 (by rw[h.tab.ll]; exact h.tab))
           have Her:=qq her;clear her;go_wp2_with fail;go_ret;exact⟨er,rfl,⟨fun h=>absurd h Her.out,fun h=>absurd h Hno.out⟩,Hb5.out⟩
       · have d2:(s.mults != (n2:Int))=true:=by simpa using q2
         have Hno:Hid (¬ OkSch s):=qq fun h=>q2 (by rw[h.mu,Hn2.out]);clear q1 q2;go_wp2_with fail;go_ret;exact⟨2,rfl,⟨fun h=>absurd h (by decide),fun h=>absurd h Hno.out⟩,Hb4.out⟩
     · have d1:(s.types != (n1:Int))=true:=by simpa using q1
       have Hno:Hid (¬ OkSch s):=qq fun h=>q1 (by rw[h.ty,Hn1.out]);clear q1;go_wp2_with fail;go_ret;exact⟨2,rfl,⟨fun h=>absurd h (by decide),fun h=>absurd h Hno.out⟩,Hb4.out⟩
 · have dm:(mayTE s.t != 0)=true:=by simpa using hmay
   have Hmay:=qq hmay;have Hno:Hid (¬ OkSch s):=qq fun h=>hmay h.may;clear hmay;go_wp2_with fail;go_ret;exact⟨mayTE s.t,rfl,⟨fun h=>absurd h Hmay.out,fun h=>absurd h Hno.out⟩,Hb1.out⟩
end Go.Proofs.YtdmakpmbknindaaGreatDoor
