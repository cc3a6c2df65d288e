/- SchemeKnown holds: the document's examples of schemes. Conditions: the variables that the row lists are laid as the program's text lays them. -/
import Derived.Test.YtdmakpmbknindaaGreatDoorM1
import Derived.Test.YtdmakpmbknindaaGreatDoorM41
import Derived.Test.YtdmakpmbknindaaGreatDoorM26
namespace Go.Proofs.YtdmakpmbknindaaGreatDoor
set_option linter.unusedVariables false
set_option linter.unusedSimpArgs false
open Go.ChangeShapes Go.WideShapes Go.ChangeAt Go.RowKit
set_option maxRecDepth 100000 in
set_option maxHeartbeats 16000000 in
theorem walk_schemeKnown {w:World} (ht:Tab w):Calls Tryz.prog 6 #[] w fun e w'=>e=.returned (.bool true)∧Below w.heap.size w w':=by
  have Ht:=qq ht;clear ht;have hk0:=blk_new w #[.int .i64 0,.int .u8 1] 24;have hb0:=below_box (w:=w) (Obj.cells #[.int .i64 0,.int .u8 1] 24);obtain⟨W0,hW0⟩:∃ x,w.alloc (Obj.cells #[.int .i64 0,.int .u8 1] 24)=x:=⟨_,rfl⟩;rw[hW0] at hk0 hb0;have HW0:=qq hW0;have HK0:=qq hk0;have HB0:=qq hb0;clear hk0 hb0 hW0
  go_enter Tryz.func6,Tryz.ntmps6
  go_upto_region 2 with fail;rw[HW0.out];go_wp2_with fail
  refine(v8_any 5 W0).mono ?_; rintro e w1 ⟨A1,m1,p1,rfl,h1,hb1⟩
  go_wp2_with fail
  refine(v8_any 5 w1).mono ?_; rintro e w2 ⟨A2,m2,p2,rfl,h2,hb2⟩
  have h1':=h1.empty (w':=w2) (B':=w2.heap.size);go_wp2_with fail
  refine(fun8_any (plainV 5) (plainV 5) (by decide +kernel) (by decide +kernel) 0 0 A1 m1 p1 A2 m2 p2 w2 h1' h2).mono ?_; rintro e w3 ⟨A3,m3,p3,rfl,h3,hb3⟩
  have hb:=((hb1.trans (hb2.mono hb1.size)).trans (hb3.mono (Nat.le_trans hb1.size hb2.size)));have HbA:=qq (HB0.out.trans (hb.mono HB0.out.size));have HbA0:=qq hb;have H3:=qq h3;clear hb1 hb2 hb3 hb h1 h1' h2 h3;go_wp2_with fail;refine(close_any aT A3 m3 p3 1 none 0 0 [] w3 H3.out IneqsV.nil).mono ?_;rintro e w4 ⟨v,s,er,rfl,hv,hR,hb4⟩;obtain⟨rfl,rfl⟩:=closeA hR;obtain⟨Aa,ma,ca,D1,d1,D2,d2,D3,d3,hve,ra⟩:=hv;subst hve;have hb4':=HbA.out.trans (hb4.mono HbA.out.size);have hb40:=HbA0.out.trans (hb4.mono HbA0.out.size);have HB40:=qq hb40;have hk:=blk_new w4 (cellsS aS Aa ma ca D1 d1 D2 d2 D3 d3) 40;have hb:=below_box (w:=w4) (Obj.cells (cellsS aS Aa ma ca D1 d1 D2 d2 D3 d3) 40);obtain⟨ga,hg⟩:∃ g,(w4).heap.size=g:=⟨_,rfl⟩;obtain⟨W1,hW⟩:∃ x,(w4).alloc (Obj.cells (cellsS aS Aa ma ca D1 d1 D2 d2 D3 d3) 40)=x:=⟨_,rfl⟩;rw[hW,hg] at hk;rw[hW] at hb;unfold cellsS at hW;have HWW1:=qq hW;have HKW1:=qq hk;have HRW1:=qq ((ra).fresh hb);have HBW1:=qq ((hb4').trans (hb.mono (hb4').size));have HbW1:=qq hb;clear hk hb hW;clear hb4 hR hb4' hb40 ra H3;unfold cellsS;go_upto_region 3 with fail;rw[HWW1.out];clear hg;go_wp2_with fail
  refine(keep8_any W1).mono ?_; rintro e w5 ⟨v,rfl,hv,hb5⟩
  obtain⟨Ak,mk,ck,E1,e1,E2,e2,E3,e3,rfl,rk⟩:=hv;have hb5':=HBW1.out.trans (hb5.mono HBW1.out.size);have hk:=blk_new w5 (cellsS keepS Ak mk ck E1 e1 E2 e2 E3 e3) 40;have hb:=below_box (w:=w5) (Obj.cells (cellsS keepS Ak mk ck E1 e1 E2 e2 E3 e3) 40);obtain⟨gk,hg⟩:∃ g,(w5).heap.size=g:=⟨_,rfl⟩;obtain⟨W2,hW⟩:∃ x,(w5).alloc (Obj.cells (cellsS keepS Ak mk ck E1 e1 E2 e2 E3 e3) 40)=x:=⟨_,rfl⟩;rw[hW,hg] at hk;rw[hW] at hb;unfold cellsS at hW;have HWW2:=qq hW;have HKW2:=qq hk;have HRW2:=qq ((rk).fresh hb);have HBW2:=qq ((hb5').trans (hb.mono (hb5').size));have HbW2:=qq hb;clear hk hb hW;have hb5W:=hb5.trans (HbW2.out.mono hb5.size);have HKa2:=qq (HKW1.out.below hb5W HKW1.out.lt);have HRa2:=qq (HRW1.out.fresh hb5W);have hz0:=HB40.out.trans ((HbW1.out.trans (hb5W.mono HbW1.out.size)).mono HB40.out.size);have HK02:=qq (HK0.out.below hz0 HK0.out.lt);clear hb5 hb5' rk hb5W hz0 HB40 HKW1 HRW1;unfold cellsS;go_upto_region 4 with fail;rw[HWW2.out];clear hg;have hKS:∀ W',Below W2.heap.size W2 W'→(W'.cell? ⟨gk,0,none⟩=some (.int .i64 keepS.types)∧W'.cell? ⟨gk,1,none⟩=some (.int .i64 keepS.mults)∧W'.cell? ⟨gk,2,none⟩=some (.int .u8 keepS.t.k)∧W'.cell? ⟨gk,3,none⟩=some (.int .i64 keepS.t.n)∧W'.cell? ⟨gk,4,none⟩=some (.int .i64 keepS.t.v)∧W'.cell? ⟨gk,5,none⟩=some (.int .u8 keepS.t.c)∧W'.cell? ⟨gk,6,none⟩=some (.slice Ak mk ck)∧W'.cell? ⟨gk,7,none⟩=some (.slice E1 keepS.tab.low.length e1)∧W'.cell? ⟨gk,8,none⟩=some (.slice E2 keepS.tab.up.length e2)∧W'.cell? ⟨gk,9,none⟩=some (.slice E3 keepS.tab.pair.length e3))∧W'.cell? ⟨w.heap.size,0,none⟩=some (.int .i64 0)∧W'.cell? ⟨w.heap.size,1,none⟩=some (.int .u8 1):=fun W' hW'=>⟨box_cells (HKW2.out.below hW' HKW2.out.lt),(HK02.out.below hW' HK02.out.lt).cell 0,(HK02.out.below hW' HK02.out.lt).cell 1⟩;have HKS:=qq hKS;clear hKS;refine wp_region_noPanic ?_;refine wp_region_T (fun W'=>(W'.cell? ⟨gk,0,none⟩=some (.int .i64 keepS.types)∧W'.cell? ⟨gk,1,none⟩=some (.int .i64 keepS.mults)∧W'.cell? ⟨gk,2,none⟩=some (.int .u8 keepS.t.k)∧W'.cell? ⟨gk,3,none⟩=some (.int .i64 keepS.t.n)∧W'.cell? ⟨gk,4,none⟩=some (.int .i64 keepS.t.v)∧W'.cell? ⟨gk,5,none⟩=some (.int .u8 keepS.t.c)∧W'.cell? ⟨gk,6,none⟩=some (.slice Ak mk ck)∧W'.cell? ⟨gk,7,none⟩=some (.slice E1 keepS.tab.low.length e1)∧W'.cell? ⟨gk,8,none⟩=some (.slice E2 keepS.tab.up.length e2)∧W'.cell? ⟨gk,9,none⟩=some (.slice E3 keepS.tab.pair.length e3))∧W'.cell? ⟨w.heap.size,0,none⟩=some (.int .i64 0)∧W'.cell? ⟨w.heap.size,1,none⟩=some (.int .u8 1)) 15 (by kernel_rfl) (HKS.out _ (Below.drew (Below.refl _ _))) (fun hHeld=>?_);have hbd:Below W2.heap.size W2 W2.drew:=Below.drew (Below.refl _ _);generalize W2.drew=V0 at hHeld hbd ⊢
  refine wpAnyT_take (i:=0) (v:=?_) rfl (by kernel_rfl) (by kernel_rfl) (by kernel_rfl) (by kernel_rfl) (fun _ _ _ h=>h) (Or.inl ⟨by rfl,?_⟩) (by assumption) ?_
  rotate_left
  · (intro w hSw; (try dsimp only at hSw); first | (go_simp; done) | (go_simp; with_reducible rfl))
  try simp only[Act.put,qg,qe,qf,qd,qh,qi]
  refine wpAnyT_take (i:=2) (v:=?_) rfl (by kernel_rfl) (by kernel_rfl) (by kernel_rfl) (by kernel_rfl) (fun _ _ _ h=>h) (Or.inl ⟨by rfl,?_⟩) (by assumption) ?_
  rotate_left
  · (intro w hSw; (try dsimp only at hSw); first | (go_simp; done) | (go_simp; with_reducible rfl))
  try simp only[Act.put,qg,qe,qf,qd,qh,qi]
  refine wpAnyT_take (i:=4) (v:=?_) rfl (by kernel_rfl) (by kernel_rfl) (by kernel_rfl) (by kernel_rfl) (fun _ _ _ h=>h) (Or.inl ⟨by rfl,?_⟩) (by assumption) ?_
  rotate_left
  · (intro w hSw; (try dsimp only at hSw); first | (go_simp; done) | (go_simp; with_reducible rfl))
  try simp only[Act.put,qg,qe,qf,qd,qh,qi]
  clear hHeld;refine wpAnyT_step (i:=1) (by kernel_rfl) rfl (fun K hK=>?_)
  (go_simp; refine(whole8_any V0).mono ?_; rintro e V1 ⟨B1,m1,p1,rfl,ht1,hb1⟩; have hbW1:=hbd.trans (hb1.mono hbd.size); clear hb1)
  refine hK.out _ _ (HKS.out _ hbW1) ?_;clear hK K
  try simp only[Act.put,qg,qe,qf,qd,qh,qi]
  refine wpAnyT_step (i:=3) (by kernel_rfl) rfl (fun K hK=>?_)
  (go_simp; refine(text8_any V1).mono ?_; rintro e V2 ⟨B2,m2,p2,rfl,ht2,hb2⟩; have hbW2:=hbW1.trans (hb2.mono hbW1.size); clear hb2)
  refine hK.out _ _ (HKS.out _ hbW2) ?_;clear hK K
  try simp only[Act.put,qg,qe,qf,qd,qh,qi]
  refine wpAnyT_step (i:=5) (by kernel_rfl) rfl (fun K hK=>?_)
  (go_simp; refine(whole8_any V2).mono ?_; rintro e V3 ⟨B3,m3,p3,rfl,ht3,hb3⟩; have hbW3:=hbW2.trans (hb3.mono hbW2.size); clear hb3)
  refine hK.out _ _ (HKS.out _ hbW3) ?_;clear hK K
  try simp only[Act.put,qg,qe,qf,qd,qh,qi]
  refine wpAnyT_step (i:=6) (by kernel_rfl) rfl (fun K hK=>?_)
  (go_simp; refine(fun8_any textD wholeD (by decide +kernel) (by decide +kernel) 0 1 B2 m2 p2 B3 m3 p3 V3 (ht2.empty) (ht3.empty)).mono ?_; rintro e V4 ⟨B4,m4,p4,rfl,ht4,hb4⟩; have hbW4:=hbW3.trans (hb4.mono hbW3.size); clear hb4)
  refine hK.out _ _ (HKS.out _ hbW4) ?_;clear hK K
  try simp only[Act.put,qg,qe,qf,qd,qh,qi]
  refine wpAnyT_step (i:=7) (by kernel_rfl) rfl (fun K hK=>?_)
  (go_simp; refine(fun8_any wholeD (.mk 7 0 0 1 [textD,wholeD]) (by decide +kernel) (by decide +kernel) 0 1 B1 m1 p1 B4 m4 p4 V4 (ht1.empty) ht4).mono ?_; rintro e V5 ⟨B5,m5,p5,rfl,ht5,hb5⟩; have hbW5:=hbW4.trans (hb5.mono hbW4.size); clear hb5)
  refine hK.out _ _ (HKS.out _ hbW5) ?_;clear hK K
  try simp only[Act.put,qg,qe,qf,qd,qh,qi]
  refine wpAnyT_step (i:=8) (by kernel_rfl) rfl (fun K hK=>?_)
  (go_simp; refine(inst_any keepS keep_ok oneD _ B5 m5 p5 V5 ⟨Ak,mk,ck,E1,e1,E2,e2,E3,e3,rfl,HRW2.out.fresh hbW5⟩ ht5).mono ?_; rintro e V6 ⟨X1,nx1,cx1,ts,X2,nx2,cx2,ms,ok,rfl,hts,hms,hi,hb6⟩; obtain rfl:ok=false:=Bool.eq_false_iff.2 fun h=>one_no (hi.iff.1 h); have hbW6:=hbW5.trans (hb6.mono hbW5.size); clear hb6 hi hts hms)
  refine hK.out _ _ (HKS.out _ hbW6) ?_;clear hK K
  try simp only[Act.put,qg,qe,qf,qd,qh,qi]
  have hHeld:=HKS.out _ hbW6;refine nx0 9 ?_
  iterate 6 (refine nx (v:=?_) rfl (by kernel_rfl) (fun _ _ _ h=>h) (by rfl) ?_ (by assumption) ?_; rotate_left; focus (intro w hSw; (try dsimp only at hSw); first | (go_simp; done) | (go_simp; with_reducible rfl)); try simp only[Act.put,qg,qe,qf,qd,qh,qi,Nat.reduceAdd])
  refine nx9 ?_;have HbV:=qq (HBW2.out.trans (hbW6.mono HBW2.out.size));have HKa3:=qq (HKa2.out.below hbW6 HKa2.out.lt);have HRa3:=qq (HRa2.out.fresh hbW6);clear hHeld ht1 ht2 ht3 ht4 ht5 hbd hbW1 hbW2 hbW3 hbW4 hbW5 hbW6 HKS HKW2 HRW2 HKa2 HRa2;refine wpAnyT_seq 15 (by omega) (by rfl) (by kernel_rfl) ?_;simp only[List.drop_succ_cons,List.drop_zero];go_wp2_with fail;refine NoPanic.normal ?_;go_wp2_with fail
  refine(whole8_any V6).mono ?_; rintro e w1 ⟨B1,m1,p1,rfl,h1,hb1⟩
  go_wp2_with fail
  refine(whole8_any w1).mono ?_; rintro e w2 ⟨B2,m2,p2,rfl,h2,hb2⟩
  go_wp2_with fail
  refine(fun8_any wholeD wholeD (by decide +kernel) (by decide +kernel) 0 2 B1 m1 p1 B2 m2 p2 w2 (h1.empty) h2).mono ?_; rintro e w3 ⟨B3,m3,p3,rfl,h3,hb3⟩
  have hb:=((hb1.trans (hb2.mono hb1.size)).trans (hb3.mono (Nat.le_trans hb1.size hb2.size)));have Hb3:=qq hb;have H3:=qq h3;clear hb1 hb2 hb3 hb h1 h2 h3;go_wp2_with fail;refine(close_any bT B3 m3 p3 0 none 0 0 [] w3 H3.out IneqsV.nil).mono ?_;rintro e w4 ⟨v,s,er,rfl,hv,hR,hb4⟩;obtain⟨rfl,rfl⟩:=closeB hR;obtain⟨Ab,mb,cb,G1,g1,G2,g2,G3,g3,hve,rb⟩:=hv;subst hve;have hb64:=Hb3.out.trans (hb4.mono Hb3.out.size);have hb4':=HbV.out.trans (hb64.mono HbV.out.size);have hk:=blk_new w4 (cellsS bS Ab mb cb G1 g1 G2 g2 G3 g3) 40;have hb:=below_box (w:=w4) (Obj.cells (cellsS bS Ab mb cb G1 g1 G2 g2 G3 g3) 40);obtain⟨gb,hg⟩:∃ g,(w4).heap.size=g:=⟨_,rfl⟩;obtain⟨W3,hW⟩:∃ x,(w4).alloc (Obj.cells (cellsS bS Ab mb cb G1 g1 G2 g2 G3 g3) 40)=x:=⟨_,rfl⟩;rw[hW,hg] at hk;rw[hW] at hb;unfold cellsS at hW;have HWW3:=qq hW;have HKW3:=qq hk;have HRW3:=qq ((rb).fresh hb);have HBW3:=qq ((hb4').trans (hb.mono (hb4').size));have HbW3:=qq hb;clear hk hb hW;have hb6W:=hb64.trans (HbW3.out.mono hb64.size);have HKa4:=qq (HKa3.out.below hb6W HKa3.out.lt);have HRa4:=qq (HRa3.out.fresh hb6W);clear hb4 hR hb4' hb64 hb6W rb H3 HKa3 HRa3 Hb3;unfold cellsS;go_upto_region 6 with fail;rw[HWW3.out];clear hg;go_wp2_with fail
  refine(works8_any W3 (Ht.out.below HBW3.out)).mono ?_; rintro e V1 ⟨rfl,hb1⟩
  have HKa5:=qq (HKa4.out.below hb1 HKa4.out.lt);have HRa5:=qq (HRa4.out.fresh hb1);have HKb5:=qq (HKW3.out.below hb1 HKW3.out.lt);have HRb5:=qq (HRW3.out.fresh hb1);have HB5:=qq (HBW3.out.trans (hb1.mono HBW3.out.size));clear hb1 HKa4 HRa4 HKW3 HRW3 HBW3;obtain⟨x0,x1,x2,x3,x4,x5,x6,x7,x8,x9⟩:=box_cells HKa5.out;have hT:=fun W' (h:SchV W' W'.heap.size (.agg (cellsS aS Aa ma ca D1 d1 D2 d2 D3 d3)) aS) (hw:Below w.heap.size w W')=>schText_any aS (mayTE_may aC_may) 1 (tabA.ok (by decide)) (by decide) (.inl aS_own) _ rfl (by decide +kernel) _ W' (Ht.out.below hw) h
  rw[aS_text,show(⟨aTx.data.toList.toArray⟩:ByteArray)=⟨#[97,48,32,45,109,48,62,32,97,48]⟩ from rfl] at hT
  have HT:=qq hT;clear hT;go_wp2_with fail;refine(HT.out V1 ⟨Aa,ma,ca,D1,d1,D2,d2,D3,d3,rfl,HRa5.out⟩ HB5.out).mono ?_;rintro e V2 ⟨rfl,hb2⟩;have HKa6:=qq (HKa5.out.below hb2 HKa5.out.lt);have HRa6:=qq (HRa5.out.fresh hb2);have HKb6:=qq (HKb5.out.below hb2 HKb5.out.lt);have HRb6:=qq (HRb5.out.fresh hb2);have HB6:=qq (HB5.out.trans (hb2.mono HB5.out.size));clear hb2 HKa5 HRa5 HKb5 HRb5 HB5 x0 x1 x2 x3 x4 x5 x6 x7 x8 x9;obtain⟨x0,x1,x2,x3,x4,x5,x6,x7,x8,x9⟩:=box_cells HKa6.out;obtain⟨y0,y1,y2,y3,y4,y5,y6,y7,y8,y9⟩:=box_cells HKb6.out;go_wp2_with fail;refine(schMore_any aS bS _ _ V2 ⟨Aa,ma,ca,D1,d1,D2,d2,D3,d3,rfl,HRa6.out⟩ ⟨Ab,mb,cb,G1,g1,G2,g2,G3,g3,rfl,HRb6.out⟩).mono ?_;rintro e V3 ⟨q,rfl,hq,hb3⟩;obtain rfl:q=true:=hq.2 more_ab;have HKa7:=qq (HKa6.out.below hb3 HKa6.out.lt);have HRa7:=qq (HRa6.out.fresh hb3);have HKb7:=qq (HKb6.out.below hb3 HKb6.out.lt);have HRb7:=qq (HRb6.out.fresh hb3);have HB7:=qq (HB6.out.trans (hb3.mono HB6.out.size));clear hb3 hq HKa6 HRa6 HKb6 HRb6 HB6 x0 x1 x2 x3 x4 x5 x6 x7 x8 x9 y0 y1 y2 y3 y4 y5 y6 y7 y8 y9;obtain⟨x0,x1,x2,x3,x4,x5,x6,x7,x8,x9⟩:=box_cells HKa7.out;obtain⟨y0,y1,y2,y3,y4,y5,y6,y7,y8,y9⟩:=box_cells HKb7.out;go_wp2_with fail;refine(schMore_any bS aS _ _ V3 ⟨Ab,mb,cb,G1,g1,G2,g2,G3,g3,rfl,HRb7.out⟩ ⟨Aa,ma,ca,D1,d1,D2,d2,D3,d3,rfl,HRa7.out⟩).mono ?_;rintro e V4 ⟨q,rfl,hq,hb4⟩;obtain rfl:q=false:=Bool.eq_false_iff.2 fun h=>more_ba (hq.1 h);have HB8:=qq (HB7.out.trans (hb4.mono HB7.out.size));clear hb4 hq x0 x1 x2 x3 x4 x5 x6 x7 x8 x9 y0 y1 y2 y3 y4 y5 y6 y7 y8 y9;go_wp2_with fail;go_ret;exact⟨rfl,HB8.out⟩
namespace schemeKnown
set_option maxRecDepth 100000 in
theorem lifted (os:Os) (started:os.Started) (H:Type) (enc:TypeId × Value→H):
    ReturnsInHanded {} Tryz.checked os 6 .any (fun w args=>(Rows.schemeKnownSpec.pre enc Tryz.prog Tryz.f6 [] false w args∧laidMetH Tryz.prog laid3 w)∧sizedMet enc Tryz.prog Tryz.f6 (OpenSpec.ofChange Rows.schemeKnownSpec) false w args) (Rows.schemeKnownSpec.post enc Tryz.prog Tryz.f6 false true false false):=by
  refine returnsInHanded_of_change_and (C:=Tryz.checked) (X:=fun w _=>laidMetH Tryz.prog laid3 w) (fun _ _ _ hh h=>h.of_heap hh) own started (by kernel_rfl) Tryz.func6
    (ChangeSpec.witness_shaped (enc:=enc) (C:=Tryz.checked) (os:=os) (X:=fun w _=>laidMetH Tryz.prog laid3 w) false (World.doorLaid Tryz.prog 400 os) #[] 8 rfl (World.shaped_of_RefB (by kernel_rfl) (by kernel_rfl)) (by kernel_rfl) (by kernel_rfl) (by kernel_rfl) (door_met os _)) ?_
  intro W base args ds gs before hval0 hW hcnd hsz0 hL _
  have hsz:(DataW.weightsEach Tryz.prog (Tryz.f6.params.toList++Rows.schemeKnownSpec.plain.varTypes Tryz.prog) (ds++gs)).all (· ≤ reachBytes)=true:=hsz0
  have hval:∀ (j:Nat) t v,Tryz.f6.params[j]?=some t→args[j]?=some v→Value.okWide Tryz.prog W .any base t v:=hval0;have hW':=hW;obtain⟨p,q,hA0,hV,rfl,hfz,hnd⟩:=hW;have hA:DataW.TrodAll enc Tryz.prog W 0 (fun _=>true) true Tryz.f6.params.toList args.toList ds p:=hA0;rw[Tryz.params6] at hA hval hsz;obtain⟨hargs,rfl,rfl⟩:=trodAll_nil hA
  obtain rfl:args=#[]:=by cases args; simp_all
  obtain⟨rfl,rfl⟩:=trodVars_none hV;refine(walk_schemeKnown (w:=W) (tab_of_laid hL) ).mono fun e W' ⟨he,bel⟩=>?_;subst he;exact⟨_,rfl,law_post laidOut (by kernel_rfl) rfl rfl Tryz.underlying4 hW' rfl rfl rfl bel⟩
theorem over:Rows.schemeKnownRow.holds Tryz.pinned (OpenSpec.ofChange Rows.schemeKnownSpec):=
  OpenClaim.holds_of_wide 6 Tryz.f6 rfl rfl rfl rfl rfl rfl rfl ⟨rfl,rfl,rfl,rfl,rfl⟩ rfl rfl rfl rfl rfl (by kernel_rfl) Tryz.func6 (by kernel_rfl)
    (of_decide_eq_true (by kernel_rfl)) (by unfold Func.isWrapper; first | (rw[if_pos (by decide +kernel)]; kernel_rfl) | (rw[if_neg (by decide +kernel)]; exact⟨rfl,rfl⟩))
    (fun os started H enc _=>lifted os started H enc)
theorem card:Rows.SchemeKnownCardSaid:=
  Claim7.holds_tied_plain_at .later [] [.data,.data,.data] true Rows.schemeKnownCard.stood.harness false
    over (fun _ h=>by cases h) (by kernel_rfl) (fun _ h=>by cases h) schemeKnown_row_tie rfl ⟨rfl,rfl⟩ (by kernel_rfl) rfl
    (fun f fn hf hfn=>by
      obtain rfl:f=6:=Option.some.inj ((show Tryz.prog.funcNamed "usufruct/usufructlaw08.SchemeKnown"=some 6 by kernel_rfl).symm.trans hf) |>.symm
      obtain rfl:fn=Tryz.f6:=(Option.some.inj (Tryz.func6.symm.trans hfn)).symm
      exact⟨by kernel_rfl,fun j t ht=>by rw[Tryz.params6] at ht; simp at ht⟩)
    (by kernel_rfl)
theorem proved:Rows.SchemeKnownCardSaid:=card
#print axioms proved
end schemeKnown
end Go.Proofs.YtdmakpmbknindaaGreatDoor
