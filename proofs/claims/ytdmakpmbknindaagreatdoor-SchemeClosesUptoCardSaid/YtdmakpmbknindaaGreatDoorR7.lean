import Derived.Test.YtdmakpmbknindaaGreatDoorR6
set_option linter.unusedVariables false
set_option linter.unusedSimpArgs false
set_option maxHeartbeats 8000000
set_option maxRecDepth 100000
namespace Go.Proofs.YtdmakpmbknindaaGreatDoor
open Go.RowKit
attribute [local go_sem ↓] Go.wp_at_zero Go.wp_at_succ
def SeeAt (g s0:Nat) (w0:World) (t:TyD):Prop:=∀ (A:Option Addr) (m cp:Nat),TysV w0 s0 A m cp t.l→∀ (w:World) (l1 l2:List Int) (A1:Option Addr) (c1:Nat) (A2:Option Addr) (c2:Nat),Below s0 w0 w→SnAt w g l1 l2 A1 c1 A2 c2→s0≤g→l1.length+nodes t≤1099511627776→l2.length+nodes t≤1099511627776 →
 Calls Tryz.prog 43 #[.pointer (some ⟨g,0,none⟩),.agg #[.int .u8 t.k,.int .i64 t.n,.int .i64 t.v,.int .u8 t.c,.slice A m cp]] w
  fun e w'=>e=.returned (.tuple #[])∧(∃ A1' c1' A2' c2',SnAt w' g (addAll l1 (allV t)) (addAll l2 (allM t)) A1' c1' A2' c2')∧SOut g w w'
theorem idxN_neg {l:List Int} {n r:Int} (h:idxN l n=r):(r<0→addN l n=l++[n])∧(¬ r<0→addN l n=l):=by
 have:=idxN_contains l n;rw[h] at this;unfold addN;refine⟨fun hr=>?_,fun hr=>?_⟩
 · rw[← this,decide_eq_false (by omega)]; rfl
 · rw[← this,decide_eq_true (by omega)]; rfl
theorem see_else (g s0:Nat) (w0:World) (kd n v c:Int) (L:List TyD) (h1:kd≠1) (h7:kd≠7) (ih:∀ x∈L,SeeAt g s0 w0 x):SeeAt g s0 w0 (.mk kd n v c L):=by
 intro A m cp hl w l1 l2 A1 c1 A2 c2 hbel hv hsg hb1 hb2;have hnod:nodes (.mk (kd) n v c L)=1+nodes.nodesL L:=nodes_eq _;rw[hnod] at hb1 hb2;replace hl:TysV w0 s0 A m cp L:=hl;show Calls Tryz.prog 43 #[.pointer (some ⟨g,0,none⟩),.agg #[.int .u8 (kd),.int .i64 n,.int .i64 v,.int .u8 c,.slice A m cp]] w _;obtain⟨W,hW⟩:∃ W,w.alloc (Obj.cells #[.int .u8 (kd),.int .i64 n,.int .i64 v,.int .u8 c,.slice A m cp] 27)=W:=⟨_,rfl⟩;have hbx:=below_box (w:=w) (Obj.cells #[.int .u8 (kd),.int .i64 n,.int .i64 v,.int .u8 c,.slice A m cp] 27);have hz:=blk_new w #[.int .u8 (kd),.int .i64 n,.int .i64 v,.int .u8 c,.slice A m cp] 27;rw[hW] at hbx hz;have hgw:g<w.heap.size:=hv.lt
 have hnp1:(Value.slice A1 l1.length c1).ownBlock≠some w.heap.size:=fun e=>by have:=(hv.2.1.lt _ e).2; omega
 have hnp2:(Value.slice A2 l2.length c2).ownBlock≠some w.heap.size:=fun e=>by have:=(hv.2.2.1.lt _ e).2; omega
 have HnP1:=qq hnp1;have HnP2:=qq hnp2;clear hnp1 hnp2;have hvo:=SOut.of_below (g:=g) (by omega) hbx;have hvW:=hv.below hbx;have hlen:=hl.len;have m63:m≤9223372036854775807:=Nat.le_trans hl.2.1 hl.2.2.1;have HW:=qq hW;have Hz:=qq hz;have HL:=qq hl;have Hvo:=qq hvo;have Hb0:=qq (hbel.trans (hvo.1.mono hsg));have Hih:=qq ih;clear hbx hW hz hl hvo hbel hv ih
 have HE1:Hid (addAll l1 (allV (.mk kd n v c L))=addAll l1 (L.flatMap allV)):=qq (by rw[allV_eq,if_neg (by exact h1)]; rfl)
 have HE2:Hid (addAll l2 (allM (.mk kd n v c L))=addAll l2 (L.flatMap allM)):=qq (by rw[allM_not (by exact h7)]; rfl)
 have d1:(kd==1)=false:=by simpa using h1
 have d7:(kd==7)=false:=by simpa using h7
 have hpg:w.heap.size≠g:=by omega
 have kz0:=fun d os=>cell_regrown (show W.cell? ⟨w.heap.size,0,none⟩=some (.int .u8 kd) from Hz.out.cell 0) d os
 have hbS:=fun d os=>below_regrown W d os;clear h1 h7
 go_enter Tryz.func43,Tryz.ntmps43
 go_wp2_with fail;rw[HW.out];refine wp_region_quiet_below (by kernel_rfl) (by kernel_rfl) ?_
 repeat (go_big_quiet_step (fail))
 refine wpQuiet_nil ?_;intro _ hw';obtain⟨⟨dq,osq⟩,hw''⟩:=hw';subst hw'';have hbr:=below_regrown W dq osq;have hvs0:=hvW.below hbr
 have hvx:=SOut.of_below (g:=g) (by have:=hvW.lt; omega) hbr
 obtain⟨W2,hW2⟩:∃ W2,Sort.grow (redrawn W dq) osq=W2:=⟨_,rfl⟩;rw[hW2] at hvs0 hvx ⊢;clear hbr hW2 kz0 hvW;go_wp2_with fail;have Hvx:=qq hvx;clear hvx
 go_loopg [4] m (fun gh i wr=>∃ (k:Nat) (A5:Option Addr) (c5:Nat) (A6:Option Addr) (c6:Nat),k≤m∧gh=m - k∧i=.int .i64 k∧SnAt wr g (addAll l1 ((L.take k).flatMap allV)) (addAll l2 ((L.take k).flatMap allM)) A5 c5 A6 c6∧SOut g W2 wr)
 case atStart=>exact⟨0,_,_,_,_,Nat.zero_le _,rfl,rfl,by simpa[addAll] using hvs0,SOut.refl _ _⟩
 case round=>
  obtain⟨k,A5,c5,A6,c6,hk,rfl,rfl,hvr0,hvr⟩:=hrel
  by_cases hkm:k<m
  · have d0:decide (k<m)=true:=by simpa using hkm
    have hk':k<L.length:=by omega
    have hsn:=hvr0;have hbw:Below s0 w0 wr:=Hb0.out.trans ((Hvx.out.trans hvr).1.mono hsg);obtain⟨b,off,rfl,hb,hc⟩:=HL.out.at_ (by omega);obtain⟨f0,f1,f2,f3,Ax,mx,cx,f4,hx⟩:=tyAt_iff.1 (hc k hk');have hcW:∀ j,wr.cell? ⟨b,j,none⟩=w0.cell? ⟨b,j,none⟩:=fun j=>hbw.cell (p:=⟨b,j,none⟩) hb;have e0:=(hcW _).trans f0;have e1:=(hcW _).trans f1;have e2:=(hcW _).trans f2;have e3:=(hcW _).trans f3;have e4:=(hcW _).trans f4;have hspl:=nodesL_split L k hk';have hih:=Hih.out L[k] (List.getElem_mem hk') Ax mx cx hx;have hvs:=hvr0.lt;obtain⟨x,hxk⟩:∃ x,L[k]=x:=⟨_,rfl⟩;rw[hxk] at e0 e1 e2 e3 hih hspl;have hzr:=Hz.out.sout (Hvx.out.trans hvr) hpg (by decide);have z0:=hzr.cell 0;have z4:=hzr.cell 4;clear f0 f1 f2 f3 f4 hx hcW hc;have Hzr:=qq hzr;have h1:=addAll_len ((L.take k).flatMap allV) l1;have h2:=flatV_le (L.take k);have h3:=addAll_len ((L.take k).flatMap allM) l2;have h4:=flatM_le false 0 (L.take k);rw[allM_plain] at h4
    have e5:addAll l1 ((L.take (k+1)).flatMap allV)=addAll (addAll l1 ((L.take k).flatMap allV)) (allV x):=by rw[← addAll_append,List.take_succ_eq_append_getElem hk',List.flatMap_append,hxk]; simp
    have e6:addAll l2 ((L.take (k+1)).flatMap allM)=addAll (addAll l2 ((L.take k).flatMap allM)) (allM x):=by rw[← addAll_append,List.take_succ_eq_append_getElem hk',List.flatMap_append,hxk]; simp
    obtain⟨X1,hX1⟩:∃ X,addAll l1 ((L.take k).flatMap allV)=X:=⟨_,rfl⟩;obtain⟨X2,hX2⟩:∃ X,addAll l2 ((L.take k).flatMap allM)=X:=⟨_,rfl⟩;rw[hX1] at hsn h1 e5;rw[hX2] at hsn h3 e6;have HE5:=qq e5;have HE6:=qq e6;have Hsn:=qq hsn;have Hvr:=qq hvr;have Hbw:=qq hbw
    have k1:(0:Int)≤(k:Int):=by omega
    have k2:(k:Int)<m:=by omega
    have kz0:=fun d os=>cell_regrown z0 d os;clear hvr hbw hvr0 hxk e5 e6 hX1 hX2 hsn hzr z0;go_wp2_with fail;refine wp_region_quiet_below (by kernel_rfl) (by kernel_rfl) ?_
    repeat (go_big_quiet_step (fail))
    refine wpQuiet_nil ?_;intro _ hw';obtain⟨⟨dq,osq⟩,hw''⟩:=hw';subst hw'';have hbr:=below_regrown wr dq osq;have hq:=hih (Sort.grow (redrawn wr dq) osq) X1 X2 A5 c5 A6 c6 (Hbw.out.trans (hbr.mono (by omega))) (Hsn.out.below hbr) hsg (by omega) (by omega);have Hq:=qq hq;have Hvr2:=qq (Hvr.out.trans (SOut.of_below (g:=g) (by omega) hbr));have y0:=cell_regrown e0 dq osq;have y1:=cell_regrown e1 dq osq;have y2:=cell_regrown e2 dq osq;have y3:=cell_regrown e3 dq osq;have y4:=cell_regrown e4 dq osq;have x4:=cell_regrown z4 dq osq;clear hq hih hbr kz0 e0 e1 e2 e3 e4 z4;go_wp2_with fail;refine Hq.out.mono ?_;rintro e w9 ⟨rfl,⟨A7,c7,A8,c8,h9⟩,h10⟩;clear Hq y0 y1 y2 y3 y4 x4;go_wp2_with fail;go_roundg (m - (k+1))
    case measure=>omega
    case rel=>exact⟨k+1,A7,c7,A8,c8,by omega,rfl,by go_num,by rw[HE5.out,HE6.out]; exact h9,Hvr2.out.trans h10⟩
  · have d0:decide (k<m)=false:=by simpa using hkm
    have hall:L.take k=L:=List.take_of_length_le (by omega);rw[hall] at hvr0;have hzr:=Hz.out.sout (Hvx.out.trans hvr) hpg (by decide);have z4:=hzr.cell 4;have Hv0:=qq hvr0;have Hvr:=qq hvr;clear hvr hvr0 hall hzr;go_wp2_with fail
    go_end0
    refine⟨rfl,⟨A5,c5,A6,c6,?_⟩,(Hvo.out.trans Hvx.out).trans Hvr.out⟩;rw[HE1.out,HE2.out];exact Hv0.out
theorem grown_drew_alloc {w w':World} {o:Obj} {row:Option Nat} (h:(w.drew.alloc o).grownBy w' row):w.grownBy w' row:=
 ⟨h.os,h.tape,h.output,Nat.le_trans (by rw[World.size_alloc]; exact Nat.le_succ _) h.size,fun k hk hne=>(h.block k (by rw[World.size_alloc]; exact Nat.lt_succ_of_lt hk) hne).trans (Below.heap_alloc w.drew _ k hk)⟩
theorem see_var (g s0:Nat) (w0:World) (n v c:Int) (L:List TyD) (ih:∀ x∈L,SeeAt g s0 w0 x):SeeAt g s0 w0 (.mk 1 n v c L):=by
 obtain⟨i0,hi0,hz0,hz1,hz2⟩:=info_parts infoI;intro A m cp hl w l1 l2 A1 c1 A2 c2 hbel hv hsg hb1 hb2;have hnod:nodes (.mk (1) n v c L)=1+nodes.nodesL L:=nodes_eq _;rw[hnod] at hb1 hb2;replace hl:TysV w0 s0 A m cp L:=hl;show Calls Tryz.prog 43 #[.pointer (some ⟨g,0,none⟩),.agg #[.int .u8 (1),.int .i64 n,.int .i64 v,.int .u8 c,.slice A m cp]] w _;obtain⟨W,hW⟩:∃ W,w.alloc (Obj.cells #[.int .u8 (1),.int .i64 n,.int .i64 v,.int .u8 c,.slice A m cp] 27)=W:=⟨_,rfl⟩;have hbx:=below_box (w:=w) (Obj.cells #[.int .u8 (1),.int .i64 n,.int .i64 v,.int .u8 c,.slice A m cp] 27);have hz:=blk_new w #[.int .u8 (1),.int .i64 n,.int .i64 v,.int .u8 c,.slice A m cp] 27;rw[hW] at hbx hz;have hgw:g<w.heap.size:=hv.lt
 have hnp1:(Value.slice A1 l1.length c1).ownBlock≠some w.heap.size:=fun e=>by have:=(hv.2.1.lt _ e).2; omega
 have hnp2:(Value.slice A2 l2.length c2).ownBlock≠some w.heap.size:=fun e=>by have:=(hv.2.2.1.lt _ e).2; omega
 have HnP1:=qq hnp1;have HnP2:=qq hnp2;clear hnp1 hnp2;have hvo:=SOut.of_below (g:=g) (by omega) hbx;have hvW:=hv.below hbx;have hlen:=hl.len;have m63:m≤9223372036854775807:=Nat.le_trans hl.2.1 hl.2.2.1;have HW:=qq hW;have Hz:=qq hz;have HL:=qq hl;have Hvo:=qq hvo;have Hb0:=qq (hbel.trans (hvo.1.mono hsg));have Hih:=qq ih;clear hbx hW hz hl hvo hbel hv ih;obtain⟨r,hr⟩:∃ r,idxN l1 n=r:=⟨_,rfl⟩;have hneg:=idxN_neg hr
 have HE0:Hid (addAll l1 (allV (.mk 1 n v c L))=addAll (addN l1 n) (L.flatMap allV)):=qq (by rw[allV_eq]; rfl)
 have HE2:Hid (addAll l2 (allM (.mk 1 n v c L))=addAll l2 (L.flatMap allM)):=qq (by rw[allM_not (show(TyD.mk 1 n v c L).k≠7 from by show(1:Int)≠7; decide)]; rfl)
 have hpg:w.heap.size≠g:=by omega
 have hpW:=Hz.out.lt
 have kz0:=fun d os=>cell_regrown (show W.cell? ⟨w.heap.size,0,none⟩=some (.int .u8 1) from Hz.out.cell 0) d os
 have kz1:=fun d os=>cell_regrown (show W.cell? ⟨w.heap.size,1,none⟩=some (.int .i64 n) from Hz.out.cell 1) d os
 have kq0:=fun d os=>cell_regrown (show W.cell? ⟨g,0,none⟩=some (.slice A1 l1.length c1) from hvW.1.cell 0) d os
 have hq:=fun d os=>refAt_any A1 l1.length c1 l1 n (Sort.grow (redrawn W d) os) _ (hvW.r1.below (below_regrown W d os)) r hr;have hq:=qq hq;clear hr
 by_cases hr0:r<0
 · have dr:decide (r<0)=true:=by simpa using hr0
   have HE1:Hid (addAll l1 (allV (.mk 1 n v c L))=addAll (l1++[n]) (L.flatMap allV)):=qq (by rw[HE0.out,hneg.1 hr0]);clear hneg
   go_enter Tryz.func43,Tryz.ntmps43
   go_wp2_with fail;rw[HW.out];refine wp_region_quiet_below (by kernel_rfl) (by kernel_rfl) ?_
   repeat (go_big_quiet_step ((first | (go_at_call 101; exact Calls.regrown_of (hq.out _ _)))))
   refine wpQuiet_nil ?_;intro _ hw';obtain⟨⟨dq,osq⟩,hw''⟩:=hw';subst hw'';have hbr:=below_regrown W dq osq;have hv2:=hvW.below hbr
   have hvx2:=SOut.of_below (g:=g) (by have:=hvW.lt; omega) hbr
   have xp:=cell_regrown (show W.cell? ⟨w.heap.size,1,none⟩=some (.int .i64 n) from Hz.out.cell 1) dq osq
   replace hpW:=Nat.lt_of_lt_of_le hpW hbr.size;obtain⟨W2,hW2⟩:∃ W2,Sort.grow (redrawn W dq) osq=W2:=⟨_,rfl⟩;rw[hW2] at hv2 hvx2 xp hpW ⊢;have hown0:=hv2.2.1;clear hbr hW2 kz0 kz1 kq0 hvW hq hr0 dr;go_wp2_with fail;have hgs:g<W2.heap.size:=hv2.lt;have hps:w.heap.size<W2.heap.size:=hpW;have x0:W2.cell? ⟨g,0,none⟩=some (.slice A1 l1.length c1):=hv2.1.cell 0
   have hn1:(Value.slice A1 l1.length c1).ownBlock≠some g:=fun e=>by have:=(hown0.lt _ e).1; omega
   have Hn1:=qq hn1;have Ho:=qq hown0;have Hv2:=qq hv2;clear hn1 hown0 hv2;refine wp_region_noPanic ?_;refine wp_region_T (fun w'=>w'.cell? ⟨g,0,none⟩=some (.slice A1 l1.length c1)∧w'.cell? ⟨w.heap.size,1,none⟩=some (.int .i64 n)) 9 (by kernel_rfl) ⟨x0,xp⟩ (fun hHeld=>?_);refine nx0 0 ?_
   iterate 7 (refine nx (v:=?_) rfl (by kernel_rfl) (fun _ _ _ h=>h) (by rfl) ?_ (by assumption) ?_; rotate_left; focus (intro w hSw; (try dsimp only at hSw); first | (go_simp; done) | (go_simp; with_reducible rfl)); try simp only[Act.put,qg,qe,qf,qd,qh,qi,Nat.reduceAdd])
   refine nx9 ?_;refine wpAnyT_step (i:=7) (by kernel_rfl) rfl (fun K hK=>?_);go_simp;refine hK.out _ _ ⟨(World.cell?_alloc_lt _ _ ⟨g,0,none⟩ hgs).trans x0,(World.cell?_alloc_lt _ _ ⟨w.heap.size,1,none⟩ hps).trans xp⟩ ?_;clear hK K
   try simp only[Act.put,qg,qe,qf,qd,qh,qi]
   refine wpAnyT_step (i:=8) (by kernel_rfl) rfl (fun K hK=>?_)
   (refine step_append_rd _ (by rfl) (.tmp 22) (.tmp 25) 30 (by rfl) (g+1) 3 i0 _ 1 8 Tryz.underlying30 hi0 hz0 hz1 hz2 rfl (by omega) (.slice A1 l1.length c1) l1.length (l1.map (Value.int .i64)) (by rfl) (Ho.out.alloc _) _ (some ⟨W2.heap.size,0,none⟩) 1 1 [.int .i64 n] (by rfl) (Rd.new _ [.int .i64 n] _) (by intro u hu; simp at hu; subst hu; rfl) (by unfold maxLen; omega) (by omega) (by simp; omega) ?_; intro v4 w4 ho4 hg4 hat4; obtain⟨A4,c4,rfl⟩:=ownsRow_form ho4; have hg5:=grown_drew_alloc hg4; have hq4:=Blk.grown Hv2.out.1 hg5 (Ne.symm Hn1.out); have hp4:=(World.cell?_of_block (hg5.block w.heap.size hps (Ne.symm HnP1.out)):w4.cell? ⟨w.heap.size,1,none⟩=W2.cell? ⟨w.heap.size,1,none⟩).trans xp)
   refine hK.out _ _ ⟨hq4.cell 0,hp4⟩ ?_;clear hK K
   try simp only[Act.put,qg,qe,qf,qd,qh,qi]
   have f2:w4.frozen? ⟨g,0,none⟩=false:=hq4.frozen 0;have y1:w4.cell? ⟨g,0,none⟩=some (.slice A1 l1.length c1):=hq4.cell 0;refine wpAnyT_seq 9 (by omega) (by rfl) (by kernel_rfl) ?_;simp only[List.drop_succ_cons,List.drop_zero];go_wp2_with fail;refine NoPanic.normal ?_
   have hnt:=Hv2.out.note1 (x:=n) ho4 hg5 (hat4.imp id fun e=>⟨_,e,by simp⟩)
   have hvs0:=hnt.1;have hvx:=hvx2.trans hnt.2;clear hnt f2 y1 hp4 hq4 hg5 hat4 hg4 ho4 x0 xp hvx2 Hn1 Ho Hv2;obtain⟨W5,hW5⟩:∃ W5,w4.setCell ⟨g,0,none⟩ (.slice A4 (l1.length+1) c4)=W5:=⟨_,rfl⟩
   have e9:(l1++[n]).length=l1.length+1:=by simp
   obtain⟨l1',hl1'⟩:∃ l,l1++[n]=l:=⟨_,rfl⟩;rw[hW5] at hvs0 hvx ⊢;rw[hl1'] at hvs0 HE1 e9;clear hW5 hl1';go_wp2_with fail;have Hvx:=qq hvx;clear hvx
   go_loopg [4] m (fun gh i wr=>∃ (k:Nat) (A5:Option Addr) (c5:Nat) (A6:Option Addr) (c6:Nat),k≤m∧gh=m - k∧i=.int .i64 k∧SnAt wr g (addAll l1' ((L.take k).flatMap allV)) (addAll l2 ((L.take k).flatMap allM)) A5 c5 A6 c6∧SOut g W5 wr)
   case atStart=>exact⟨0,_,_,_,_,Nat.zero_le _,rfl,rfl,by simpa[addAll] using hvs0,SOut.refl _ _⟩
   case round=>
    obtain⟨k,A5,c5,A6,c6,hk,rfl,rfl,hvr0,hvr⟩:=hrel
    by_cases hkm:k<m
    · have d0:decide (k<m)=true:=by simpa using hkm
      have hk':k<L.length:=by omega
      have hsn:=hvr0;have hbw:Below s0 w0 wr:=Hb0.out.trans ((Hvx.out.trans hvr).1.mono hsg);obtain⟨b,off,rfl,hb,hc⟩:=HL.out.at_ (by omega);obtain⟨f0,f1,f2,f3,Ax,mx,cx,f4,hx⟩:=tyAt_iff.1 (hc k hk');have hcW:∀ j,wr.cell? ⟨b,j,none⟩=w0.cell? ⟨b,j,none⟩:=fun j=>hbw.cell (p:=⟨b,j,none⟩) hb;have e0:=(hcW _).trans f0;have e1:=(hcW _).trans f1;have e2:=(hcW _).trans f2;have e3:=(hcW _).trans f3;have e4:=(hcW _).trans f4;have hspl:=nodesL_split L k hk';have hih:=Hih.out L[k] (List.getElem_mem hk') Ax mx cx hx;have hvs:=hvr0.lt;obtain⟨x,hxk⟩:∃ x,L[k]=x:=⟨_,rfl⟩;rw[hxk] at e0 e1 e2 e3 hih hspl;have hzr:=Hz.out.sout (Hvx.out.trans hvr) hpg (by decide);have z0:=hzr.cell 0;have z4:=hzr.cell 4;clear f0 f1 f2 f3 f4 hx hcW hc;have Hzr:=qq hzr;have h1:=addAll_len ((L.take k).flatMap allV) l1';have h2:=flatV_le (L.take k);have h3:=addAll_len ((L.take k).flatMap allM) l2;have h4:=flatM_le false 0 (L.take k);rw[allM_plain] at h4
      have e5:addAll l1' ((L.take (k+1)).flatMap allV)=addAll (addAll l1' ((L.take k).flatMap allV)) (allV x):=by rw[← addAll_append,List.take_succ_eq_append_getElem hk',List.flatMap_append,hxk]; simp
      have e6:addAll l2 ((L.take (k+1)).flatMap allM)=addAll (addAll l2 ((L.take k).flatMap allM)) (allM x):=by rw[← addAll_append,List.take_succ_eq_append_getElem hk',List.flatMap_append,hxk]; simp
      obtain⟨X1,hX1⟩:∃ X,addAll l1' ((L.take k).flatMap allV)=X:=⟨_,rfl⟩;obtain⟨X2,hX2⟩:∃ X,addAll l2 ((L.take k).flatMap allM)=X:=⟨_,rfl⟩;rw[hX1] at hsn h1 e5;rw[hX2] at hsn h3 e6;have HE5:=qq e5;have HE6:=qq e6;have Hsn:=qq hsn;have Hvr:=qq hvr;have Hbw:=qq hbw
      have k1:(0:Int)≤(k:Int):=by omega
      have k2:(k:Int)<m:=by omega
      have kz0:=fun d os=>cell_regrown z0 d os;clear hvr hbw hvr0 hxk e5 e6 hX1 hX2 hsn hzr z0;go_wp2_with fail;refine wp_region_quiet_below (by kernel_rfl) (by kernel_rfl) ?_
      repeat (go_big_quiet_step (fail))
      refine wpQuiet_nil ?_;intro _ hw';obtain⟨⟨dq,osq⟩,hw''⟩:=hw';subst hw'';have hbr:=below_regrown wr dq osq;have hq:=hih (Sort.grow (redrawn wr dq) osq) X1 X2 A5 c5 A6 c6 (Hbw.out.trans (hbr.mono (by omega))) (Hsn.out.below hbr) hsg (by omega) (by omega);have Hq:=qq hq;have Hvr2:=qq (Hvr.out.trans (SOut.of_below (g:=g) (by omega) hbr));have y0:=cell_regrown e0 dq osq;have y1:=cell_regrown e1 dq osq;have y2:=cell_regrown e2 dq osq;have y3:=cell_regrown e3 dq osq;have y4:=cell_regrown e4 dq osq;have x4:=cell_regrown z4 dq osq;clear hq hih hbr kz0 e0 e1 e2 e3 e4 z4;go_wp2_with fail;refine Hq.out.mono ?_;rintro e w9 ⟨rfl,⟨A7,c7,A8,c8,h9⟩,h10⟩;clear Hq y0 y1 y2 y3 y4 x4;go_wp2_with fail;go_roundg (m - (k+1))
      case measure=>omega
      case rel=>exact⟨k+1,A7,c7,A8,c8,by omega,rfl,by go_num,by rw[HE5.out,HE6.out]; exact h9,Hvr2.out.trans h10⟩
    · have d0:decide (k<m)=false:=by simpa using hkm
      have hall:L.take k=L:=List.take_of_length_le (by omega);rw[hall] at hvr0;have hzr:=Hz.out.sout (Hvx.out.trans hvr) hpg (by decide);have z4:=hzr.cell 4;have Hv0:=qq hvr0;have Hvr:=qq hvr;clear hvr hvr0 hall hzr;go_wp2_with fail
      go_end0
      refine⟨rfl,⟨A5,c5,A6,c6,?_⟩,(Hvo.out.trans Hvx.out).trans Hvr.out⟩;rw[HE1.out,HE2.out];exact Hv0.out
 · have dr:decide (r<0)=false:=by simpa using hr0
   have HE1:Hid (addAll l1 (allV (.mk 1 n v c L))=addAll l1 (L.flatMap allV)):=qq (by rw[HE0.out,hneg.2 hr0]);clear hneg
   go_enter Tryz.func43,Tryz.ntmps43
   go_wp2_with fail;rw[HW.out];refine wp_region_quiet_below (by kernel_rfl) (by kernel_rfl) ?_
   repeat (go_big_quiet_step ((first | (go_at_call 101; exact Calls.regrown_of (hq.out _ _)))))
   refine wpQuiet_nil ?_;intro _ hw';obtain⟨⟨dq,osq⟩,hw''⟩:=hw';subst hw'';have hbr:=below_regrown W dq osq;have hvs0:=hvW.below hbr
   have hvx:=SOut.of_below (g:=g) (by have:=hvW.lt; omega) hbr
   obtain⟨W2,hW2⟩:∃ W2,Sort.grow (redrawn W dq) osq=W2:=⟨_,rfl⟩;rw[hW2] at hvs0 hvx ⊢;clear hbr hW2 kz0 kz1 kq0 hvW hq hr0 dr;go_wp2_with fail;have Hvx:=qq hvx;clear hvx
   go_loopg [4] m (fun gh i wr=>∃ (k:Nat) (A5:Option Addr) (c5:Nat) (A6:Option Addr) (c6:Nat),k≤m∧gh=m - k∧i=.int .i64 k∧SnAt wr g (addAll l1 ((L.take k).flatMap allV)) (addAll l2 ((L.take k).flatMap allM)) A5 c5 A6 c6∧SOut g W2 wr)
   case atStart=>exact⟨0,_,_,_,_,Nat.zero_le _,rfl,rfl,by simpa[addAll] using hvs0,SOut.refl _ _⟩
   case round=>
    obtain⟨k,A5,c5,A6,c6,hk,rfl,rfl,hvr0,hvr⟩:=hrel
    by_cases hkm:k<m
    · have d0:decide (k<m)=true:=by simpa using hkm
      have hk':k<L.length:=by omega
      have hsn:=hvr0;have hbw:Below s0 w0 wr:=Hb0.out.trans ((Hvx.out.trans hvr).1.mono hsg);obtain⟨b,off,rfl,hb,hc⟩:=HL.out.at_ (by omega);obtain⟨f0,f1,f2,f3,Ax,mx,cx,f4,hx⟩:=tyAt_iff.1 (hc k hk');have hcW:∀ j,wr.cell? ⟨b,j,none⟩=w0.cell? ⟨b,j,none⟩:=fun j=>hbw.cell (p:=⟨b,j,none⟩) hb;have e0:=(hcW _).trans f0;have e1:=(hcW _).trans f1;have e2:=(hcW _).trans f2;have e3:=(hcW _).trans f3;have e4:=(hcW _).trans f4;have hspl:=nodesL_split L k hk';have hih:=Hih.out L[k] (List.getElem_mem hk') Ax mx cx hx;have hvs:=hvr0.lt;obtain⟨x,hxk⟩:∃ x,L[k]=x:=⟨_,rfl⟩;rw[hxk] at e0 e1 e2 e3 hih hspl;have hzr:=Hz.out.sout (Hvx.out.trans hvr) hpg (by decide);have z0:=hzr.cell 0;have z4:=hzr.cell 4;clear f0 f1 f2 f3 f4 hx hcW hc;have Hzr:=qq hzr;have h1:=addAll_len ((L.take k).flatMap allV) l1;have h2:=flatV_le (L.take k);have h3:=addAll_len ((L.take k).flatMap allM) l2;have h4:=flatM_le false 0 (L.take k);rw[allM_plain] at h4
      have e5:addAll l1 ((L.take (k+1)).flatMap allV)=addAll (addAll l1 ((L.take k).flatMap allV)) (allV x):=by rw[← addAll_append,List.take_succ_eq_append_getElem hk',List.flatMap_append,hxk]; simp
      have e6:addAll l2 ((L.take (k+1)).flatMap allM)=addAll (addAll l2 ((L.take k).flatMap allM)) (allM x):=by rw[← addAll_append,List.take_succ_eq_append_getElem hk',List.flatMap_append,hxk]; simp
      obtain⟨X1,hX1⟩:∃ X,addAll l1 ((L.take k).flatMap allV)=X:=⟨_,rfl⟩;obtain⟨X2,hX2⟩:∃ X,addAll l2 ((L.take k).flatMap allM)=X:=⟨_,rfl⟩;rw[hX1] at hsn h1 e5;rw[hX2] at hsn h3 e6;have HE5:=qq e5;have HE6:=qq e6;have Hsn:=qq hsn;have Hvr:=qq hvr;have Hbw:=qq hbw
      have k1:(0:Int)≤(k:Int):=by omega
      have k2:(k:Int)<m:=by omega
      have kz0:=fun d os=>cell_regrown z0 d os;clear hvr hbw hvr0 hxk e5 e6 hX1 hX2 hsn hzr z0;go_wp2_with fail;refine wp_region_quiet_below (by kernel_rfl) (by kernel_rfl) ?_
      repeat (go_big_quiet_step (fail))
      refine wpQuiet_nil ?_;intro _ hw';obtain⟨⟨dq,osq⟩,hw''⟩:=hw';subst hw'';have hbr:=below_regrown wr dq osq;have hq:=hih (Sort.grow (redrawn wr dq) osq) X1 X2 A5 c5 A6 c6 (Hbw.out.trans (hbr.mono (by omega))) (Hsn.out.below hbr) hsg (by omega) (by omega);have Hq:=qq hq;have Hvr2:=qq (Hvr.out.trans (SOut.of_below (g:=g) (by omega) hbr));have y0:=cell_regrown e0 dq osq;have y1:=cell_regrown e1 dq osq;have y2:=cell_regrown e2 dq osq;have y3:=cell_regrown e3 dq osq;have y4:=cell_regrown e4 dq osq;have x4:=cell_regrown z4 dq osq;clear hq hih hbr kz0 e0 e1 e2 e3 e4 z4;go_wp2_with fail;refine Hq.out.mono ?_;rintro e w9 ⟨rfl,⟨A7,c7,A8,c8,h9⟩,h10⟩;clear Hq y0 y1 y2 y3 y4 x4;go_wp2_with fail;go_roundg (m - (k+1))
      case measure=>omega
      case rel=>exact⟨k+1,A7,c7,A8,c8,by omega,rfl,by go_num,by rw[HE5.out,HE6.out]; exact h9,Hvr2.out.trans h10⟩
    · have d0:decide (k<m)=false:=by simpa using hkm
      have hall:L.take k=L:=List.take_of_length_le (by omega);rw[hall] at hvr0;have hzr:=Hz.out.sout (Hvx.out.trans hvr) hpg (by decide);have z4:=hzr.cell 4;have Hv0:=qq hvr0;have Hvr:=qq hvr;clear hvr hvr0 hall hzr;go_wp2_with fail
      go_end0
      refine⟨rfl,⟨A5,c5,A6,c6,?_⟩,(Hvo.out.trans Hvx.out).trans Hvr.out⟩;rw[HE1.out,HE2.out];exact Hv0.out
theorem see_fun (g s0:Nat) (w0:World) (n v c:Int) (L:List TyD) (ih:∀ x∈L,SeeAt g s0 w0 x):SeeAt g s0 w0 (.mk 7 n v c L):=by
 obtain⟨i0,hi0,hz0,hz1,hz2⟩:=info_parts infoI;intro A m cp hl w l1 l2 A1 c1 A2 c2 hbel hv hsg hb1 hb2;have hnod:nodes (.mk (7) n v c L)=1+nodes.nodesL L:=nodes_eq _;rw[hnod] at hb1 hb2;replace hl:TysV w0 s0 A m cp L:=hl;show Calls Tryz.prog 43 #[.pointer (some ⟨g,0,none⟩),.agg #[.int .u8 (7),.int .i64 n,.int .i64 v,.int .u8 c,.slice A m cp]] w _;obtain⟨W,hW⟩:∃ W,w.alloc (Obj.cells #[.int .u8 (7),.int .i64 n,.int .i64 v,.int .u8 c,.slice A m cp] 27)=W:=⟨_,rfl⟩;have hbx:=below_box (w:=w) (Obj.cells #[.int .u8 (7),.int .i64 n,.int .i64 v,.int .u8 c,.slice A m cp] 27);have hz:=blk_new w #[.int .u8 (7),.int .i64 n,.int .i64 v,.int .u8 c,.slice A m cp] 27;rw[hW] at hbx hz;have hgw:g<w.heap.size:=hv.lt
 have hnp1:(Value.slice A1 l1.length c1).ownBlock≠some w.heap.size:=fun e=>by have:=(hv.2.1.lt _ e).2; omega
 have hnp2:(Value.slice A2 l2.length c2).ownBlock≠some w.heap.size:=fun e=>by have:=(hv.2.2.1.lt _ e).2; omega
 have HnP1:=qq hnp1;have HnP2:=qq hnp2;clear hnp1 hnp2;have hvo:=SOut.of_below (g:=g) (by omega) hbx;have hvW:=hv.below hbx;have hlen:=hl.len;have m63:m≤9223372036854775807:=Nat.le_trans hl.2.1 hl.2.2.1;have HW:=qq hW;have Hz:=qq hz;have HL:=qq hl;have Hvo:=qq hvo;have Hb0:=qq (hbel.trans (hvo.1.mono hsg));have Hih:=qq ih;clear hbx hW hz hl hvo hbel hv ih;obtain⟨f,hf⟩:∃ f,decide (c=0)=f:=⟨_,rfl⟩
 have HE1:Hid (addAll l1 (allV (.mk 7 n v c L))=addAll l1 (L.flatMap allV)):=qq (by rw[allV_eq]; rfl)
 have HE2:Hid (addAll l2 (allM (.mk 7 n v c L))=addAll l2 (allM.go f v 0 L)):=qq (by rw[allM_eq,← hf]; rfl)
 have hfc:(c==0)=f:=by rw[← hf]; rfl
 have hpg:w.heap.size≠g:=by omega
 have kz0:=fun d os=>cell_regrown (show W.cell? ⟨w.heap.size,0,none⟩=some (.int .u8 7) from Hz.out.cell 0) d os
 clear hf
 go_enter Tryz.func43,Tryz.ntmps43
 go_wp2_with fail;rw[HW.out];refine wp_region_quiet_below (by kernel_rfl) (by kernel_rfl) ?_
 repeat (go_big_quiet_step (fail))
 refine wpQuiet_nil ?_;intro _ hw';obtain⟨⟨dq,osq⟩,hw''⟩:=hw';subst hw'';have hbr:=below_regrown W dq osq;have hvs0:=hvW.below hbr
 have hvx:=SOut.of_below (g:=g) (by have:=hvW.lt; omega) hbr
 obtain⟨W2,hW2⟩:∃ W2,Sort.grow (redrawn W dq) osq=W2:=⟨_,rfl⟩;rw[hW2] at hvs0 hvx ⊢;have Hvx:=qq hvx;clear hbr hW2 kz0 hvW hvx;go_wp2_with fail
 go_loopg [4] m (fun gh i wr=>∃ (k:Nat) (A5:Option Addr) (c5:Nat) (A6:Option Addr) (c6:Nat),k≤m∧gh=m - k∧i=.int .i64 k∧SnAt wr g (addAll l1 ((L.take k).flatMap allV)) (addAll l2 (allM.go f v 0 (L.take k))) A5 c5 A6 c6∧SOut g W2 wr)
 case atStart=>exact⟨0,_,_,_,_,Nat.zero_le _,rfl,rfl,by rw[List.take_zero,allM.go]; exact hvs0,SOut.refl _ _⟩
 case round=>
  obtain⟨k,A5,c5,A6,c6,hk,rfl,rfl,hvr0,hvr⟩:=hrel
  by_cases hkm:k<m
  · have d0:decide (k<m)=true:=by simpa using hkm
    have hk':k<L.length:=by omega
    have hbw:Below s0 w0 wr:=Hb0.out.trans ((Hvx.out.trans hvr).1.mono hsg);obtain⟨b,off,rfl,hb,hc⟩:=HL.out.at_ (by omega);obtain⟨f0,f1,f2,f3,Ax,mx,cx,f4,hx⟩:=tyAt_iff.1 (hc k hk');have hcW:∀ j,wr.cell? ⟨b,j,none⟩=w0.cell? ⟨b,j,none⟩:=fun j=>hbw.cell (p:=⟨b,j,none⟩) hb;have e0:=(hcW _).trans f0;have e1:=(hcW _).trans f1;have e2:=(hcW _).trans f2;have e3:=(hcW _).trans f3;have e4:=(hcW _).trans f4;have hspl:=nodesL_split L k hk';have hih:=Hih.out L[k] (List.getElem_mem hk') Ax mx cx hx;have hvs:=hvr0.lt;obtain⟨x,hxk⟩:∃ x,L[k]=x:=⟨_,rfl⟩;rw[hxk] at e0 e1 e2 e3 f0 f1 f2 f3 hih hspl;have hzr:=Hz.out.sout (Hvx.out.trans hvr) hpg (by decide);have z0:=hzr.cell 0;have z4:=hzr.cell 4;have z2:=hzr.cell 2;have z3:=hzr.cell 3;have kz0:=fun d os=>cell_regrown z0 d os;have kz3:=fun d os=>cell_regrown z3 d os;have hm1:=flatV_le (L.take k);have hm2:=flatM_le f v (L.take k);have h1:=addAll_len ((L.take k).flatMap allV) l1;have h2:=addAll_len (allM.go f v 0 (L.take k)) l2
    have htk:(L.take k).length=k:=by rw[List.length_take]; omega
    have HE5:Hid (addAll l1 ((L.take (k+1)).flatMap allV)=addAll (addAll l1 ((L.take k).flatMap allV)) (allV x)):=qq (by
     rw[← addAll_append,List.take_succ_eq_append_getElem hk',List.flatMap_append,hxk]; simp)
    have he6:addAll l2 (allM.go f v 0 (L.take (k+1)))=addAll (addAll l2 (allM.go f v 0 (L.take k))) ((if f&&decide (k=1) then [v] else [])++allM x):=by
     rw[← addAll_append,List.take_succ_eq_append_getElem hk',hxk,allM_snoc,htk,Nat.zero_add]
    obtain⟨X1,hX1⟩:∃ X,addAll l1 ((L.take k).flatMap allV)=X:=⟨_,rfl⟩;obtain⟨X2,hX2⟩:∃ X,addAll l2 (allM.go f v 0 (L.take k))=X:=⟨_,rfl⟩;rw[hX1] at hvr0 h1 HE5;rw[hX2] at hvr0 h2 he6;have Hsn:=qq hvr0;have Hvr:=qq hvr;have Hbw:=qq hbw;have Hzr:=qq hzr;have Hih2:=qq hih;have hnp:=HnP2
    have k1:(0:Int)≤(k:Int):=by omega
    have k2:(k:Int)<m:=by omega
    clear hx hcW hc hX1 hX2 hvr0 hvr hbw hzr hih hxk
    by_cases hk1:k=1
    · have dk1:((k:Int)==1)=true:=by simp[hk1]
      cases f with
      | true=>
        rw[decide_eq_true hk1] at he6;have hm3:=flatM_le1 true v (L.take k) (by omega)
        have he7:addAll l2 (allM.go true v 0 (L.take (k+1)))=addAll (addN X2 v) (allM x):=by rw[he6]; rfl
        obtain⟨r,hr⟩:∃ r,idxN X2 v=r:=⟨_,rfl⟩;have hneg:=idxN_neg hr;have hq:=fun d os=>refAt_any A6 X2.length c6 X2 v (Sort.grow (redrawn wr d) os) _ (Hsn.out.r2.below (below_regrown wr d os)) r hr;have hq:=qq hq;have kz2:=fun d os=>cell_regrown z2 d os
        have kq1:=fun d os=>cell_regrown (show wr.cell? ⟨g,1,none⟩=some (.slice A6 X2.length c6) from Hsn.out.1.cell 1) d os
        clear hk1 he6 hr
        by_cases hr0:r<0
        · have dr:decide (r<0)=true:=by simpa using hr0
          have HE6:Hid (addAll l2 (allM.go true v 0 (L.take (k+1)))=addAll (X2++[v]) (allM x)):=qq (by rw[he7,hneg.1 hr0]);clear he7 hneg;go_wp2_with fail;refine wp_region_quiet_below (by kernel_rfl) (by kernel_rfl) ?_
          repeat (go_big_quiet_step ((first | (go_at_call 101; exact Calls.regrown_of (hq.out _ _)))))
          refine wpQuiet_nil ?_;intro _ hw';obtain⟨⟨dq,osq⟩,hw''⟩:=hw';subst hw'';have hbr:=below_regrown wr dq osq;have hsn5:=Hsn.out.below hbr;have hbw5:=Hbw.out.trans (hbr.mono (by omega));have hso5:=SOut.of_below (g:=g) (by omega) hbr;have hzr5:=Hzr.out.below hbr Hzr.out.lt;have hpW:=hzr5.lt;have hcE:∀ j,(Sort.grow (redrawn wr dq) osq).cell? ⟨b,j,none⟩=w0.cell? ⟨b,j,none⟩:=fun j=>hbw5.cell (p:=⟨b,j,none⟩) hb;obtain⟨W5,hW5⟩:∃ W5,Sort.grow (redrawn wr dq) osq=W5:=⟨_,rfl⟩;rw[hW5] at hsn5 hbw5 hso5 hzr5 hpW hcE ⊢;clear hbr hW5 kz0 kz3 e0 e1 e2 e3 e4 z0 z4 z2 z3;have xp:=hzr5.cell 2;have hown0:=hsn5.2.2.1
          have hnpp:(Value.slice A6 X2.length c6).ownBlock≠some w.heap.size:=fun e=>by
           obtain⟨cs,fz,e2⟩:=owns_kind hown0 _ e;have h9:=hzr5;unfold Blk at h9;rw[h9] at e2
           injection e2 with e2
           injection e2 with _ e3 _
           exact absurd e3 (by decide)
          have HnPP:=qq hnpp;clear hnpp kz2 kq1 hq hr0 dr;go_wp2_with fail;have hgs:g<W5.heap.size:=hsn5.lt;have hps:w.heap.size<W5.heap.size:=hpW;have x0:W5.cell? ⟨g,1,none⟩=some (.slice A6 X2.length c6):=hsn5.1.cell 1
          have hn1:(Value.slice A6 X2.length c6).ownBlock≠some g:=fun e=>by have:=(hown0.lt _ e).1; omega
          have Hn1:=qq hn1;have Ho:=qq hown0;have Hv2:=qq hsn5;clear hn1 hown0 hsn5;refine wp_region_noPanic ?_;refine wp_region_T (fun w'=>w'.cell? ⟨g,1,none⟩=some (.slice A6 X2.length c6)∧w'.cell? ⟨w.heap.size,2,none⟩=some (.int .i64 v)) 10 (by kernel_rfl) ⟨x0,xp⟩ (fun hHeld=>?_);refine nx0 0 ?_
          iterate 8 (refine nx (v:=?_) rfl (by kernel_rfl) (fun _ _ _ h=>h) (by rfl) ?_ (by assumption) ?_; rotate_left; focus (intro w hSw; (try dsimp only at hSw); first | (go_simp; done) | (go_simp; with_reducible rfl)); try simp only[Act.put,qg,qe,qf,qd,qh,qi,Nat.reduceAdd])
          refine nx9 ?_;refine wpAnyT_step (i:=8) (by kernel_rfl) rfl (fun K hK=>?_);go_simp;refine hK.out _ _ ⟨(World.cell?_alloc_lt _ _ ⟨g,1,none⟩ hgs).trans x0,(World.cell?_alloc_lt _ _ ⟨w.heap.size,2,none⟩ hps).trans xp⟩ ?_;clear hK K
          try simp only[Act.put,qg,qe,qf,qd,qh,qi]
          refine wpAnyT_step (i:=9) (by kernel_rfl) rfl (fun K hK=>?_)
          (refine step_append_rd _ (by rfl) (.tmp 64) (.tmp 68) 30 (by rfl) (g+1) 3 i0 _ 1 8 Tryz.underlying30 hi0 hz0 hz1 hz2 rfl (by omega) (.slice A6 X2.length c6) X2.length (X2.map (Value.int .i64)) (by rfl) (Ho.out.alloc _) _ (some ⟨W5.heap.size,0,none⟩) 1 1 [.int .i64 v] (by rfl) (Rd.new _ [.int .i64 v] _) (by intro u hu; simp at hu; subst hu; rfl) (by unfold maxLen; omega) (by omega) (by simp; omega) ?_; intro v4 w4 ho4 hg4 hat4; obtain⟨A4,c4,rfl⟩:=ownsRow_form ho4; have hg5:=grown_drew_alloc hg4; have hq4:=Blk.grown Hv2.out.1 hg5 (Ne.symm Hn1.out); have hp4:=(World.cell?_of_block (hg5.block w.heap.size hps (Ne.symm HnPP.out)):w4.cell? ⟨w.heap.size,2,none⟩=W5.cell? ⟨w.heap.size,2,none⟩).trans xp)
          refine hK.out _ _ ⟨hq4.cell 1,hp4⟩ ?_;clear hK K
          try simp only[Act.put,qg,qe,qf,qd,qh,qi]
          have f2':w4.frozen? ⟨g,1,none⟩=false:=hq4.frozen 1;have y1':w4.cell? ⟨g,1,none⟩=some (.slice A6 X2.length c6):=hq4.cell 1;refine wpAnyT_seq 10 (by omega) (by rfl) (by kernel_rfl) ?_;simp only[List.drop_succ_cons,List.drop_zero];go_wp2_with fail;refine NoPanic.normal ?_
          have hnt:=Hv2.out.note2 (x:=v) ho4 hg5 (hat4.imp id fun e=>⟨_,e,by simp⟩)
          have hsn6:=hnt.1;have hso6:=hso5.trans hnt.2;have hzr6:=hzr5.sout hnt.2 hpg (by decide);have hbw6:=hbw5.trans (hnt.2.1.mono hsg);have hcE6:∀ j,(w4.setCell ⟨g,1,none⟩ (.slice A4 (X2.length+1) c4)).cell? ⟨b,j,none⟩=w0.cell? ⟨b,j,none⟩:=fun j=>hbw6.cell (p:=⟨b,j,none⟩) hb;clear hnt f2' y1' hp4 hq4 hg5 hat4 hg4 ho4 x0 xp Hn1 Ho Hv2 hcE hso5 hbw5 hzr5;obtain⟨W6,hW6⟩:∃ W6,w4.setCell ⟨g,1,none⟩ (.slice A4 (X2.length+1) c4)=W6:=⟨_,rfl⟩
          have e9:(X2++[v]).length=X2.length+1:=by simp
          obtain⟨X2',hX2'⟩:∃ l,X2++[v]=l:=⟨_,rfl⟩;rw[hW6] at hsn6 hso6 hzr6 hbw6 hcE6 ⊢;rw[hX2'] at hsn6 HE6 e9;clear hW6 hX2';have y0:=(hcE6 _).trans f0;have y1:=(hcE6 _).trans f1;have y2:=(hcE6 _).trans f2;have y3:=(hcE6 _).trans f3;have y4:=(hcE6 _).trans f4;have x4:=hzr6.cell 4;have Hvr5:=qq (Hvr.out.trans hso6);have hsn5:=hsn6;have hbw5:=hbw6;clear hcE6 f0 f1 f2 f3 f4 hzr6 hso6 hsn6 hbw6 hgs hps;have hq:=Hih2.out W6 X1 X2' _ _ _ _ hbw5 hsn5 hsg (by omega) (by omega);have Hq:=qq hq;clear hq hbw5 hsn5;go_wp2_with fail;refine Hq.out.mono ?_;rintro e w9 ⟨rfl,⟨A7,c7,A8,c8,h9⟩,h10⟩;clear Hq y0 y1 y2 y3 y4 x4;go_wp2_with fail;go_roundg (m - (k+1))
          case measure=>omega
          case rel=>exact⟨k+1,A7,c7,A8,c8,by omega,rfl,by go_num,by rw[HE5.out,HE6.out]; exact h9,Hvr5.out.trans h10⟩
        · have dr:decide (r<0)=false:=by simpa using hr0
          have HE6:Hid (addAll l2 (allM.go true v 0 (L.take (k+1)))=addAll X2 (allM x)):=qq (by rw[he7,hneg.2 hr0]);clear he7 hneg;go_wp2_with fail;refine wp_region_quiet_below (by kernel_rfl) (by kernel_rfl) ?_
          repeat (go_big_quiet_step ((first | (go_at_call 101; exact Calls.regrown_of (hq.out _ _)))))
          refine wpQuiet_nil ?_;intro _ hw';obtain⟨⟨dq,osq⟩,hw''⟩:=hw';subst hw'';have hbr:=below_regrown wr dq osq;have hsn5:=Hsn.out.below hbr;have hbw5:=Hbw.out.trans (hbr.mono (by omega));have hso5:=SOut.of_below (g:=g) (by omega) hbr;have hzr5:=Hzr.out.below hbr Hzr.out.lt;have hpW:=hzr5.lt;have hcE:∀ j,(Sort.grow (redrawn wr dq) osq).cell? ⟨b,j,none⟩=w0.cell? ⟨b,j,none⟩:=fun j=>hbw5.cell (p:=⟨b,j,none⟩) hb;obtain⟨W5,hW5⟩:∃ W5,Sort.grow (redrawn wr dq) osq=W5:=⟨_,rfl⟩;rw[hW5] at hsn5 hbw5 hso5 hzr5 hpW hcE ⊢;clear hbr hW5 kz0 kz3 e0 e1 e2 e3 e4 z0 z4 z2 z3;clear kz2 kq1 hq hr0 dr;have y0:=(hcE _).trans f0;have y1:=(hcE _).trans f1;have y2:=(hcE _).trans f2;have y3:=(hcE _).trans f3;have y4:=(hcE _).trans f4;have x4:=hzr5.cell 4;have Hvr5:=qq (Hvr.out.trans hso5);clear hcE f0 f1 f2 f3 f4 hzr5 hso5;have hq:=Hih2.out W5 X1 X2 _ _ _ _ hbw5 hsn5 hsg (by omega) (by omega);have Hq:=qq hq;clear hq hbw5 hsn5;go_wp2_with fail;refine Hq.out.mono ?_;rintro e w9 ⟨rfl,⟨A7,c7,A8,c8,h9⟩,h10⟩;clear Hq y0 y1 y2 y3 y4 x4;go_wp2_with fail;go_roundg (m - (k+1))
          case measure=>omega
          case rel=>exact⟨k+1,A7,c7,A8,c8,by omega,rfl,by go_num,by rw[HE5.out,HE6.out]; exact h9,Hvr5.out.trans h10⟩
      | false=>
        have HE6:Hid (addAll l2 (allM.go false v 0 (L.take (k+1)))=addAll X2 (allM x)):=qq (by rw[he6]; rfl)
        clear hk1 he6;go_wp2_with fail;refine wp_region_quiet_below (by kernel_rfl) (by kernel_rfl) ?_
        repeat (go_big_quiet_step (fail))
        refine wpQuiet_nil ?_;intro _ hw';obtain⟨⟨dq,osq⟩,hw''⟩:=hw';subst hw'';have hbr:=below_regrown wr dq osq;have hsn5:=Hsn.out.below hbr;have hbw5:=Hbw.out.trans (hbr.mono (by omega));have hso5:=SOut.of_below (g:=g) (by omega) hbr;have hzr5:=Hzr.out.below hbr Hzr.out.lt;have hpW:=hzr5.lt;have hcE:∀ j,(Sort.grow (redrawn wr dq) osq).cell? ⟨b,j,none⟩=w0.cell? ⟨b,j,none⟩:=fun j=>hbw5.cell (p:=⟨b,j,none⟩) hb;obtain⟨W5,hW5⟩:∃ W5,Sort.grow (redrawn wr dq) osq=W5:=⟨_,rfl⟩;rw[hW5] at hsn5 hbw5 hso5 hzr5 hpW hcE ⊢;clear hbr hW5 kz0 kz3 e0 e1 e2 e3 e4 z0 z4 z2 z3;have y0:=(hcE _).trans f0;have y1:=(hcE _).trans f1;have y2:=(hcE _).trans f2;have y3:=(hcE _).trans f3;have y4:=(hcE _).trans f4;have x4:=hzr5.cell 4;have Hvr5:=qq (Hvr.out.trans hso5);clear hcE f0 f1 f2 f3 f4 hzr5 hso5;have hq:=Hih2.out W5 X1 X2 _ _ _ _ hbw5 hsn5 hsg (by omega) (by omega);have Hq:=qq hq;clear hq hbw5 hsn5;go_wp2_with fail;refine Hq.out.mono ?_;rintro e w9 ⟨rfl,⟨A7,c7,A8,c8,h9⟩,h10⟩;clear Hq y0 y1 y2 y3 y4 x4;go_wp2_with fail;go_roundg (m - (k+1))
        case measure=>omega
        case rel=>exact⟨k+1,A7,c7,A8,c8,by omega,rfl,by go_num,by rw[HE5.out,HE6.out]; exact h9,Hvr5.out.trans h10⟩
    · have dk1:((k:Int)==1)=false:=by simp; omega
      have HE6:Hid (addAll l2 (allM.go f v 0 (L.take (k+1)))=addAll X2 (allM x)):=qq (by rw[he6,decide_eq_false hk1,Bool.and_false]; rfl)
      clear hk1 he6;go_wp2_with fail;refine wp_region_quiet_below (by kernel_rfl) (by kernel_rfl) ?_
      repeat (go_big_quiet_step (fail))
      refine wpQuiet_nil ?_;intro _ hw';obtain⟨⟨dq,osq⟩,hw''⟩:=hw';subst hw'';have hbr:=below_regrown wr dq osq;have hsn5:=Hsn.out.below hbr;have hbw5:=Hbw.out.trans (hbr.mono (by omega));have hso5:=SOut.of_below (g:=g) (by omega) hbr;have hzr5:=Hzr.out.below hbr Hzr.out.lt;have hpW:=hzr5.lt;have hcE:∀ j,(Sort.grow (redrawn wr dq) osq).cell? ⟨b,j,none⟩=w0.cell? ⟨b,j,none⟩:=fun j=>hbw5.cell (p:=⟨b,j,none⟩) hb;obtain⟨W5,hW5⟩:∃ W5,Sort.grow (redrawn wr dq) osq=W5:=⟨_,rfl⟩;rw[hW5] at hsn5 hbw5 hso5 hzr5 hpW hcE ⊢;clear hbr hW5 kz0 kz3 e0 e1 e2 e3 e4 z0 z4 z2 z3;have y0:=(hcE _).trans f0;have y1:=(hcE _).trans f1;have y2:=(hcE _).trans f2;have y3:=(hcE _).trans f3;have y4:=(hcE _).trans f4;have x4:=hzr5.cell 4;have Hvr5:=qq (Hvr.out.trans hso5);clear hcE f0 f1 f2 f3 f4 hzr5 hso5;have hq:=Hih2.out W5 X1 X2 _ _ _ _ hbw5 hsn5 hsg (by omega) (by omega);have Hq:=qq hq;clear hq hbw5 hsn5;go_wp2_with fail;refine Hq.out.mono ?_;rintro e w9 ⟨rfl,⟨A7,c7,A8,c8,h9⟩,h10⟩;clear Hq y0 y1 y2 y3 y4 x4;go_wp2_with fail;go_roundg (m - (k+1))
      case measure=>omega
      case rel=>exact⟨k+1,A7,c7,A8,c8,by omega,rfl,by go_num,by rw[HE5.out,HE6.out]; exact h9,Hvr5.out.trans h10⟩
  · have d0:decide (k<m)=false:=by simpa using hkm
    have hall:L.take k=L:=List.take_of_length_le (by omega);rw[hall] at hvr0;have hzr:=Hz.out.sout (Hvx.out.trans hvr) hpg (by decide);have z4:=hzr.cell 4;have Hv0:=qq hvr0;have Hvr:=qq hvr;clear hvr hvr0 hall hzr;go_wp2_with fail
    go_end0
    refine⟨rfl,⟨A5,c5,A6,c6,?_⟩,(Hvo.out.trans Hvx.out).trans Hvr.out⟩;rw[HE1.out,HE2.out];exact Hv0.out
theorem see_any (g s0:Nat) (w0:World) (t:TyD):SeeAt g s0 w0 t:=by
 induction t using ty_ind with
 | h t ih=>
   obtain⟨k,n,v,c,L⟩:=t;have ih:∀ x∈L,SeeAt g s0 w0 x:=ih
   by_cases h1:k=1
   · subst h1; exact see_var g s0 w0 n v c L ih
   · by_cases h7:k=7
     · subst h7; exact see_fun g s0 w0 n v c L ih
     · exact see_else g s0 w0 k n v c L h1 h7 ih
end Go.Proofs.YtdmakpmbknindaaGreatDoor
