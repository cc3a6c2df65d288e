import Derived.Test.YtdmakpmbknindaaGreatDoorM1
import Derived.Test.YtdmakpmbknindaaGreatDoorM40
import Derived.Test.YtdmakpmbknindaaGreatDoorM16
import Derived.Test.YtdmakpmbknindaaGreatDoorM15
import Derived.Test.YtdmakpmbknindaaGreatDoorM19
import Derived.Test.YtdmakpmbknindaaGreatDoorM31
import Derived.Test.YtdmakpmbknindaaGreatDoorM33
import Derived.Deep.DeepCutAuto
import Derived.Test.YtdmakpmbknindaaGreatDoorM37
namespace Go.Proofs.YtdmakpmbknindaaGreatDoor
set_option linter.unusedVariables false
set_option linter.unusedSimpArgs false
open Go.RowKit
section
variable {P : Program} {ops : Array Oper} {Q : Exit → Act → World → Prop} {md : Region.Mode} {S : World → Prop} {tl : Nat}
variable {oi : Oper} {v : Value} {fuel k : Nat} {l : Array Bool} {a : Act} {w : World}
theorem nxk (hi : ops[k]? = some oi) (hb : okU md ops tl l k = true) (hQ : ∀ c a w, Q (.panic c) (a.put oi.dst undef) w → Q (.panic c) a w) (hw : Region.wanted oi (yielded ops a.tmps) = false) (hS : S w)
    (h : wpNx (k + 1) P md ops Q S tl fuel (l.setIfInBounds k true) (a.put oi.dst undef) w) : wpNx k P md ops Q S tl (fuel + 1) l a w := by
  unfold okU at hb
  simp only [Bool.and_eq_true] at hb
  exact wpAnyT_take hi hb.1 hb.2.1 hb.2.2.1 hb.2.2.2 hQ (Or.inr ⟨hw, rfl⟩) hS h
end
theorem rangeI_succ (k:Nat):rangeI (k+1)=rangeI k++[(k:Int)]:=by unfold rangeI; rw[List.range_succ,List.map_append]; rfl
theorem one_put {b:SchD} {t:TabD} (hb:OkSch b) (h:TabOf (multsT b.t).length (LetB b) t):putE b.t [] (pinL t (multsT b.t).length)=0∧putT b.t [] (pinL t (multsT b.t).length)=oneT b.t t (multsT b.t).length:=by
 have hbm:=mayTE_may hb.may
 have h0:putE b.t [] (pinL t (multsT b.t).length)=0:=by
  have hbad:putBad b.t [] (pinL t (multsT b.t).length)=false:=by
   unfold putBad;simp only[Bool.or_eq_false_iff,List.any_nil]
   refine⟨⟨by rw[hb.may]; rfl,trivial⟩,?_⟩
   rw[List.any_eq_false];intro x hx;obtain⟨i,hi,rfl⟩:=List.getElem_of_mem hx
   have hiK:i<(multsT b.t).length:=by rw[pinL_len] at hi; exact hi
   have e:(pinL t (multsT b.t).length)[i]=pinP t i:=by
    rw[← pinL_at t _ i hiK,List.getD_eq_getElem?_getD,qj hi]; rfl
   rw[e]
   have hB:isB (pinP t i).2 (pinP t i).1=true:=by
    rcases pin_ok h i hiK with ⟨q1,q2,q3,_⟩ | ⟨j,hj,e,_⟩
    · rw[q1]; exact isB_lc ⟨q2,q3⟩
    · rw[e]
      have:=allM_nonneg hbm _ (hb.mu_ hiK);unfold isB;simp;omega
   rw[hB];simp
  unfold putE;rw[hbad]
  have hg:grownW ([].map sizeW) b.t=sizeW b.t:=by
   have h1:=grown_nodes (fv:=fun _=>none) (fm:=fun v=>(v,0)) (sz:=[]) (t:=b.t) (fun n hn=>(allV_nonneg hbm n hn).1) (fun n hn=>by
    have:=(allV_nonneg hbm n hn).1
    rw[if_neg (by simp; omega)]; rfl) hbm
   unfold grownW sizeW;rw[List.map_nil,h1,turn_nodes _ hbm]
  rw[hg,if_neg (by simp),if_neg (by have:=(mayTE_facts hb.may).2; omega)]
 exact⟨h0,putT_of h0⟩
def MoreP (a b:SchD) (w:World) (e:Ending) (w':World):Prop:=∃ q,e=.returned (.bool q)∧(q=true↔MoreE a b)∧Below w.heap.size w w'
set_option maxRecDepth 100000 in
set_option maxHeartbeats 4000000 in
theorem schMore_any (a b:SchD) (v v':Value) (w:World) (hv:SchV w w.heap.size v a) (hv':SchV w w.heap.size v' b):
 Calls Tryz.prog 40 #[v,v'] w (MoreP a b w):=by
 obtain⟨A,m,cp,A1,c1,A2,c2,A3,c3,rfl,hr⟩:=hv;obtain⟨D,k,cq,D1,d1,D2,d2,D3,d3,rfl,hq⟩:=hv';obtain⟨i0,hi0,hz0,hz1,hz2⟩:=info_parts intInfo;have hk:=blk_new w (cellsS a A m cp A1 c1 A2 c2 A3 c3) 40;have hb:=below_box (w:=w) (Obj.cells (cellsS a A m cp A1 c1 A2 c2 A3 c3) 40);obtain⟨W,hW⟩:∃ x,w.alloc (Obj.cells (cellsS a A m cp A1 c1 A2 c2 A3 c3) 40)=x:=⟨_,rfl⟩
 have hs:W.heap.size=w.heap.size+1:=by rw[← hW]; simp
 rw[hW] at hk hb;have hk2:=blk_new W (cellsS b D k cq D1 d1 D2 d2 D3 d3) 40;have hb2:=below_box (w:=W) (Obj.cells (cellsS b D k cq D1 d1 D2 d2 D3 d3) 40);obtain⟨V,hV⟩:∃ x,W.alloc (Obj.cells (cellsS b D k cq D1 d1 D2 d2 D3 d3) 40)=x:=⟨_,rfl⟩;rw[hV] at hk2 hb2;rw[hs] at hk2;have hkV:=hk.below hb2 hk.lt;have HR:=qq ((hr.fresh hb).fresh hb2);have HQ:=qq ((hq.fresh hb).fresh hb2);have Hb:=qq (hb.trans (hb2.mono (by omega)))
 have hVV:(w.alloc (Obj.cells (cellsS a A m cp A1 c1 A2 c2 A3 c3) 40)).alloc (Obj.cells (cellsS b D k cq D1 d1 D2 d2 D3 d3) 40)=V:=by rw[hW,hV]
 unfold cellsS at hVV;have HV:=qq hVV;have HK:=qq hkV;have HL:=qq hk2;clear hk hb hW hs hk2 hb2 hV hkV hr hq hVV;unfold cellsS
 go_enter Tryz.func40,Tryz.ntmps40
 go_upto_region 1 with fail;rw[HV.out];obtain⟨x0,x1,x2,x3,x4,x5,x6,x7,x8,x9⟩:=box_cells HK.out;go_wp2_with fail;refine(schMay_any a _ V ⟨A,m,cp,A1,c1,A2,c2,A3,c3,rfl,HR.out⟩).mono ?_;rintro e w1 ⟨er1,rfl,hiff1,hb1⟩;have Hiff1:=qq hiff1;have HR1:=qq (HR.out.fresh hb1);have HQ1:=qq (HQ.out.fresh hb1);have HK1:=qq (HK.out.below hb1 HK.out.lt);have HL1:=qq (HL.out.below hb1 HL.out.lt);have Hb1:=qq (Hb.out.trans (hb1.mono Hb.out.size));clear x0 x1 x2 x3 x4 x5 x6 x7 x8 x9 hb1 hiff1 HR HQ HK HL Hb HV
 by_cases he1:er1=0
 · subst he1
   have Ha:=qq (Hiff1.out.1 rfl);obtain⟨x0,x1,x2,x3,x4,x5,x6,x7,x8,x9⟩:=box_cells HL1.out;go_wp2_with fail;refine(schMay_any b _ w1 ⟨D,k,cq,D1,d1,D2,d2,D3,d3,rfl,HQ1.out⟩).mono ?_;rintro e w2 ⟨er2,rfl,hiff2,hb2⟩;have Hiff2:=qq hiff2;have HR2:=qq (HR1.out.fresh hb2);have HQ2:=qq (HQ1.out.fresh hb2);have HK2:=qq (HK1.out.below hb2 HK1.out.lt);have HL2:=qq (HL1.out.below hb2 HL1.out.lt);have Hb2:=qq (Hb1.out.trans (hb2.mono Hb1.out.size));clear x0 x1 x2 x3 x4 x5 x6 x7 x8 x9 hb2 hiff2 HR1 HQ1 HK1 HL1 Hb1
   by_cases he2:er2=0
   · subst he2
     have Hbo:=qq (Hiff2.out.1 rfl);obtain⟨K,hK⟩:∃ K,(multsT b.t).length=K:=⟨_,rfl⟩;have HKe:=qq hK
     have hK150:K≤150:=by rw[← hK]; exact Hbo.out.tab.k150
     have htb:=Hbo.out.tab;rw[hK] at htb;have Htb:=qq htb;obtain⟨xs,hxs⟩:∃ xs,ownE b.tab K=xs:=⟨_,rfl⟩;have Hxs:=qq hxs;have hI:=fun w' v' (h:TabV w' w'.heap.size v' b.tab)=>ineqs5_wide K b.tab v' w' htb htb.rng hK150 h;rw[hxs] at hI;have HI:=qq hI;obtain⟨lx,hlx⟩:∃ n,xs.length=n:=⟨_,rfl⟩;have Hnx:=qq hlx;obtain⟨x0,x1,x2,x3,x4,x5,x6,x7,x8,x9⟩:=box_cells HL2.out;clear hK htb hxs hI x0 x1 x2 x3 x4 x5 x6;go_wp2_with fail;refine(HI.out w2 _ HQ2.out.tab).mono ?_;rintro e w3 ⟨Al,cl,rfl,hxv,hb3⟩
     have hm:b.mults=(K:Int):=by rw[Hbo.out.mu,HKe.out]
     rw[Hnx.out] at hxv ⊢;have Hxv:=qq hxv;have HR3:=qq (HR2.out.fresh hb3);have HQ3:=qq (HQ2.out.fresh hb3);have HK3:=qq (HK2.out.below hb3 HK2.out.lt);have HL3:=qq (HL2.out.below hb3 HL2.out.lt);have Hb3:=qq (Hb2.out.trans (hb3.mono Hb2.out.size));have Hm:=qq hm;obtain⟨x0,x1,x2,x3,x4,x5,x6,y7,y8,y9⟩:=box_cells HL3.out;rw[hm] at x1;clear x7 x8 x9 hb3 hxv hlx hm x0 x2 x3 x4 x5 x6 y7 y8 y9 HR2 HQ2 HK2 HL2 Hb2;go_wp2_with fail;clear x1
     go_loopg [7,34] K (fun gh s7 i wr=>∃ (j:Nat) (A:Option Addr) (c:Nat),j≤K∧gh=K - j∧s7=.slice A j c∧i=.int .i64 (j:Nat)∧wr.ownsRow w3.heap.size 3 1 (.slice A j c) j ((rangeI j).map (Value.int .i64))∧Below w3.heap.size w3 wr)
     case atStart=>exact⟨0,none,0,Nat.zero_le _,rfl,rfl,rfl,World.ownsRow_nil _ _ _ _,Below.refl _ _⟩
     case round=>
      obtain⟨j,Aj,cj,hj,rfl,rfl,rfl,hown,hbel⟩:=hrel
      by_cases hjK:j<K
      · have d0:decide (j<K)=true:=by simpa using hjK
        go_wp2_with (at_builtin; refine wpList_append_one w3 wr rfl (.tmp 37) (.tmp 39) 30 rfl w3.heap.size 3 i0 _ 1 8 Tryz.underlying30 hi0 hz0 hz1 hz2 rfl (by omega) (.slice Aj j cj) j _ rfl [.int .i64 (j:Int)] rfl (by intro u hu; simp at hu; subst hu; rfl) rfl hown (by unfold maxLen; omega) (by omega) hbel hbel.size ?_; intro A7 c7 w7 how7 hbelw7 hgw7 hzw7; clear hgw7)
        go_roundg (K - (j+1))
        case measure=>omega
        case rel=>exact⟨j+1,A7,c7,by omega,rfl,rfl,by simp,by rw[rangeI_succ,List.map_append]; exact how7,hbelw7⟩
      · have d0:decide (j<K)=false:=by simpa using hjK
        have hje:j=K:=by omega
        subst hje;obtain⟨w4,hw4⟩:∃ x,x=wr:=⟨_,rfl⟩;subst hw4;have hall:RdI .i64 w4 w4.heap.size Aj j cj (rangeI j):=RdI.of_own hown;have Hall:=qq hall;have HR4:=qq (HR3.out.fresh hbel);have HQ4:=qq (HQ3.out.fresh hbel);have HK4:=qq (HK3.out.below hbel HK3.out.lt);have HL4:=qq (HL3.out.below hbel HL3.out.lt);have Hb4:=qq (Hb3.out.trans (hbel.mono Hb3.out.size));have Hx4:=qq ((Hxv.out.below hbel).more hbel.size);obtain⟨x0,x1,x2,x3,x4,x5,x6,x7,x8,x9⟩:=box_cells HL4.out;rw[Hm.out] at x1;clear hown hbel hall x0 x2 x3 x4 x5 x6 x7 x8 x9 HR3 HQ3 HK3 HL3 Hb3;go_wp2_with fail;refine(project_any (j:Int) Al lx cl xs Aj j cj (rangeI j) w4 Hx4.out Hall.out).mono ?_;rintro e w5 ⟨v5,tab,e5,rfl,hv5,hR5,hb5⟩;obtain⟨T1,t1,T2,t2,T3,t3,rfl,hq1,hq2,hq3⟩:=hv5;have hky:=blk_new w5 #[.slice T1 tab.low.length t1,.slice T2 tab.up.length t2,.slice T3 tab.pair.length t3] 38;have hby:=below_box (w:=w5) (Obj.cells #[.slice T1 tab.low.length t1,.slice T2 tab.up.length t2,.slice T3 tab.pair.length t3] 38);obtain⟨g9,hg9⟩:∃ g,w5.heap.size=g:=⟨_,rfl⟩;obtain⟨w6,hw6⟩:∃ x,w5.alloc (Obj.cells #[.slice T1 tab.low.length t1,.slice T2 tab.up.length t2,.slice T3 tab.pair.length t3] 38)=x:=⟨_,rfl⟩;rw[hw6] at hky hby;rw[hg9] at hky;have hb46:=hb5.trans (hby.mono hb5.size);have HR5:=qq hR5;have Hw6:=qq hw6;have HKt:=qq hky;have HR6:=qq (HR4.out.fresh hb46);have HQ6:=qq (HQ4.out.fresh hb46);have HK6:=qq (HK4.out.below hb46 HK4.out.lt);have HL6:=qq (HL4.out.below hb46 HL4.out.lt);have Hb6:=qq (Hb4.out.trans (hb46.mono Hb4.out.size));have Hq1:=qq (hq1.freshM hby);have Hq2:=qq (hq2.freshM hby);have Hq3:=qq (hq3.fresh hby);clear x1 hky hby hw6 hb46 hq1 hq2 hq3 hR5 hb5 HR4 HQ4 HK4 HL4 Hb4
        by_cases he5:e5=0
        · subst he5
          go_upto_region 13 with fail;rw[Hw6.out];obtain⟨N5,hN5,hTR⟩:=HR5.out.table rfl
          obtain rfl:j=N5:=by omega
          have hlenr:(rangeI j).length=j:=by unfold rangeI; simp
          have hTab:TabOf j (LetB b) tab:=by
           have h1:=hTR.tab;rw[hlenr] at h1
           have e1:(rangeI j).map Int.toNat=List.range j:=by
            unfold rangeI;rw[List.map_map];exact List.map_id' _
           rw[e1,← Hxs.out] at h1;refine h1.congr fun m=>?_;rw[own_kept Htb.out.rng];show _↔LetsA (multsT b.t).length b.tab m;rw[HKe.out]
           exact⟨fun hh=>⟨hh.1.1,noneB_no fun i hi=>hh.1.2 i (by rw[← hh.1.1]; exact hi),hh.2⟩,fun hh=>⟨⟨hh.1,fun i hi=>lets_at hh hi⟩,hh.2.2⟩⟩
          have hne:∃ m,LetB b m:=by
           obtain⟨low,h1,_⟩:=hTR.ex;have:KeptE j xs (List.range j) ((List.range j).map fun v=>low.getD v 0):=⟨low,h1,rfl⟩;rw[← Hxs.out,own_kept Htb.out.rng] at this;refine⟨(List.range j).map fun v=>low.getD v 0,?_⟩;show LetsA (multsT b.t).length b.tab _;rw[HKe.out]
           exact⟨this.1.1,noneB_no fun i hi=>this.1.2 i (by rw[← this.1.1]; exact hi),this.2⟩
          have hokT:OkTab j tab:=hTab.ok hK150;have Htab:=qq hokT;have hTab2:=hTab;rw[← HKe.out] at hTab2;obtain⟨o,ho⟩:∃ o,oneT b.t tab j=o:=⟨_,rfl⟩;have hone:=one_put Hbo.out hTab2;have hom:=one_may Hbo.out hTab2;rw[HKe.out,ho] at hone hom;have Hone:=qq hone;have Hom:=qq (mayTE_may hom);have HTab:=qq hTab2;have Hne:=qq hne;have Ho:=qq ho
          have hKS:∀ W',Below w6.heap.size w6 W'→(W'.cell? ⟨w.heap.size+1,2,none⟩=some (.int .u8 b.t.k)∧W'.cell? ⟨w.heap.size+1,3,none⟩=some (.int .i64 b.t.n)∧W'.cell? ⟨w.heap.size+1,4,none⟩=some (.int .i64 b.t.v)∧W'.cell? ⟨w.heap.size+1,5,none⟩=some (.int .u8 b.t.c)∧W'.cell? ⟨w.heap.size+1,6,none⟩=some (.slice D k cq))∧W'.cell? ⟨g9,0,none⟩=some (.slice T1 tab.low.length t1)∧W'.cell? ⟨g9,1,none⟩=some (.slice T2 tab.up.length t2)∧W'.cell? ⟨g9,2,none⟩=some (.slice T3 tab.pair.length t3):=fun W' hW'=>by
           obtain⟨x0,x1,x2,x3,x4,x5,x6,x7,x8,x9⟩:=box_cells (HL6.out.below hW' HL6.out.lt);exact⟨⟨x2,x3,x4,x5,x6⟩,(HKt.out.below hW' HKt.out.lt).cell 0,(HKt.out.below hW' HKt.out.lt).cell 1,(HKt.out.below hW' HKt.out.lt).cell 2⟩
          have HKS:=qq hKS;clear hTR hlenr hTab hne hokT hTab2 ho hone hom hKS
          go_cut [11,12] (fun s11 s12 wx=>∃ (g:Nat) (Ao:Option Addr) (mo co:Nat),s11=.pointer (some ⟨g,0,none⟩)∧s12=.int .i64 0∧BT wx g o Ao mo co∧Below w6.heap.size w6 wx)
          case first=>
           refine wp_region_noPanic ?_;refine wp_region_T (fun W'=>(W'.cell? ⟨w.heap.size+1,2,none⟩=some (.int .u8 b.t.k)∧W'.cell? ⟨w.heap.size+1,3,none⟩=some (.int .i64 b.t.n)∧W'.cell? ⟨w.heap.size+1,4,none⟩=some (.int .i64 b.t.v)∧W'.cell? ⟨w.heap.size+1,5,none⟩=some (.int .u8 b.t.c)∧W'.cell? ⟨w.heap.size+1,6,none⟩=some (.slice D k cq))∧W'.cell? ⟨g9,0,none⟩=some (.slice T1 tab.low.length t1)∧W'.cell? ⟨g9,1,none⟩=some (.slice T2 tab.up.length t2)∧W'.cell? ⟨g9,2,none⟩=some (.slice T3 tab.pair.length t3)) 10 (by kernel_rfl) (HKS.out _ (Below.drew (Below.refl _ _))) (fun hHeld=>?_);have hbd:Below w6.heap.size w6 w6.drew:=Below.drew (Below.refl _ _);generalize w6.drew=W0 at hHeld hbd ⊢;refine nx0 0 ?_
           iterate 3 (refine nx (v:=?_) rfl (by kernel_rfl) (fun _ _ _ h=>h) (by rfl) ?_ (by assumption) ?_; rotate_left; focus (intro w hSw; (try dsimp only at hSw); first | (go_simp; done) | (go_simp; with_reducible rfl)); try simp only[Act.put,qg,qe,qf,qd,qh,qi,Nat.reduceAdd])
           refine nx9 ?_;clear hHeld;refine wpAnyT_two (i:=3) (j:=8) (by kernel_rfl) rfl rfl (fun K hK=>?_) (fun K hK=>?_)
           · skip
             go_simp; refine(pinned_any Htab.out _ W0 ⟨T1,t1,T2,t2,T3,t3,rfl,Hq1.out.freshM hbd,Hq2.out.freshM hbd,Hq3.out.fresh hbd⟩).mono ?_; rintro e U1 ⟨Ap,np,cpp,rfl,hmus,hb3⟩; have hb3':=(hbd).trans (hb3.mono (hbd).size)
             refine hK.out _ _ (HKS.out _ hb3') ?_;clear hK K
             try simp only[Act.put,qg,qe,qf,qd,qh,qi]
             refine wpAnyT_two (i:=4) (j:=8) (by kernel_rfl) rfl rfl (fun K hK=>?_) (fun K hK=>?_)
             · skip
               go_simp; refine(put_u Hone.out.2 Hone.out.1 D k cq none 0 0 Ap np cpp U1 ((HQ6.out.ty.below hb3').more (hb3').size) TysV.nil (hmus) (by omega)).mono ?_; rintro e U2 ⟨Ao,mo,co,rfl,hty,hb4⟩; have hb4':=(hb3').trans (hb4.mono (hb3').size)
               refine hK.out _ _ (HKS.out _ hb4') ?_;clear hK K
               try simp only[Act.put,qg,qe,qf,qd,qh,qi]
               have hHeld:=HKS.out _ hb4';refine nx0 5 ?_
               iterate 3 (refine nx (v:=?_) rfl (by kernel_rfl) (fun _ _ _ h=>h) (by rfl) ?_ (by assumption) ?_; rotate_left; focus (intro w hSw; (try dsimp only at hSw); first | (go_simp; done) | (go_simp; with_reducible rfl)); try simp only[Act.put,qg,qe,qf,qd,qh,qi,Nat.reduceAdd])
               refine nx9 ?_;clear hHeld;have hk8:=blk_new U2 z5 27;have hb8:=hb4'.trans ((below_box (w:=U2) (Obj.cells z5 27)).mono hb4'.size);have ht8:=(hty.below (below_box (w:=U2) (Obj.cells z5 27))).more (below_box (w:=U2) (Obj.cells z5 27)).size;have hg8:w6.heap.size≤U2.heap.size:=hb4'.size;refine wpAnyT_step (i:=8) (by kernel_rfl) rfl (fun K hK=>?_);go_simp;refine hK.out _ _ (HKS.out _ hb8) ?_;clear hK K
               try simp only[Act.put,qg,qe,qf,qd,qh,qi]
               obtain⟨gx,hgx⟩:∃ g,U2.heap.size=g:=⟨_,rfl⟩;obtain⟨U3,hU3⟩:∃ x,U2.alloc (Obj.cells z5 27)=x:=⟨_,rfl⟩;rw[hU3,hgx] at hk8;rw[hU3] at hb8 ht8 ⊢;rw[hgx] at hg8 ⊢;clear hU3 hgx hb4 hb4' hty hb3 hb3' hmus;have f0:=(hk8).frozen 0;have f1:=(hk8).frozen 1;have f2:=(hk8).frozen 2;have f3:=(hk8).frozen 3;have f4:=(hk8).frozen 4;have d0:(U3).cell? ⟨gx,0,none⟩=some (.int .u8 0):=(hk8).cell 0;have d1:(U3).cell? ⟨gx,1,none⟩=some (.int .i64 0):=(hk8).cell 1;have d2:(U3).cell? ⟨gx,2,none⟩=some (.int .i64 0):=(hk8).cell 2;have d3:(U3).cell? ⟨gx,3,none⟩=some (.int .u8 0):=(hk8).cell 3;have d4:(U3).cell? ⟨gx,4,none⟩=some (.slice none 0 0):=(hk8).cell 4;have hkF:=set5_blk (hk8) (.int .u8 o.k) (.int .i64 o.n) (.int .i64 o.v) (.int .u8 o.c) (.slice Ao mo co);have hiF:=set5_in (U3) (gx) (.int .u8 o.k) (.int .i64 o.n) (.int .i64 o.v) (.int .u8 o.c) (.slice Ao mo co);have hbF:=hiF.bel w6.heap.size w6 (by omega) (by omega) (hb8);have htF:=(ht8).zbox (w':=set5 (U3) (gx) (.int .u8 o.k) (.int .i64 o.n) (.int .i64 o.v) (.int .u8 o.c) (.slice Ao mo co)) (B':=(set5 (U3) (gx) (.int .u8 o.k) (.int .i64 o.n) (.int .i64 o.v) (.int .u8 o.c) (.slice Ao mo co)).heap.size) (mayT_l Hom.out) (hk8) z5_u8 hiF.other (Nat.le_of_eq hiF.size.symm);have hS9:=HKS.out _ hbF;refine wpAnyT_step (i:=9) (by kernel_rfl) rfl (fun K hK=>?_);go_simp;refine hK.out _ _ hS9 ?_;clear hK K
               try simp only[Act.put,qg,qe,qf,qd,qh,qi]
               have Hfin:=qq (And.intro hkF (And.intro htF hbF));clear f0 f1 f2 f3 f4 d0 d1 d2 d3 d4 hkF hiF hbF htF hS9;refine wpAnyT_seq 10 (by omega) (by rfl) (by kernel_rfl) ?_;simp only[List.drop_succ_cons,List.drop_zero];go_wp2_with fail;refine NoPanic.normal ?_;go_wp2_with fail;go_meet;exact⟨_,Ao,mo,co,rfl,rfl,⟨Hfin.out.1,Hfin.out.2.1⟩,Hfin.out.2.2⟩
             · skip
               have hk8:=blk_new U1 z5 27;have hbx:=below_box (w:=U1) (Obj.cells z5 27);have hb8:=hb3'.trans (hbx.mono hb3'.size);have hg8:w6.heap.size≤U1.heap.size:=hb3'.size;have hm8:=(hmus.below hbx).more hbx.size;go_simp;refine hK.out _ _ (HKS.out _ hb8) ?_;clear hK K
               try simp only[Act.put,qg,qe,qf,qd,qh,qi]
               obtain⟨gx,hgx⟩:∃ g,U1.heap.size=g:=⟨_,rfl⟩;obtain⟨U3,hU3⟩:∃ x,U1.alloc (Obj.cells z5 27)=x:=⟨_,rfl⟩;rw[hU3,hgx] at hk8;rw[hU3] at hb8 hm8 ⊢;rw[hgx] at hg8 ⊢;clear hU3 hgx hb3 hb3' hmus hbx;refine wpAnyT_step (i:=4) (by kernel_rfl) rfl (fun K hK=>?_)
               go_simp; refine(put_u Hone.out.2 Hone.out.1 D k cq none 0 0 Ap np cpp U3 ((HQ6.out.ty.below hb8).more (hb8).size) TysV.nil (hm8) (by omega)).mono ?_; rintro e U2 ⟨Ao,mo,co,rfl,hty,hb4⟩; have hb4':=(hb8).trans (hb4.mono (hb8).size)
               refine hK.out _ _ (HKS.out _ hb4') ?_;clear hK K
               try simp only[Act.put,qg,qe,qf,qd,qh,qi]
               have hHeld:=HKS.out _ hb4';refine nx0 5 ?_
               iterate 3 (refine nx (v:=?_) rfl (by kernel_rfl) (fun _ _ _ h=>h) (by rfl) ?_ (by assumption) ?_; rotate_left; focus (intro w hSw; (try dsimp only at hSw); first | (go_simp; done) | (go_simp; with_reducible rfl)); try simp only[Act.put,qg,qe,qf,qd,qh,qi,Nat.reduceAdd])
               refine nx9 ?_;have hk9:=hk8.below hb4 hk8.lt;clear hHeld hk8 hb8 hm8 hb4;have f0:=(hk9).frozen 0;have f1:=(hk9).frozen 1;have f2:=(hk9).frozen 2;have f3:=(hk9).frozen 3;have f4:=(hk9).frozen 4;have d0:(U2).cell? ⟨gx,0,none⟩=some (.int .u8 0):=(hk9).cell 0;have d1:(U2).cell? ⟨gx,1,none⟩=some (.int .i64 0):=(hk9).cell 1;have d2:(U2).cell? ⟨gx,2,none⟩=some (.int .i64 0):=(hk9).cell 2;have d3:(U2).cell? ⟨gx,3,none⟩=some (.int .u8 0):=(hk9).cell 3;have d4:(U2).cell? ⟨gx,4,none⟩=some (.slice none 0 0):=(hk9).cell 4;have hkF:=set5_blk (hk9) (.int .u8 o.k) (.int .i64 o.n) (.int .i64 o.v) (.int .u8 o.c) (.slice Ao mo co);have hiF:=set5_in (U2) (gx) (.int .u8 o.k) (.int .i64 o.n) (.int .i64 o.v) (.int .u8 o.c) (.slice Ao mo co);have hbF:=hiF.bel w6.heap.size w6 (by omega) (by omega) (hb4');have htF:=(hty).zbox (w':=set5 (U2) (gx) (.int .u8 o.k) (.int .i64 o.n) (.int .i64 o.v) (.int .u8 o.c) (.slice Ao mo co)) (B':=(set5 (U2) (gx) (.int .u8 o.k) (.int .i64 o.n) (.int .i64 o.v) (.int .u8 o.c) (.slice Ao mo co)).heap.size) (mayT_l Hom.out) (hk9) z5_u8 hiF.other (Nat.le_of_eq hiF.size.symm);have hS9:=HKS.out _ hbF;refine wpAnyT_step (i:=9) (by kernel_rfl) rfl (fun K hK=>?_);go_simp;refine hK.out _ _ hS9 ?_;clear hK K
               try simp only[Act.put,qg,qe,qf,qd,qh,qi]
               have Hfin:=qq (And.intro hkF (And.intro htF hbF));clear f0 f1 f2 f3 f4 d0 d1 d2 d3 d4 hkF hiF hbF htF hS9;refine wpAnyT_seq 10 (by omega) (by rfl) (by kernel_rfl) ?_;simp only[List.drop_succ_cons,List.drop_zero];go_wp2_with fail;refine NoPanic.normal ?_;go_wp2_with fail;go_meet;exact⟨_,Ao,mo,co,rfl,rfl,⟨Hfin.out.1,Hfin.out.2.1⟩,Hfin.out.2.2⟩
           · skip
             have hk8:=blk_new W0 z5 27;have hbx:=below_box (w:=W0) (Obj.cells z5 27);have hb8:=hbd.trans (hbx.mono hbd.size);have hg8:w6.heap.size≤W0.heap.size:=hbd.size;go_simp;refine hK.out _ _ (HKS.out _ hb8) ?_;clear hK K
             try simp only[Act.put,qg,qe,qf,qd,qh,qi]
             obtain⟨gx,hgx⟩:∃ g,W0.heap.size=g:=⟨_,rfl⟩;obtain⟨U3,hU3⟩:∃ x,W0.alloc (Obj.cells z5 27)=x:=⟨_,rfl⟩;rw[hU3,hgx] at hk8;rw[hU3] at hb8 ⊢;rw[hgx] at hg8 ⊢;clear hU3 hgx hbx;refine wpAnyT_step (i:=3) (by kernel_rfl) rfl (fun K hK=>?_)
             go_simp; refine(pinned_any Htab.out _ U3 ⟨T1,t1,T2,t2,T3,t3,rfl,Hq1.out.freshM hb8,Hq2.out.freshM hb8,Hq3.out.fresh hb8⟩).mono ?_; rintro e U1 ⟨Ap,np,cpp,rfl,hmus,hb3⟩; have hb3':=(hb8).trans (hb3.mono (hb8).size)
             refine hK.out _ _ (HKS.out _ hb3') ?_;clear hK K
             try simp only[Act.put,qg,qe,qf,qd,qh,qi]
             have hk9:=hk8.below hb3 hk8.lt;clear hk8 hb8 hb3;refine wpAnyT_step (i:=4) (by kernel_rfl) rfl (fun K hK=>?_)
             go_simp; refine(put_u Hone.out.2 Hone.out.1 D k cq none 0 0 Ap np cpp U1 ((HQ6.out.ty.below hb3').more (hb3').size) TysV.nil (hmus) (by omega)).mono ?_; rintro e U2 ⟨Ao,mo,co,rfl,hty,hb4⟩; have hb4':=(hb3').trans (hb4.mono (hb3').size)
             refine hK.out _ _ (HKS.out _ hb4') ?_;clear hK K
             try simp only[Act.put,qg,qe,qf,qd,qh,qi]
             have hHeld:=HKS.out _ hb4';refine nx0 5 ?_
             iterate 3 (refine nx (v:=?_) rfl (by kernel_rfl) (fun _ _ _ h=>h) (by rfl) ?_ (by assumption) ?_; rotate_left; focus (intro w hSw; (try dsimp only at hSw); first | (go_simp; done) | (go_simp; with_reducible rfl)); try simp only[Act.put,qg,qe,qf,qd,qh,qi,Nat.reduceAdd])
             refine nx9 ?_;have hk10:=hk9.below hb4 hk9.lt;clear hHeld hk9 hb3' hb4 hmus;have f0:=(hk10).frozen 0;have f1:=(hk10).frozen 1;have f2:=(hk10).frozen 2;have f3:=(hk10).frozen 3;have f4:=(hk10).frozen 4;have d0:(U2).cell? ⟨gx,0,none⟩=some (.int .u8 0):=(hk10).cell 0;have d1:(U2).cell? ⟨gx,1,none⟩=some (.int .i64 0):=(hk10).cell 1;have d2:(U2).cell? ⟨gx,2,none⟩=some (.int .i64 0):=(hk10).cell 2;have d3:(U2).cell? ⟨gx,3,none⟩=some (.int .u8 0):=(hk10).cell 3;have d4:(U2).cell? ⟨gx,4,none⟩=some (.slice none 0 0):=(hk10).cell 4;have hkF:=set5_blk (hk10) (.int .u8 o.k) (.int .i64 o.n) (.int .i64 o.v) (.int .u8 o.c) (.slice Ao mo co);have hiF:=set5_in (U2) (gx) (.int .u8 o.k) (.int .i64 o.n) (.int .i64 o.v) (.int .u8 o.c) (.slice Ao mo co);have hbF:=hiF.bel w6.heap.size w6 (by omega) (by omega) (hb4');have htF:=(hty).zbox (w':=set5 (U2) (gx) (.int .u8 o.k) (.int .i64 o.n) (.int .i64 o.v) (.int .u8 o.c) (.slice Ao mo co)) (B':=(set5 (U2) (gx) (.int .u8 o.k) (.int .i64 o.n) (.int .i64 o.v) (.int .u8 o.c) (.slice Ao mo co)).heap.size) (mayT_l Hom.out) (hk10) z5_u8 hiF.other (Nat.le_of_eq hiF.size.symm);have hS9:=HKS.out _ hbF;refine wpAnyT_step (i:=9) (by kernel_rfl) rfl (fun K hK=>?_);go_simp;refine hK.out _ _ hS9 ?_;clear hK K
             try simp only[Act.put,qg,qe,qf,qd,qh,qi]
             have Hfin:=qq (And.intro hkF (And.intro htF hbF));clear f0 f1 f2 f3 f4 d0 d1 d2 d3 d4 hkF hiF hbF htF hS9;refine wpAnyT_seq 10 (by omega) (by rfl) (by kernel_rfl) ?_;simp only[List.drop_succ_cons,List.drop_zero];go_wp2_with fail;refine NoPanic.normal ?_;go_wp2_with fail;go_meet;exact⟨_,Ao,mo,co,rfl,rfl,⟨Hfin.out.1,Hfin.out.2.1⟩,Hfin.out.2.2⟩
          case rest=>
           obtain⟨g,Ao,mo,co,rfl,rfl,hBT,hbx⟩:=hcut;have HBT:=qq hBT;have HR7:=qq (HR6.out.fresh hbx);have HK7:=qq (HK6.out.below hbx HK6.out.lt);have Hb7:=qq (Hb6.out.trans (hbx.mono Hb6.out.size));have HKt7:=qq (HKt.out.below hbx HKt.out.lt);have Hq17:=qq (Hq1.out.freshM hbx);have Hq27:=qq (Hq2.out.freshM hbx);have Hq37:=qq (Hq3.out.fresh hbx);obtain⟨x0,x1,x2,x3,x4,x5,x6,x7,x8,x9⟩:=box_cells HK7.out;obtain⟨y0,y1,y2,y3,y4⟩:=HBT.out.five;clear hBT hbx HR6 HK6 Hb6 HKt Hq1 Hq2 Hq3 x0 x1 x7 x8 x9;go_wp2_with fail;refine(match_any a.t o (mayTE_may Ha.out.may) A m cp Ao mo co _ HR7.out.ty HBT.out.2).mono ?_;rintro e w8 ⟨b1,b2,f1,f2,rfl,hm1,hr1,hm2,hr2,hb8⟩;obtain⟨⟨ok,σ⟩,hσ⟩:∃ q,fitsN (nodes a.t) a.t o StM.none=q:=⟨_,rfl⟩;rw[hσ] at hr2 ⊢
           have hpe:putsE a (oneT b.t tab j)=(ok,σ):=by rw[Ho.out]; exact hσ
           have hkz:=blk_new w8 #[.map (some b2)] 105;have hbz:=below_box (w:=w8) (Obj.cells #[.map (some b2)] 105);obtain⟨p14,hp14⟩:∃ g,w8.heap.size=g:=⟨_,rfl⟩;obtain⟨w9,hw9⟩:∃ x,w8.alloc (Obj.cells #[.map (some b2)] 105)=x:=⟨_,rfl⟩;rw[hw9,hp14] at hkz;rw[hw9] at hbz;have hb79:=hb8.trans (hbz.mono hb8.size);have Hw9:=qq hw9;have HR9:=qq (HR7.out.fresh hb79);have HK9:=qq (HK7.out.below hb79 HK7.out.lt);have Hb9:=qq (Hb7.out.trans (hb79.mono Hb7.out.size));have Hst9:Hid (MoreSt w9 p14 g9 b2 (capN (nodes a.t)) j tab σ f2 T1 t1 T2 t2 T3 t3):=qq ⟨hkz,hm2.fresh hbz,hr2,HKt7.out.below hb79 HKt7.out.lt,Hq17.out.freshM hb79,Hq27.out.freshM hb79,Hq37.out.fresh hb79⟩;have Hpe:=qq hpe;clear hσ hpe hkz hbz hw9 hb79 hm1 hr1 hm2 hr2 hb8 HR7 HK7 Hb7 HKt7 Hq17 Hq27 Hq37 x2 x3 x4 x5 x6 y0 y1 y2 y3 y4;go_upto_region 15 with fail;rw[Hw9.out];clear hp14;have hiff:=more_iff Ha.out Hbo.out HTab.out Hne.out;rw[HKe.out,Hpe.out] at hiff;have Hiff:=qq hiff;clear hiff
           cases ok with
           | false=>
             have hno:¬ MoreE a b:=fun h=>Bool.noConfusion (Hiff.out.1 h).1;have HNO:=qq (hno);have HBE:=qq (Hb9.out);go_wp2_with fail;go_ret;exact⟨false,rfl,⟨fun h=>Bool.noConfusion h,fun h=>absurd h HNO.out⟩,HBE.out⟩
           | true=>
             obtain⟨ka,hka⟩:∃ k,(multsT a.t).length=k:=⟨_,rfl⟩;have hta:=Ha.out.tab;obtain⟨hg,hmu⟩:=more_good Ha.out Hbo.out HTab.out (by rw[HKe.out,Hpe.out]);rw[HKe.out,Hpe.out,hka] at hg hmu;rw[hka] at hta;have hka150:=hta.k150;obtain⟨ys,hys⟩:∃ xs,ownE a.tab ka=xs:=⟨_,rfl⟩;have hidx:=own_idx hta;rw[hys] at hidx;have Hidx:=qq hidx;have hI:=fun w' v' (h:TabV w' w'.heap.size v' a.tab)=>ineqs5_wide ka a.tab v' w' hta hta.rng hka150 h;rw[hys] at hI;have HI2:=qq hI;have Hg:=qq hg;have Hmu:=qq hmu;have Hka:=qq hka;have Hys:=qq hys;obtain⟨x0,x1,x2,x3,x4,x5,x6,x7,x8,x9⟩:=box_cells HK9.out;clear hka hta hys hidx hI hg hmu x0 x1 x2 x3 x4 x5 x6;go_wp2_with fail;refine(HI2.out w9 _ HR9.out.tab).mono ?_;rintro e w10 ⟨Ay,cy,rfl,hyv,hb10⟩;obtain⟨ny,hny⟩:∃ n,ys.length=n:=⟨_,rfl⟩;rw[hny] at hyv ⊢;have Hst10:=qq (Hst9.out.fresh hb10);have Hb10:=qq (Hb9.out.trans (hb10.mono Hb9.out.size));have Hyv:=qq hyv
             have hcall:=containsMo_any (fun x=>!sureB tab (subQ σ.fm x)) p14 g9 Ay ny cy ys w10 hyv fun x hx w' hw'=>by
              obtain⟨i1,i2,i3,i4⟩:=Hidx.out x hx;have:=more1_any (q:=sureB tab (subQ σ.fm x)) Htab.out x i1 i2 (by omega) Hg.out Hmu.out rfl w' (Hst10.out.fresh hw');exact this
             have Hcall:=qq hcall;obtain⟨q,hqq⟩:∃ q,(ys.any fun x=>!sureB tab (subQ σ.fm x))=q:=⟨_,rfl⟩;rw[hqq] at Hcall;have Hqq:=qq hqq;clear hny hb10 hyv hcall hqq x7 x8 x9;go_wp2_with fail;refine Hcall.out.mono ?_;rintro e w11 ⟨rfl,hb11⟩;have Hb11:=qq (Hb10.out.trans (hb11.mono Hb10.out.size));clear hb11;go_wp2_with fail;go_ret;refine⟨!q,rfl,?_,Hb11.out⟩;rw[Hiff.out,Hka.out,Hys.out,← Hqq.out]
             constructor
             · intro h
               refine⟨by simp,fun x hx=>?_⟩
               have h:(ys.any fun x=>!sureB tab (subQ σ.fm x))=false:=by simpa using h
               have:=List.any_eq_false.1 h x hx
               simpa using this
             · rintro⟨_,h⟩
               have h:(ys.any fun x=>!sureB tab (subQ σ.fm x))=false:=by
                rw[List.any_eq_false];intro x hx;rw[h x hx];simp
               rw[h];rfl
        · have de:(e5 != 0)=true:=by simpa using he5
          have hyes:MoreE a b:=more_none Ha.out Hbo.out fun m hm=>by
           have hm:LetsA (multsT b.t).length b.tab m:=hm;rw[HKe.out] at hm
           have hs:SolE j xs m:=by
            rw[← Hxs.out];exact(own_sol Htb.out.rng).2 ⟨⟨hm.1,fun i hi=>lets_at hm hi⟩,hm.2.2⟩
           have hl:xs.length≤1048576:=by
            rw[← Hxs.out]
            exact Nat.le_trans (ownE_len b.tab j) (by have:j * (j+2)≤150 * 152:=Nat.mul_le_mul hK150 (by omega); omega)
           exact he5 (HR5.out.yes (by omega) hl ⟨by omega,.inl rfl,by rw[← Hxs.out]; exact own_may Htb.out.rng (by omega),fun z hz=>absurd hz (by simp)⟩ (by unfold rangeI; simp; omega) hs ⟨fun v hv=>by
            obtain⟨i,hi,rfl⟩:=List.mem_map.1 hv;have:=List.mem_range.1 hi
            exact⟨by omega,by omega⟩,by
            unfold rangeI List.Nodup;rw[List.pairwise_map]
            exact List.nodup_range.imp fun h e=>h (by omega)⟩)
          have Hyes:=qq hyes;clear he5 hyes;go_upto_region 11 with fail;rw[Hw6.out];go_wp2_with fail;go_ret;exact⟨true,rfl,⟨fun _=>Hyes.out,fun _=>rfl⟩,Hb6.out⟩
   · have de:(er2 != 0)=true:=by simpa using he2
     have hno:¬ MoreE a b:=fun h=>he2 (Hiff2.out.2 h.hb);clear he2;have HNO:=qq (hno);have HBE:=qq (Hb2.out);go_wp2_with fail;go_ret;exact⟨false,rfl,⟨fun h=>Bool.noConfusion h,fun h=>absurd h HNO.out⟩,HBE.out⟩
 · have de:(er1 != 0)=true:=by simpa using he1
   have hno:¬ MoreE a b:=fun h=>he1 (Hiff1.out.2 h.ha);clear he1;have HNO:=qq (hno);have HBE:=qq (Hb1.out);go_wp2_with fail;go_ret;exact⟨false,rfl,⟨fun h=>Bool.noConfusion h,fun h=>absurd h HNO.out⟩,HBE.out⟩
def aT:TyD:=.mk 7 0 0 0 [plainV 5,plainV 5]
def aC:TyD:=.mk 7 0 0 0 [plainV 0,plainV 0]
def aTab:TabD:=⟨[1],[3],[[1]]⟩
def aS:SchD:=⟨1,1,aC,aTab⟩
def bT:TyD:=.mk 7 0 0 2 [wholeD,wholeD]
def bS:SchD:=⟨0,0,bT,⟨[],[],[]⟩⟩
def oneD:TyD:=.mk 7 0 0 1 [wholeD,.mk 7 0 0 1 [textD,wholeD]]
theorem aT_may:mayTE aT=0:=by decide +kernel
theorem aT_m:multsT aT=[0]:=by decide +kernel
theorem aT_v:varsT aT=[5]:=by decide +kernel
theorem aT_can:canT aT=aC:=by
 have h:sameT (canT aT) aC=true:=by decide +kernel
 exact(sameT_iff _ _).1 h
theorem bT_may:mayTE bT=0:=by decide +kernel
theorem bT_m:multsT bT=[]:=by decide +kernel
theorem bT_v:varsT bT=[]:=by decide +kernel
theorem bT_can:canT bT=bT:=by
 have h:sameT (canT bT) bT=true:=by decide +kernel
 exact(sameT_iff _ _).1 h
theorem lt1 {i:Nat} (h:i<1):i=0:=by omega
theorem sol1 (x:Int) (h:1≤x∧x≤3):SolE 1 [] [x]:=⟨⟨rfl,fun v hv=>by obtain rfl:=lt1 hv; exact h⟩,fun y hy=>absurd hy (by simp)⟩
theorem tabA:TabOf 1 (KeptE 1 [] [0]) aTab:=by
 refine⟨rfl,rfl,rfl,fun i hi=>?_,fun i hi=>?_,fun i hi=>?_,fun i j hi hj=>?_,fun a ha=>?_,fun i hi=>?_,fun i hi=>?_,fun i j hi hj=>?_⟩
 · obtain rfl:=lt1 hi; rfl
 · obtain rfl:=lt1 hi; decide
 · obtain rfl:=lt1 hi; decide
 · obtain rfl:=lt1 hi; obtain rfl:=lt1 hj; decide
 · obtain⟨f,hf,rfl⟩:=ha
   intro i hi;obtain rfl:=lt1 hi;have:=hf.1.2 0 (by decide)
   refine⟨by show(1:Int)≤f.getD 0 0; omega,by show f.getD 0 0≤3; omega,fun j hj=>?_⟩
   obtain rfl:=lt1 hj;show f.getD 0 0≤max 1 (f.getD 0 0);omega
 · obtain rfl:=lt1 hi
   exact⟨[1],⟨[1],sol1 1 (by decide),rfl⟩,rfl⟩
 · obtain rfl:=lt1 hi
   exact⟨[3],⟨[3],sol1 3 (by decide),rfl⟩,rfl⟩
 · obtain rfl:=lt1 hi; obtain rfl:=lt1 hj
   exact .inl rfl
theorem closeA {s:SchD} {er:Int} (h:CloseR aT 1 [] s er):er=0∧s=aS:=by
 rcases h with ⟨h1,_,_⟩ | ⟨_,⟨⟨v,hv,hn⟩,_,_⟩ | ⟨_,tab,e1,hp,hE⟩⟩
 · exact absurd aT_may h1
 · rw[aT_m] at hv
   simp at hv;omega
 · rw[aT_m] at hp
   have hp:ProjR ((1:Nat):Int) [] [0] tab e1:=hp
   have h0:=hp.yes (by decide) (by decide) (okNil 1) (by decide) (sol1 1 (by decide)) ⟨by decide,by decide⟩
   obtain⟨N,hN,ht⟩:=hp.table h0
   obtain rfl:N=1:=by omega
   have htab:=ht.tab.unique tabA
   rcases hE with ⟨h1,_,_⟩ | ⟨_,h2,h3⟩
   · exact absurd h0 h1
   · refine⟨h2,?_⟩
     rw[h3,aT_v,aT_m,aT_can,htab];rfl
theorem closeB {s:SchD} {er:Int} (h:CloseR bT 0 [] s er):er=0∧s=bS:=by
 rcases h with ⟨h1,_,_⟩ | ⟨_,⟨⟨v,hv,hn⟩,_,_⟩ | ⟨_,tab,e1,hp,hE⟩⟩
 · exact absurd bT_may h1
 · rw[bT_m] at hv
   cases hv
 · rw[bT_m] at hp
   have hp:ProjR ((0:Nat):Int) [] [] tab e1:=hp
   have h0:=hp.yes (by decide) (by decide) (okNil 0) (by decide) (f:=[]) ⟨⟨rfl,fun v hv=>absurd hv (by omega)⟩,fun y hy=>absurd hy (by simp)⟩ ⟨by simp,by simp⟩
   obtain⟨N,hN,ht⟩:=hp.table h0;have h1:=List.length_eq_zero_iff.1 ht.tab.ll;have h2:=List.length_eq_zero_iff.1 ht.tab.ul;have h3':=List.length_eq_zero_iff.1 ht.tab.pl
   rcases hE with ⟨h1,_,_⟩ | ⟨_,h2',h3⟩
   · exact absurd h0 h1
   · refine⟨h2',?_⟩
     rw[h3,bT_v,bT_m,bT_can];obtain⟨lo,up,ps⟩:=tab;simp only at h1 h2 h3';rw[h1,h2,h3'];rfl
theorem aC_can:canT aC=aC:=by
 have h:sameT (canT aC) aC=true:=by decide +kernel
 exact(sameT_iff _ _).1 h
theorem aC_m:multsT aC=[0]:=by decide +kernel
theorem aC_v:varsT aC=[0]:=by decide +kernel
theorem aC_may:mayTE aC=0:=by decide +kernel
theorem aS_ok:OkSch aS:=⟨aC_may,aC_can,by show(1:Int)=_; rw[show aS.t=aC from rfl,aC_v]; rfl,by show(1:Int)=_; rw[show aS.t=aC from rfl,aC_m]; rfl,by rw[show aS.t=aC from rfl,aC_m]; exact tabA.ok (by decide)⟩
theorem bS_ok:OkSch bS:=⟨bT_may,bT_can,by show(0:Int)=_; rw[show bS.t=bT from rfl,bT_v]; rfl,by show(0:Int)=_; rw[show bS.t=bT from rfl,bT_m]; rfl,by rw[show bS.t=bT from rfl,bT_m]; exact⟨by decide,rfl,rfl,rfl,rfl,rfl,fun l hl=>absurd hl (by simp[bS])⟩⟩
theorem more_ab:MoreE aS bS:=by
 refine⟨aS_ok,bS_ok,fun m hm=>?_⟩
 have e1:(multsT bS.t).length=0:=by rw[show bS.t=bT from rfl,bT_m]; rfl
 have hm0:m=[]:=List.length_eq_zero_iff.1 (hm.1.trans e1);subst hm0
 have hb:atM bS.t []=bT:=by
  have h:sameT (atM bT []) bT=true:=by decide +kernel
  exact(sameT_iff _ _).1 h
 rw[hb]
 have ht:turnT (putV [wholeD]) (putM [(0,2)]) aS.t=bT:=by
  have h:sameT (turnT (putV [wholeD]) (putM [(0,2)]) aC) bT=true:=by decide +kernel
  exact(sameT_iff _ _).1 h
 refine(inst_iff aS_ok).2 ⟨bT_may,_,_,ht,?_⟩
 rw[show(multsT aS.t).length=1 from by rw[show aS.t=aC from rfl,aC_m]; rfl]
 refine⟨rfl,by decide,fun i hi=>?_⟩
 obtain rfl:=lt1 hi
 exact⟨by decide,by decide,fun j hj=>by obtain rfl:=lt1 hj; decide⟩
theorem more_ba:¬ MoreE bS aS:=fun h=>by
 have hl:LetsA (multsT aS.t).length aS.tab [1]:=by
  rw[show(multsT aS.t).length=1 from by rw[show aS.t=aC from rfl,aC_m]; rfl]
  refine⟨rfl,by decide,fun i hi=>?_⟩
  obtain rfl:=lt1 hi
  exact⟨by decide,by decide,fun j hj=>by obtain rfl:=lt1 hj; decide⟩
 obtain⟨_,h2,_⟩:=h.all [1] hl
 have:(putsE bS (atM aS.t [1])).1=false:=by decide +kernel
 rw[this] at h2
 cases h2
theorem one_turn:turnT (putV [wholeD,textD]) (putM [(0,1),(0,1)]) keepT=oneD:=by
 have h:sameT (turnT (putV [wholeD,textD]) (putM [(0,1),(0,1)]) keepT) oneD=true:=by decide +kernel
 exact(sameT_iff _ _).1 h
theorem one_no:¬ InstE keepS oneD:=fun h=>by
 have h3:=h.2.2
 have e1:(multsT keepS.t).length=2:=by rw[show keepS.t=keepT from rfl,keep_m]; rfl
 obtain⟨_,_,e3⟩:=puts_of keep_ok (mayTE_may h.1) (s:=keepS) one_turn;rw[e3,e1] at h3;have:=(h3.2.2 1 (by decide)).1
 revert this
 decide
theorem aS_own:ownE aS.tab 1=[]:=by decide +kernel
def aTx:ByteArray:=⟨#[97,48,32,45,109,48,62,32,97,48]⟩
theorem aS_text:textS aS.t (ownE aS.tab 1)=aTx.data.toList:=by decide +kernel
end Go.Proofs.YtdmakpmbknindaaGreatDoor
