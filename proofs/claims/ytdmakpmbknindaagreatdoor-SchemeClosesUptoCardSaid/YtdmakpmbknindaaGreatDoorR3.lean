import Derived.Test.YtdmakpmbknindaaGreatDoorR2
set_option linter.unusedVariables false
set_option linter.unusedSimpArgs false
set_option maxHeartbeats 16000000
set_option maxRecDepth 100000
namespace Go.Proofs.YtdmakpmbknindaaGreatDoor
open Go.RowKit
theorem refProject_any (N:Nat) (Al:Option Addr) (nl cl:Nat) (xs:List IneqD) (Ak:Option Addr) (nk ck:Nat) (kn:List Nat) (w:World) (hx:IneqsV w w.heap.size Al nl cl xs) (hk:RdI .i64 w w.heap.size Ak nk ck (natK kn)) (hl:nl≤1000) (hkb:nk≤1000) (hN:N≤1000) (hok:OkS (N:Int) [] xs) (hlt:∀ v∈kn,v<N):
 Calls Tryz.prog 53 #[.int .i64 N,.slice Al nl cl,.slice Ak nk ck] w fun e w'=>∃ v,e=.returned v∧TabV w' w'.heap.size v (refTab N xs kn)∧Below w.heap.size w w':=by
 obtain⟨i0,hi0,hz0,hz1,hz2⟩:=info_parts multInfo;obtain⟨r0,hr0,hy0,hy1,hy2⟩:=info_parts mrowInfo;have hkl:=hk.len
 have hkn:kn.length=nk:=by rw[← natK_len]; exact hkl
 have nk63:nk≤9223372036854775807:=by omega
 obtain⟨RL,hRL⟩:∃ l,(kn.map fun v=>lowB fun m=>twoB N xs v m v m)=l:=⟨_,rfl⟩;obtain⟨RU,hRU⟩:∃ l,(kn.map fun v=>upB fun m=>twoB N xs v m v m)=l:=⟨_,rfl⟩;obtain⟨RP,hRP⟩:∃ l,(kn.map fun v=>kn.map fun r=>rowB fun a b=>twoB N xs v a r b)=l:=⟨_,rfl⟩
 have hR:refTab N xs kn=⟨RL,RU,RP⟩:=by rw[← hRL,← hRU,← hRP]; rfl
 have HR:=qq hR;have HRL:=qq hRL;have HRU:=qq hRU;have HRP:=qq hRP
 have hrl:RL.length=nk:=by rw[← hRL]; simp[hkn]
 have hru:RU.length=nk:=by rw[← hRU]; simp[hkn]
 have hrp:RP.length=nk:=by rw[← hRP]; simp[hkn]
 have Hrl:=qq hrl;have Hru:=qq hru;have Hrp:=qq hrp;have Hx:=qq hx;have Hk:=qq hk;have Hok:=qq hok;have Hlt:=qq hlt;clear hx hk hok hlt hR hRL hRU hRP hrl hru hrp;have hba:=below_box (w:=w) (Obj.cells #[.slice none 0 0,.slice none 0 0,.slice none 0 0] 38);have hka:=blk_new w #[.slice none 0 0,.slice none 0 0,.slice none 0 0] 38;obtain⟨wa,hwa⟩:∃ x,w.alloc (Obj.cells #[.slice none 0 0,.slice none 0 0,.slice none 0 0] 38)=x:=⟨_,rfl⟩
 have hsa:wa.heap.size=w.heap.size+1:=by rw[← hwa]; simp
 rw[hwa] at hba hka;have hbb:=hba.alloc (by omega) (Obj.cells #[.slice none 0 0,.slice none 0 0,.slice none 0 0] 38);have hkb':=blk_new wa #[.slice none 0 0,.slice none 0 0,.slice none 0 0] 38;have hka2:=hka.alloc (Obj.cells #[.slice none 0 0,.slice none 0 0,.slice none 0 0] 38);rw[hsa] at hkb';obtain⟨wb,hwb⟩:∃ x,wa.alloc (Obj.cells #[.slice none 0 0,.slice none 0 0,.slice none 0 0] 38)=x:=⟨_,rfl⟩
 have hsb:wb.heap.size=w.heap.size+1+1:=by rw[← hwb,← hsa]; simp
 rw[hwb] at hbb hkb' hka2;have x0:=hkb'.cell 0;have x1:=hkb'.cell 1;have x2:=hkb'.cell 2;have f0:=hkb'.frozen 0;have f1:=hkb'.frozen 1;have f2:=hkb'.frozen 2;have hw1:=hwb;rw[← hwa] at hw1;rw[← hw1] at x0 x1 x2 f0 f1 f2;simp only[qc,qb,qa] at x0 x1 x2;obtain⟨w1,hw2⟩:∃ x,wb=x:=⟨_,rfl⟩;rw[hw2] at hw1 hbb hkb' hka2;have Hw1:=qq hw1;have HG1:=qq hkb';have HG0:=qq hka2;have HB1:=qq hbb;clear hba hka hwa hsa hbb hkb' hka2 hwb hsb hw1 hw2
 go_enter Tryz.func53,Tryz.ntmps53
 go_upto_region 2 with fail;rw[Hw1.out];clear x0 x1 x2 f0 f1 f2;go_wp2_with fail
 go_loopg [8] nk (fun gh i wr=>∃ (k:Nat) (lo up:List Int) (ps:List (List Int)) (vs:List Value) (A1:Option Addr) (c1:Nat) (A2:Option Addr) (c2:Nat) (A3:Option Addr) (c3:Nat),k≤nk∧gh=nk - k∧i=.int .i64 (k:Nat)∧lo=RL.take k∧up=RU.take k∧ps=RP.take k∧vs.length=k∧Blk wr (w.heap.size+1) 38 #[.slice A1 lo.length c1,.slice A2 up.length c2,.slice A3 vs.length c3]∧Blk wr w.heap.size 38 #[.slice none 0 0,.slice none 0 0,.slice none 0 0]∧OwnU wr (w.heap.size+1+1) vs.length (.slice A1 lo.length c1) (.slice A2 up.length c2) (.slice A3 vs.length c3) lo up ps vs∧Below w.heap.size w wr)
 case atStart=>exact⟨0,[],[],[],[],none,0,none,0,none,0,Nat.zero_le _,rfl,rfl,rfl,rfl,rfl,rfl,HG1.out,HG0.out,OwnU.nil _ _,HB1.out⟩
 case round=>
  obtain⟨k,lo,up,ps,vs,A1,c1,A2,c2,A3,c3,hk,rfl,rfl,hlo,hup,hps,hvs,hg1,hg0,hown,hbel⟩:=hrel;obtain⟨wO,hwO⟩:∃ a,a=wr:=⟨_,rfl⟩;subst hwO;have Hlo:=qq hlo;have Hup:=qq hup;have Hps:=qq hps;have Hvs:=qq hvs;have Hg1:=qq hg1;have Hg0:=qq hg0;have Hown:=qq hown;have HbO:=qq hbel;clear hlo hup hps hvs hg1 hg0 hown hbel HG1 HG0 HB1
  by_cases hkn':k<nk
  · have d0:decide (k<nk)=true:=by simpa using hkn'
    have hk':k<(natK kn).length:=by omega
    obtain⟨b,off,rfl,hbl,hc⟩:=Hk.out.at_ (by omega);have Hcs:=qq hc;have hcK:=hc k hk';rw[natK_at hk'] at hcK;clear hc;obtain⟨v,hv⟩:∃ v,kn.getD k 0=v:=⟨_,rfl⟩
    have hvN:v<N:=by rw[← hv]; exact keep_lt Hlt.out (by omega)
    rw[hv] at hcK;have Hv:=qq hv;have HcK:Hid (∀ W,Below w.heap.size w W→W.cell? ⟨b,off+k,none⟩=some (.int .i64 (v:Nat))):=qq fun W hW=>(hW.cell (p:=⟨b,off+k,none⟩) hbl).trans hcK
    have i1:(0:Int)≤(k:Int):=by omega
    have i2:(k:Int)<nk:=by omega
    obtain⟨p1,hp1⟩:∃ q,twoB N xs v 1 v 1=q:=⟨_,rfl⟩;obtain⟨p2,hp2⟩:∃ q,twoB N xs v 2 v 2=q:=⟨_,rfl⟩;obtain⟨p3,hp3⟩:∃ q,twoB N xs v 3 v 3=q:=⟨_,rfl⟩;have Hp1:=qq hp1;have Hp2:=qq hp2;have Hp3:=qq hp3;clear hv hcK hp1 hp2 hp3;go_wp2_with fail
    go_loopg [9,10,11] 3 (fun gh s9 s10 s11 wr=>∃ (j:Nat) (jj:Int),((j=1∧jj=1)∨(j=2∧jj=2)∨(j=3∧jj=3)∨(j=4∧jj=4))∧gh=4 - j∧s9=.int .u8 (lowK p1 p2 p3 j)∧s10=.int .u8 (upK p1 p2 p3 j)∧s11=.int .u8 jj∧Below wO.heap.size wO wr)
    case atStart=>exact⟨1,1,by omega,rfl,by rw[lowK_one],by rw[upK_one],rfl,Below.refl _ _⟩
    case round=>
     obtain⟨j,jj,hj,rfl,rfl,rfl,rfl,hb2⟩:=hrel
     rcases hj with ⟨rfl,rfl⟩ | ⟨rfl,rfl⟩ | ⟨rfl,rfl⟩ | ⟨rfl,rfl⟩
     · skip
       have e0:=HcK.out _ (HbO.out.trans (hb2.mono HbO.out.size));obtain⟨q,hq'⟩:∃ q,p1=q:=⟨_,rfl⟩;have Hq:=qq hq';have Htwo:=qq fun W (hW:Below w.heap.size w W)=>two_any q N Al nl cl xs v v 1 1 W ((Hx.out.below hW).more hW.size) hl hN Hok.out hvN hvN (by omega) (by omega) (Hp1.out.trans hq');have Hb2:=qq hb2;clear hb2 hq'
       cases q
       case' true=>
        have hlo:=lowK_yes (x:=p1) (y:=p2) (z:=p3) (j:=1) (jj:=1) (by omega) Hq.out;have Hup:=qq (upK_yes (x:=p1) (y:=p2) (z:=p3) (j:=1) (jj:=1) (by omega) Hq.out);obtain⟨lv,hlv⟩:∃ lv,lowK p1 p2 p3 1=lv:=⟨_,rfl⟩;rw[hlv] at hlo ⊢;clear hlv
        by_cases h0:lv=0
        case' pos=>
         subst h0;rw[if_pos rfl] at hlo;have Hlo:=qq hlo;clear hlo
        case' neg=>
         have d2:(lv==0)=false:=by simpa using h0
         rw[if_neg h0] at hlo;have Hlo:=qq hlo;clear hlo h0
       case' false=>
        have Hlo:=qq (lowK_no (x:=p1) (y:=p2) (z:=p3) (j:=1) (by omega) Hq.out);have Hup:=qq (upK_no (x:=p1) (y:=p2) (z:=p3) (j:=1) (by omega) Hq.out)
       all_goals
        skip
        go_upto_region 9 with fail;refine wp_region_noPanic ?_;refine wp_region_T (fun w'=>w'.cell? ⟨b,off+k,none⟩=some (.int .i64 (v:Nat))) 13 (by kernel_rfl) e0 (fun hHeld=>?_);have hbd:=Below.drew Hb2.out;clear e0;generalize wr.drew=W0 at hHeld hbd ⊢;refine nx0 0 ?_
        iterate 12 (refine nx (v:=?_) rfl (by kernel_rfl) (fun _ _ _ h=>h) (by kernel_rfl) ?_ (by assumption) ?_; rotate_left; focus (intro w hSw; (try dsimp only at hSw); first | (go_simp; done) | (go_simp; with_reducible rfl)); try simp only[Act.put,qg,qe,qf,qd,qh,qi,Nat.reduceAdd])
        refine nx9 ?_;clear hHeld;refine wpAnyT_step (i:=12) (by kernel_rfl) rfl (fun K hK=>?_)
        (go_simp; refine(Htwo.out W0 (HbO.out.trans (hbd.mono HbO.out.size))).mono ?_; rintro e w3 ⟨rfl,hb3⟩; have hb9:=hbd.trans (hb3.mono hbd.size); clear hb3 hbd)
        refine hK.out _ _ (HcK.out _ (HbO.out.trans (hb9.mono HbO.out.size))) ?_;clear hK K
        try simp only[Act.put,qg,qe,qf,qd,qh,qi]
        have Hb9:=qq hb9;clear hb9;refine wpAnyT_seq 13 (by omega) (by rfl) (by kernel_rfl) ?_;simp only[List.drop_succ_cons,List.drop_zero];go_wp2_with fail;refine NoPanic.normal ?_;go_wp2_with fail;go_roundg (4 - (1+1))
        case measure=>omega
        case rel=>exact⟨1+1,1+1,by omega,rfl,by rw[Hlo.out],by rw[Hup.out],rfl,Hb9.out⟩
     · skip
       have e0:=HcK.out _ (HbO.out.trans (hb2.mono HbO.out.size));obtain⟨q,hq'⟩:∃ q,p2=q:=⟨_,rfl⟩;have Hq:=qq hq';have Htwo:=qq fun W (hW:Below w.heap.size w W)=>two_any q N Al nl cl xs v v 2 2 W ((Hx.out.below hW).more hW.size) hl hN Hok.out hvN hvN (by omega) (by omega) (Hp2.out.trans hq');have Hb2:=qq hb2;clear hb2 hq'
       cases q
       case' true=>
        have hlo:=lowK_yes (x:=p1) (y:=p2) (z:=p3) (j:=2) (jj:=2) (by omega) Hq.out;have Hup:=qq (upK_yes (x:=p1) (y:=p2) (z:=p3) (j:=2) (jj:=2) (by omega) Hq.out);obtain⟨lv,hlv⟩:∃ lv,lowK p1 p2 p3 2=lv:=⟨_,rfl⟩;rw[hlv] at hlo ⊢;clear hlv
        by_cases h0:lv=0
        case' pos=>
         subst h0;rw[if_pos rfl] at hlo;have Hlo:=qq hlo;clear hlo
        case' neg=>
         have d2:(lv==0)=false:=by simpa using h0
         rw[if_neg h0] at hlo;have Hlo:=qq hlo;clear hlo h0
       case' false=>
        have Hlo:=qq (lowK_no (x:=p1) (y:=p2) (z:=p3) (j:=2) (by omega) Hq.out);have Hup:=qq (upK_no (x:=p1) (y:=p2) (z:=p3) (j:=2) (by omega) Hq.out)
       all_goals
        skip
        go_upto_region 9 with fail;refine wp_region_noPanic ?_;refine wp_region_T (fun w'=>w'.cell? ⟨b,off+k,none⟩=some (.int .i64 (v:Nat))) 13 (by kernel_rfl) e0 (fun hHeld=>?_);have hbd:=Below.drew Hb2.out;clear e0;generalize wr.drew=W0 at hHeld hbd ⊢;refine nx0 0 ?_
        iterate 12 (refine nx (v:=?_) rfl (by kernel_rfl) (fun _ _ _ h=>h) (by kernel_rfl) ?_ (by assumption) ?_; rotate_left; focus (intro w hSw; (try dsimp only at hSw); first | (go_simp; done) | (go_simp; with_reducible rfl)); try simp only[Act.put,qg,qe,qf,qd,qh,qi,Nat.reduceAdd])
        refine nx9 ?_;clear hHeld;refine wpAnyT_step (i:=12) (by kernel_rfl) rfl (fun K hK=>?_)
        (go_simp; refine(Htwo.out W0 (HbO.out.trans (hbd.mono HbO.out.size))).mono ?_; rintro e w3 ⟨rfl,hb3⟩; have hb9:=hbd.trans (hb3.mono hbd.size); clear hb3 hbd)
        refine hK.out _ _ (HcK.out _ (HbO.out.trans (hb9.mono HbO.out.size))) ?_;clear hK K
        try simp only[Act.put,qg,qe,qf,qd,qh,qi]
        have Hb9:=qq hb9;clear hb9;refine wpAnyT_seq 13 (by omega) (by rfl) (by kernel_rfl) ?_;simp only[List.drop_succ_cons,List.drop_zero];go_wp2_with fail;refine NoPanic.normal ?_;go_wp2_with fail;go_roundg (4 - (2+1))
        case measure=>omega
        case rel=>exact⟨2+1,2+1,by omega,rfl,by rw[Hlo.out],by rw[Hup.out],rfl,Hb9.out⟩
     · skip
       have e0:=HcK.out _ (HbO.out.trans (hb2.mono HbO.out.size));obtain⟨q,hq'⟩:∃ q,p3=q:=⟨_,rfl⟩;have Hq:=qq hq';have Htwo:=qq fun W (hW:Below w.heap.size w W)=>two_any q N Al nl cl xs v v 3 3 W ((Hx.out.below hW).more hW.size) hl hN Hok.out hvN hvN (by omega) (by omega) (Hp3.out.trans hq');have Hb2:=qq hb2;clear hb2 hq'
       cases q
       case' true=>
        have hlo:=lowK_yes (x:=p1) (y:=p2) (z:=p3) (j:=3) (jj:=3) (by omega) Hq.out;have Hup:=qq (upK_yes (x:=p1) (y:=p2) (z:=p3) (j:=3) (jj:=3) (by omega) Hq.out);obtain⟨lv,hlv⟩:∃ lv,lowK p1 p2 p3 3=lv:=⟨_,rfl⟩;rw[hlv] at hlo ⊢;clear hlv
        by_cases h0:lv=0
        case' pos=>
         subst h0;rw[if_pos rfl] at hlo;have Hlo:=qq hlo;clear hlo
        case' neg=>
         have d2:(lv==0)=false:=by simpa using h0
         rw[if_neg h0] at hlo;have Hlo:=qq hlo;clear hlo h0
       case' false=>
        have Hlo:=qq (lowK_no (x:=p1) (y:=p2) (z:=p3) (j:=3) (by omega) Hq.out);have Hup:=qq (upK_no (x:=p1) (y:=p2) (z:=p3) (j:=3) (by omega) Hq.out)
       all_goals
        skip
        go_upto_region 9 with fail;refine wp_region_noPanic ?_;refine wp_region_T (fun w'=>w'.cell? ⟨b,off+k,none⟩=some (.int .i64 (v:Nat))) 13 (by kernel_rfl) e0 (fun hHeld=>?_);have hbd:=Below.drew Hb2.out;clear e0;generalize wr.drew=W0 at hHeld hbd ⊢;refine nx0 0 ?_
        iterate 12 (refine nx (v:=?_) rfl (by kernel_rfl) (fun _ _ _ h=>h) (by kernel_rfl) ?_ (by assumption) ?_; rotate_left; focus (intro w hSw; (try dsimp only at hSw); first | (go_simp; done) | (go_simp; with_reducible rfl)); try simp only[Act.put,qg,qe,qf,qd,qh,qi,Nat.reduceAdd])
        refine nx9 ?_;clear hHeld;refine wpAnyT_step (i:=12) (by kernel_rfl) rfl (fun K hK=>?_)
        (go_simp; refine(Htwo.out W0 (HbO.out.trans (hbd.mono HbO.out.size))).mono ?_; rintro e w3 ⟨rfl,hb3⟩; have hb9:=hbd.trans (hb3.mono hbd.size); clear hb3 hbd)
        refine hK.out _ _ (HcK.out _ (HbO.out.trans (hb9.mono HbO.out.size))) ?_;clear hK K
        try simp only[Act.put,qg,qe,qf,qd,qh,qi]
        have Hb9:=qq hb9;clear hb9;refine wpAnyT_seq 13 (by omega) (by rfl) (by kernel_rfl) ?_;simp only[List.drop_succ_cons,List.drop_zero];go_wp2_with fail;refine NoPanic.normal ?_;go_wp2_with fail;go_roundg (4 - (3+1))
        case measure=>omega
        case rel=>exact⟨3+1,3+1,by omega,rfl,by rw[Hlo.out],by rw[Hup.out],rfl,Hb9.out⟩
     · obtain⟨lv,hlv⟩:∃ lv,lowK p1 p2 p3 4=lv:=⟨_,rfl⟩
       obtain⟨uv,huv⟩:∃ uv,upK p1 p2 p3 4=uv:=⟨_,rfl⟩;rw[hlv,huv]
       have HLv:Hid (RL.getD k 0=lv):=qq (by rw[← HRL.out,map_getD (by omega),Hv.out,← hlv,← Hp1.out,← Hp2.out,← Hp3.out]; exact(lowK_all (fun m=>twoB N xs v m v m)).symm)
       have HUv:Hid (RU.getD k 0=uv):=qq (by rw[← HRU.out,map_getD (by omega),Hv.out,← huv,← Hp1.out,← Hp2.out,← Hp3.out]; exact(upK_all (fun m=>twoB N xs v m v m)).symm)
       obtain⟨RR,hRR⟩:∃ l,(kn.map fun r=>rowB fun a b=>twoB N xs v a r b)=l:=⟨_,rfl⟩
       have HRv:Hid (RP.getD k []=RR):=qq (by rw[← HRP.out,map_getD (by omega),Hv.out]; exact hRR)
       have HRl:Hid (RR.length=nk):=qq (by rw[← hRR]; simp[hkn])
       have HRR:=qq hRR;obtain⟨wP,hwP⟩:∃ a,a=wr:=⟨_,rfl⟩;subst hwP;have HbP:=qq (HbO.out.trans (hb2.mono HbO.out.size));have HownP:=qq (Hown.out.fresh hb2);have Hg1P:=qq (Hg1.out.below hb2 Hg1.out.lt);have Hg0P:=qq (Hg0.out.below hb2 Hg0.out.lt);clear hlv huv hRR hb2 Hp1 Hp2 Hp3 Hown Hg1 Hg0;go_wp2_with fail
       go_loopg [12,13] nk (fun gh s12 s13 wr=>∃ (j:Nat) (A:Option Addr) (c:Nat),j≤nk∧gh=nk - j∧s12=.slice A j c∧s13=.int .i64 (j:Nat)∧wr.ownsRow wP.heap.size 22 1 (.slice A j c) j ((RR.take j).map (Value.int .u8))∧Below wP.heap.size wP wr)
       case atStart=>exact⟨0,none,0,Nat.zero_le _,rfl,rfl,rfl,by simpa using World.ownsRow_nil _ _ _ _,Below.refl _ _⟩
       case round=>
        obtain⟨j,A,c,hj,rfl,rfl,rfl,hrow,hbq⟩:=hrel;obtain⟨wQ,hwQ⟩:∃ a,a=wr:=⟨_,rfl⟩;subst hwQ;have HbQ:=qq (HbP.out.trans (hbq.mono HbP.out.size));have Hbq:=qq hbq;have Hrow:=qq hrow;clear hbq hrow
        by_cases hjn:j<nk
        · have d1:decide (j<nk)=true:=by simpa using hjn
          have hj':j<(natK kn).length:=by omega
          have hcJ:=Hcs.out j hj';rw[natK_at hj'] at hcJ;obtain⟨u,hu⟩:∃ u,kn.getD j 0=u:=⟨_,rfl⟩
          have huN:u<N:=by rw[← hu]; exact keep_lt Hlt.out (by omega)
          rw[hu] at hcJ;have Hu:=qq hu;have HcJ:Hid (∀ W,Below w.heap.size w W→W.cell? ⟨b,off+j,none⟩=some (.int .i64 (u:Nat))):=qq fun W hW=>(hW.cell (p:=⟨b,off+j,none⟩) hbl).trans hcJ
          have i3:(0:Int)≤(j:Int):=by omega
          have i4:(j:Int)<nk:=by omega
          obtain⟨t1,ht1⟩:∃ q,twoB N xs v 2 u 1=q:=⟨_,rfl⟩;obtain⟨t2,ht2⟩:∃ q,twoB N xs v 3 u 1=q:=⟨_,rfl⟩;obtain⟨t3,ht3⟩:∃ q,twoB N xs v 3 u 2=q:=⟨_,rfl⟩;have Ht1:=qq ht1;have Ht2:=qq ht2;have Ht3:=qq ht3;clear hu hcJ ht1 ht2 ht3;go_wp2_with fail
          go_loopg [14,15] 3 (fun gh s14 s15 wr=>∃ (a:Nat) (aa:Int),((a=1∧aa=1)∨(a=2∧aa=2)∨(a=3∧aa=3)∨(a=4∧aa=4))∧gh=4 - a∧s14=.int .u8 (cK t1 t2 t3 a 1)∧s15=.int .u8 aa∧Below wQ.heap.size wQ wr)
          case atStart=>exact⟨1,1,by omega,rfl,by rw[cK_one],rfl,Below.refl _ _⟩
          case round=>
           obtain⟨a,aa,ha,rfl,rfl,rfl,hb4⟩:=hrel
           rcases ha with ⟨rfl,rfl⟩ | ⟨rfl,rfl⟩ | ⟨rfl,rfl⟩ | ⟨rfl,rfl⟩
           · skip
             obtain⟨wS,hwS⟩:∃ a,a=wr:=⟨_,rfl⟩;subst hwS;have HbS:=qq (HbQ.out.trans (hb4.mono HbQ.out.size));have Hb4:=qq hb4;clear hb4;go_wp2_with fail
             go_loopg [14,16] 3 (fun gh s14 s16 wr=>∃ (b:Nat) (bb:Int),((b=1∧bb=1)∨(b=2∧bb=2)∨(b=3∧bb=3)∨(b=4∧bb=4))∧gh=4 - b∧s14=.int .u8 (cK t1 t2 t3 1 b)∧s16=.int .u8 bb∧Below wS.heap.size wS wr)
             case atStart=>exact⟨1,1,by omega,rfl,rfl,rfl,Below.refl _ _⟩
             case round=>
              obtain⟨b,bb,hb,rfl,rfl,rfl,hb5⟩:=hrel;have e0:=HcK.out _ (HbS.out.trans (hb5.mono HbS.out.size));have e1:=HcJ.out _ (HbS.out.trans (hb5.mono HbS.out.size))
              rcases hb with ⟨rfl,rfl⟩ | ⟨rfl,rfl⟩ | ⟨rfl,rfl⟩ | ⟨rfl,rfl⟩
              · skip
                have Hc:=qq (cK_skip t1 t2 t3 1 1 (by omega) (by omega) (by omega));have Hb5:=qq hb5;clear hb5;go_upto_region 24 with fail;refine wp_region_noPanic ?_;refine wp_region_T (fun w'=>w'.cell? ⟨b,off+k,none⟩=some (.int .i64 (v:Nat))∧w'.cell? ⟨b,off+j,none⟩=some (.int .i64 (u:Nat))) 23 (by kernel_rfl) ⟨e0,e1⟩ (fun hHeld=>?_);have hbd:=Below.drew Hb5.out;clear e0 e1;generalize wr.drew=W0 at hHeld hbd ⊢;refine nx0 0 ?_
                iterate 4 (refine nx (v:=?_) rfl (by kernel_rfl) (fun _ _ _ h=>h) (by kernel_rfl) ?_ (by assumption) ?_; rotate_left; focus (intro w hSw; (try dsimp only at hSw); first | (go_simp; done) | (go_simp; with_reducible rfl)); try simp only[Act.put,qg,qe,qf,qd,qh,qi,Nat.reduceAdd])
                refine nx9 ?_;refine nx0 4 ?_
                iterate 3 (refine nxk rfl (by kernel_rfl) (fun _ _ _ h=>h) (by kernel_rfl) (by assumption) ?_; try simp only[Act.put,qg,qe,qf,qd,qh,qi,Nat.reduceAdd])
                refine nx9 ?_;refine nx0 7 ?_
                iterate 2 (refine nx (v:=?_) rfl (by kernel_rfl) (fun _ _ _ h=>h) (by kernel_rfl) ?_ (by assumption) ?_; rotate_left; focus (intro w hSw; (try dsimp only at hSw); first | (go_simp; done) | (go_simp; with_reducible rfl)); try simp only[Act.put,qg,qe,qf,qd,qh,qi,Nat.reduceAdd])
                refine nx9 ?_;refine nx0 9 ?_
                iterate 13 (refine nxk rfl (by kernel_rfl) (fun _ _ _ h=>h) (by kernel_rfl) (by assumption) ?_; try simp only[Act.put,qg,qe,qf,qd,qh,qi,Nat.reduceAdd])
                refine nx9 ?_
                refine wpAnyT_take (i:=22) (v:=?_) rfl (by kernel_rfl) (by kernel_rfl) (by kernel_rfl) (by kernel_rfl) (fun _ _ _ h=>h) (Or.inl ⟨by rfl,?_⟩) (by assumption) ?_
                rotate_left
                · (intro w hSw; (try dsimp only at hSw); first | (go_simp; done) | (go_simp; with_reducible rfl))
                try simp only[Act.put,qg,qe,qf,qd,qh,qi]
                have Hbd:=qq hbd;clear hbd;clear hHeld;refine wpAnyT_seq 23 (by omega) (by rfl) (by kernel_rfl) ?_;simp only[List.drop_succ_cons,List.drop_zero];go_wp2_with fail;refine NoPanic.normal ?_;go_wp2_with fail;go_roundg (4 - (1+1))
                case measure=>omega
                case rel=>exact⟨1+1,1+1,by omega,rfl,by rw[Hc.out],rfl,Hbd.out⟩
              · skip
                have Hc:=qq (cK_skip t1 t2 t3 1 2 (by omega) (by omega) (by omega));have Hb5:=qq hb5;clear hb5;go_upto_region 24 with fail;refine wp_region_noPanic ?_;refine wp_region_T (fun w'=>w'.cell? ⟨b,off+k,none⟩=some (.int .i64 (v:Nat))∧w'.cell? ⟨b,off+j,none⟩=some (.int .i64 (u:Nat))) 23 (by kernel_rfl) ⟨e0,e1⟩ (fun hHeld=>?_);have hbd:=Below.drew Hb5.out;clear e0 e1;generalize wr.drew=W0 at hHeld hbd ⊢;refine nx0 0 ?_
                iterate 4 (refine nx (v:=?_) rfl (by kernel_rfl) (fun _ _ _ h=>h) (by kernel_rfl) ?_ (by assumption) ?_; rotate_left; focus (intro w hSw; (try dsimp only at hSw); first | (go_simp; done) | (go_simp; with_reducible rfl)); try simp only[Act.put,qg,qe,qf,qd,qh,qi,Nat.reduceAdd])
                refine nx9 ?_;refine nx0 4 ?_
                iterate 3 (refine nxk rfl (by kernel_rfl) (fun _ _ _ h=>h) (by kernel_rfl) (by assumption) ?_; try simp only[Act.put,qg,qe,qf,qd,qh,qi,Nat.reduceAdd])
                refine nx9 ?_;refine nx0 7 ?_
                iterate 2 (refine nx (v:=?_) rfl (by kernel_rfl) (fun _ _ _ h=>h) (by kernel_rfl) ?_ (by assumption) ?_; rotate_left; focus (intro w hSw; (try dsimp only at hSw); first | (go_simp; done) | (go_simp; with_reducible rfl)); try simp only[Act.put,qg,qe,qf,qd,qh,qi,Nat.reduceAdd])
                refine nx9 ?_;refine nx0 9 ?_
                iterate 13 (refine nxk rfl (by kernel_rfl) (fun _ _ _ h=>h) (by kernel_rfl) (by assumption) ?_; try simp only[Act.put,qg,qe,qf,qd,qh,qi,Nat.reduceAdd])
                refine nx9 ?_
                refine wpAnyT_take (i:=22) (v:=?_) rfl (by kernel_rfl) (by kernel_rfl) (by kernel_rfl) (by kernel_rfl) (fun _ _ _ h=>h) (Or.inl ⟨by rfl,?_⟩) (by assumption) ?_
                rotate_left
                · (intro w hSw; (try dsimp only at hSw); first | (go_simp; done) | (go_simp; with_reducible rfl))
                try simp only[Act.put,qg,qe,qf,qd,qh,qi]
                have Hbd:=qq hbd;clear hbd;clear hHeld;refine wpAnyT_seq 23 (by omega) (by rfl) (by kernel_rfl) ?_;simp only[List.drop_succ_cons,List.drop_zero];go_wp2_with fail;refine NoPanic.normal ?_;go_wp2_with fail;go_roundg (4 - (2+1))
                case measure=>omega
                case rel=>exact⟨2+1,2+1,by omega,rfl,by rw[Hc.out],rfl,Hbd.out⟩
              · skip
                have Hc:=qq (cK_skip t1 t2 t3 1 3 (by omega) (by omega) (by omega));have Hb5:=qq hb5;clear hb5;go_upto_region 24 with fail;refine wp_region_noPanic ?_;refine wp_region_T (fun w'=>w'.cell? ⟨b,off+k,none⟩=some (.int .i64 (v:Nat))∧w'.cell? ⟨b,off+j,none⟩=some (.int .i64 (u:Nat))) 23 (by kernel_rfl) ⟨e0,e1⟩ (fun hHeld=>?_);have hbd:=Below.drew Hb5.out;clear e0 e1;generalize wr.drew=W0 at hHeld hbd ⊢;refine nx0 0 ?_
                iterate 4 (refine nx (v:=?_) rfl (by kernel_rfl) (fun _ _ _ h=>h) (by kernel_rfl) ?_ (by assumption) ?_; rotate_left; focus (intro w hSw; (try dsimp only at hSw); first | (go_simp; done) | (go_simp; with_reducible rfl)); try simp only[Act.put,qg,qe,qf,qd,qh,qi,Nat.reduceAdd])
                refine nx9 ?_;refine nx0 4 ?_
                iterate 3 (refine nxk rfl (by kernel_rfl) (fun _ _ _ h=>h) (by kernel_rfl) (by assumption) ?_; try simp only[Act.put,qg,qe,qf,qd,qh,qi,Nat.reduceAdd])
                refine nx9 ?_;refine nx0 7 ?_
                iterate 2 (refine nx (v:=?_) rfl (by kernel_rfl) (fun _ _ _ h=>h) (by kernel_rfl) ?_ (by assumption) ?_; rotate_left; focus (intro w hSw; (try dsimp only at hSw); first | (go_simp; done) | (go_simp; with_reducible rfl)); try simp only[Act.put,qg,qe,qf,qd,qh,qi,Nat.reduceAdd])
                refine nx9 ?_;refine nx0 9 ?_
                iterate 13 (refine nxk rfl (by kernel_rfl) (fun _ _ _ h=>h) (by kernel_rfl) (by assumption) ?_; try simp only[Act.put,qg,qe,qf,qd,qh,qi,Nat.reduceAdd])
                refine nx9 ?_
                refine wpAnyT_take (i:=22) (v:=?_) rfl (by kernel_rfl) (by kernel_rfl) (by kernel_rfl) (by kernel_rfl) (fun _ _ _ h=>h) (Or.inl ⟨by rfl,?_⟩) (by assumption) ?_
                rotate_left
                · (intro w hSw; (try dsimp only at hSw); first | (go_simp; done) | (go_simp; with_reducible rfl))
                try simp only[Act.put,qg,qe,qf,qd,qh,qi]
                have Hbd:=qq hbd;clear hbd;clear hHeld;refine wpAnyT_seq 23 (by omega) (by rfl) (by kernel_rfl) ?_;simp only[List.drop_succ_cons,List.drop_zero];go_wp2_with fail;refine NoPanic.normal ?_;go_wp2_with fail;go_roundg (4 - (3+1))
                case measure=>omega
                case rel=>exact⟨3+1,3+1,by omega,rfl,by rw[Hc.out],rfl,Hbd.out⟩
              · have Hc:=qq (cK_next t1 t2 t3 1 (by omega))
                have Hb5:=qq (Hb4.out.trans (hb5.mono Hb4.out.size));clear hb5;go_wp2_with fail;go_roundg (4 - (1+1))
                case measure=>omega
                case rel=>exact⟨1+1,1+1,by omega,rfl,by rw[Hc.out],rfl,Hb5.out⟩
           · skip
             obtain⟨wS,hwS⟩:∃ a,a=wr:=⟨_,rfl⟩;subst hwS;have HbS:=qq (HbQ.out.trans (hb4.mono HbQ.out.size));have Hb4:=qq hb4;clear hb4;go_wp2_with fail
             go_loopg [14,16] 3 (fun gh s14 s16 wr=>∃ (b:Nat) (bb:Int),((b=1∧bb=1)∨(b=2∧bb=2)∨(b=3∧bb=3)∨(b=4∧bb=4))∧gh=4 - b∧s14=.int .u8 (cK t1 t2 t3 2 b)∧s16=.int .u8 bb∧Below wS.heap.size wS wr)
             case atStart=>exact⟨1,1,by omega,rfl,rfl,rfl,Below.refl _ _⟩
             case round=>
              obtain⟨b,bb,hb,rfl,rfl,rfl,hb5⟩:=hrel;have e0:=HcK.out _ (HbS.out.trans (hb5.mono HbS.out.size));have e1:=HcJ.out _ (HbS.out.trans (hb5.mono HbS.out.size))
              rcases hb with ⟨rfl,rfl⟩ | ⟨rfl,rfl⟩ | ⟨rfl,rfl⟩ | ⟨rfl,rfl⟩
              · skip
                obtain⟨cv,hcv⟩:∃ cv,cK t1 t2 t3 2 1=cv:=⟨_,rfl⟩;rw[hcv]
                by_cases hc:(2:Int)>cv
                · have d2:decide ((2:Int)>cv)=true:=by simpa using hc
                  obtain⟨q,hq'⟩:∃ q,t1=q:=⟨_,rfl⟩;have Htwo:=qq fun W (hW:Below w.heap.size w W)=>two_any q N Al nl cl xs v u 2 1 W ((Hx.out.below hW).more hW.size) hl hN Hok.out hvN huN (by omega) (by omega) (Ht1.out.trans hq');have Hq:=qq hq';have Hb5:=qq hb5;clear hb5 hq'
                  cases q
                  case' true=>
                   have Hc:=qq (cK_yes (x:=t1) (y:=t2) (z:=t3) (a:=2) (b:=1) (aa:=2) (by omega) Hq.out (by rw[hcv]; exact hc))
                   clear hc hcv
                  case' false=>
                   have Hc:=qq ((cK_no (x:=t1) (y:=t2) (z:=t3) (a:=2) (b:=1) (aa:=2) (by omega) Hq.out).trans hcv);clear hc hcv
                  all_goals
                   skip
                   go_upto_region 24 with fail;refine wp_region_noPanic ?_;refine wp_region_T (fun w'=>w'.cell? ⟨b,off+k,none⟩=some (.int .i64 (v:Nat))∧w'.cell? ⟨b,off+j,none⟩=some (.int .i64 (u:Nat))) 23 (by kernel_rfl) ⟨e0,e1⟩ (fun hHeld=>?_);have hbd:=Below.drew Hb5.out;clear e0 e1;generalize wr.drew=W0 at hHeld hbd ⊢;refine nx0 0 ?_
                   iterate 7 (refine nx (v:=?_) rfl (by kernel_rfl) (fun _ _ _ h=>h) (by kernel_rfl) ?_ (by assumption) ?_; rotate_left; focus (intro w hSw; (try dsimp only at hSw); first | (go_simp; done) | (go_simp; with_reducible rfl)); try simp only[Act.put,qg,qe,qf,qd,qh,qi,Nat.reduceAdd])
                   refine nx9 ?_
                   try rw[d2]
                   refine nx0 7 ?_
                   iterate 14 (refine nx (v:=?_) rfl (by kernel_rfl) (fun _ _ _ h=>h) (by kernel_rfl) ?_ (by assumption) ?_; rotate_left; focus (intro w hSw; (try dsimp only at hSw); first | (go_simp; done) | (go_simp; with_reducible rfl)); try simp only[Act.put,qg,qe,qf,qd,qh,qi,Nat.reduceAdd])
                   refine nx9 ?_;clear hHeld;refine wpAnyT_step (i:=21) (by kernel_rfl) rfl (fun K hK=>?_)
                   (go_simp; refine(Htwo.out W0 (HbS.out.trans (hbd.mono HbS.out.size))).mono ?_; rintro e w3 ⟨rfl,hb3⟩; have hb9:=hbd.trans (hb3.mono hbd.size); clear hb3 hbd)
                   refine hK.out _ _ ⟨HcK.out _ (HbS.out.trans (hb9.mono HbS.out.size)),HcJ.out _ (HbS.out.trans (hb9.mono HbS.out.size))⟩ ?_;clear hK K
                   try simp only[Act.put,qg,qe,qf,qd,qh,qi]
                   have hHeld:w3.cell? ⟨b,off+k,none⟩=some (.int .i64 (v:Nat))∧w3.cell? ⟨b,off+j,none⟩=some (.int .i64 (u:Nat)):=⟨HcK.out _ (HbS.out.trans (hb9.mono HbS.out.size)),HcJ.out _ (HbS.out.trans (hb9.mono HbS.out.size))⟩;have Hbd:=qq hb9;clear hb9
                   refine wpAnyT_take (i:=22) (v:=?_) rfl (by kernel_rfl) (by kernel_rfl) (by kernel_rfl) (by kernel_rfl) (fun _ _ _ h=>h) (Or.inl ⟨by rfl,?_⟩) (by assumption) ?_
                   rotate_left
                   · (intro w hSw; (try dsimp only at hSw); first | (go_simp; done) | (go_simp; with_reducible rfl))
                   try simp only[Act.put,qg,qe,qf,qd,qh,qi]
                   clear hHeld;refine wpAnyT_seq 23 (by omega) (by rfl) (by kernel_rfl) ?_;simp only[List.drop_succ_cons,List.drop_zero];go_wp2_with fail;refine NoPanic.normal ?_;go_wp2_with fail;go_roundg (4 - (1+1))
                   case measure=>omega
                   case rel=>exact⟨1+1,1+1,by omega,rfl,by rw[Hc.out],rfl,Hbd.out⟩
                · have d2:decide ((2:Int)>cv)=false:=by simpa using hc
                  have Hc:=qq ((cK_not (x:=t1) (y:=t2) (z:=t3) (a:=2) (b:=1) (aa:=2) (by omega) (by rw[hcv]; exact hc)).trans hcv)
                  have Hb5:=qq hb5;clear hb5 hc hcv;go_upto_region 24 with fail;refine wp_region_noPanic ?_;refine wp_region_T (fun w'=>w'.cell? ⟨b,off+k,none⟩=some (.int .i64 (v:Nat))∧w'.cell? ⟨b,off+j,none⟩=some (.int .i64 (u:Nat))) 23 (by kernel_rfl) ⟨e0,e1⟩ (fun hHeld=>?_);have hbd:=Below.drew Hb5.out;clear e0 e1;generalize wr.drew=W0 at hHeld hbd ⊢;refine nx0 0 ?_
                  iterate 7 (refine nx (v:=?_) rfl (by kernel_rfl) (fun _ _ _ h=>h) (by kernel_rfl) ?_ (by assumption) ?_; rotate_left; focus (intro w hSw; (try dsimp only at hSw); first | (go_simp; done) | (go_simp; with_reducible rfl)); try simp only[Act.put,qg,qe,qf,qd,qh,qi,Nat.reduceAdd])
                  refine nx9 ?_
                  try rw[d2]
                  refine nx0 7 ?_
                  iterate 2 (refine nx (v:=?_) rfl (by kernel_rfl) (fun _ _ _ h=>h) (by kernel_rfl) ?_ (by assumption) ?_; rotate_left; focus (intro w hSw; (try dsimp only at hSw); first | (go_simp; done) | (go_simp; with_reducible rfl)); try simp only[Act.put,qg,qe,qf,qd,qh,qi,Nat.reduceAdd])
                  refine nx9 ?_;refine nx0 9 ?_
                  iterate 13 (refine nxk rfl (by kernel_rfl) (fun _ _ _ h=>h) (by kernel_rfl) (by assumption) ?_; try simp only[Act.put,qg,qe,qf,qd,qh,qi,Nat.reduceAdd])
                  refine nx9 ?_
                  refine wpAnyT_take (i:=22) (v:=?_) rfl (by kernel_rfl) (by kernel_rfl) (by kernel_rfl) (by kernel_rfl) (fun _ _ _ h=>h) (Or.inl ⟨by rfl,?_⟩) (by assumption) ?_
                  rotate_left
                  · (intro w hSw; (try dsimp only at hSw); first | (go_simp; done) | (go_simp; with_reducible rfl))
                  try simp only[Act.put,qg,qe,qf,qd,qh,qi]
                  have Hbd:=qq hbd;clear hbd;clear hHeld;refine wpAnyT_seq 23 (by omega) (by rfl) (by kernel_rfl) ?_;simp only[List.drop_succ_cons,List.drop_zero];go_wp2_with fail;refine NoPanic.normal ?_;go_wp2_with fail;go_roundg (4 - (1+1))
                  case measure=>omega
                  case rel=>exact⟨1+1,1+1,by omega,rfl,by rw[Hc.out],rfl,Hbd.out⟩
              · skip
                have Hc:=qq (cK_skip t1 t2 t3 2 2 (by omega) (by omega) (by omega));have Hb5:=qq hb5;clear hb5;go_upto_region 24 with fail;refine wp_region_noPanic ?_;refine wp_region_T (fun w'=>w'.cell? ⟨b,off+k,none⟩=some (.int .i64 (v:Nat))∧w'.cell? ⟨b,off+j,none⟩=some (.int .i64 (u:Nat))) 23 (by kernel_rfl) ⟨e0,e1⟩ (fun hHeld=>?_);have hbd:=Below.drew Hb5.out;clear e0 e1;generalize wr.drew=W0 at hHeld hbd ⊢;refine nx0 0 ?_
                iterate 4 (refine nx (v:=?_) rfl (by kernel_rfl) (fun _ _ _ h=>h) (by kernel_rfl) ?_ (by assumption) ?_; rotate_left; focus (intro w hSw; (try dsimp only at hSw); first | (go_simp; done) | (go_simp; with_reducible rfl)); try simp only[Act.put,qg,qe,qf,qd,qh,qi,Nat.reduceAdd])
                refine nx9 ?_;refine nx0 4 ?_
                iterate 3 (refine nxk rfl (by kernel_rfl) (fun _ _ _ h=>h) (by kernel_rfl) (by assumption) ?_; try simp only[Act.put,qg,qe,qf,qd,qh,qi,Nat.reduceAdd])
                refine nx9 ?_;refine nx0 7 ?_
                iterate 2 (refine nx (v:=?_) rfl (by kernel_rfl) (fun _ _ _ h=>h) (by kernel_rfl) ?_ (by assumption) ?_; rotate_left; focus (intro w hSw; (try dsimp only at hSw); first | (go_simp; done) | (go_simp; with_reducible rfl)); try simp only[Act.put,qg,qe,qf,qd,qh,qi,Nat.reduceAdd])
                refine nx9 ?_;refine nx0 9 ?_
                iterate 13 (refine nxk rfl (by kernel_rfl) (fun _ _ _ h=>h) (by kernel_rfl) (by assumption) ?_; try simp only[Act.put,qg,qe,qf,qd,qh,qi,Nat.reduceAdd])
                refine nx9 ?_
                refine wpAnyT_take (i:=22) (v:=?_) rfl (by kernel_rfl) (by kernel_rfl) (by kernel_rfl) (by kernel_rfl) (fun _ _ _ h=>h) (Or.inl ⟨by rfl,?_⟩) (by assumption) ?_
                rotate_left
                · (intro w hSw; (try dsimp only at hSw); first | (go_simp; done) | (go_simp; with_reducible rfl))
                try simp only[Act.put,qg,qe,qf,qd,qh,qi]
                have Hbd:=qq hbd;clear hbd;clear hHeld;refine wpAnyT_seq 23 (by omega) (by rfl) (by kernel_rfl) ?_;simp only[List.drop_succ_cons,List.drop_zero];go_wp2_with fail;refine NoPanic.normal ?_;go_wp2_with fail;go_roundg (4 - (2+1))
                case measure=>omega
                case rel=>exact⟨2+1,2+1,by omega,rfl,by rw[Hc.out],rfl,Hbd.out⟩
              · skip
                have Hc:=qq (cK_skip t1 t2 t3 2 3 (by omega) (by omega) (by omega));have Hb5:=qq hb5;clear hb5;go_upto_region 24 with fail;refine wp_region_noPanic ?_;refine wp_region_T (fun w'=>w'.cell? ⟨b,off+k,none⟩=some (.int .i64 (v:Nat))∧w'.cell? ⟨b,off+j,none⟩=some (.int .i64 (u:Nat))) 23 (by kernel_rfl) ⟨e0,e1⟩ (fun hHeld=>?_);have hbd:=Below.drew Hb5.out;clear e0 e1;generalize wr.drew=W0 at hHeld hbd ⊢;refine nx0 0 ?_
                iterate 4 (refine nx (v:=?_) rfl (by kernel_rfl) (fun _ _ _ h=>h) (by kernel_rfl) ?_ (by assumption) ?_; rotate_left; focus (intro w hSw; (try dsimp only at hSw); first | (go_simp; done) | (go_simp; with_reducible rfl)); try simp only[Act.put,qg,qe,qf,qd,qh,qi,Nat.reduceAdd])
                refine nx9 ?_;refine nx0 4 ?_
                iterate 3 (refine nxk rfl (by kernel_rfl) (fun _ _ _ h=>h) (by kernel_rfl) (by assumption) ?_; try simp only[Act.put,qg,qe,qf,qd,qh,qi,Nat.reduceAdd])
                refine nx9 ?_;refine nx0 7 ?_
                iterate 2 (refine nx (v:=?_) rfl (by kernel_rfl) (fun _ _ _ h=>h) (by kernel_rfl) ?_ (by assumption) ?_; rotate_left; focus (intro w hSw; (try dsimp only at hSw); first | (go_simp; done) | (go_simp; with_reducible rfl)); try simp only[Act.put,qg,qe,qf,qd,qh,qi,Nat.reduceAdd])
                refine nx9 ?_;refine nx0 9 ?_
                iterate 13 (refine nxk rfl (by kernel_rfl) (fun _ _ _ h=>h) (by kernel_rfl) (by assumption) ?_; try simp only[Act.put,qg,qe,qf,qd,qh,qi,Nat.reduceAdd])
                refine nx9 ?_
                refine wpAnyT_take (i:=22) (v:=?_) rfl (by kernel_rfl) (by kernel_rfl) (by kernel_rfl) (by kernel_rfl) (fun _ _ _ h=>h) (Or.inl ⟨by rfl,?_⟩) (by assumption) ?_
                rotate_left
                · (intro w hSw; (try dsimp only at hSw); first | (go_simp; done) | (go_simp; with_reducible rfl))
                try simp only[Act.put,qg,qe,qf,qd,qh,qi]
                have Hbd:=qq hbd;clear hbd;clear hHeld;refine wpAnyT_seq 23 (by omega) (by rfl) (by kernel_rfl) ?_;simp only[List.drop_succ_cons,List.drop_zero];go_wp2_with fail;refine NoPanic.normal ?_;go_wp2_with fail;go_roundg (4 - (3+1))
                case measure=>omega
                case rel=>exact⟨3+1,3+1,by omega,rfl,by rw[Hc.out],rfl,Hbd.out⟩
              · have Hc:=qq (cK_next t1 t2 t3 2 (by omega))
                have Hb5:=qq (Hb4.out.trans (hb5.mono Hb4.out.size));clear hb5;go_wp2_with fail;go_roundg (4 - (2+1))
                case measure=>omega
                case rel=>exact⟨2+1,2+1,by omega,rfl,by rw[Hc.out],rfl,Hb5.out⟩
           · skip
             obtain⟨wS,hwS⟩:∃ a,a=wr:=⟨_,rfl⟩;subst hwS;have HbS:=qq (HbQ.out.trans (hb4.mono HbQ.out.size));have Hb4:=qq hb4;clear hb4;go_wp2_with fail
             go_loopg [14,16] 3 (fun gh s14 s16 wr=>∃ (b:Nat) (bb:Int),((b=1∧bb=1)∨(b=2∧bb=2)∨(b=3∧bb=3)∨(b=4∧bb=4))∧gh=4 - b∧s14=.int .u8 (cK t1 t2 t3 3 b)∧s16=.int .u8 bb∧Below wS.heap.size wS wr)
             case atStart=>exact⟨1,1,by omega,rfl,rfl,rfl,Below.refl _ _⟩
             case round=>
              obtain⟨b,bb,hb,rfl,rfl,rfl,hb5⟩:=hrel;have e0:=HcK.out _ (HbS.out.trans (hb5.mono HbS.out.size));have e1:=HcJ.out _ (HbS.out.trans (hb5.mono HbS.out.size))
              rcases hb with ⟨rfl,rfl⟩ | ⟨rfl,rfl⟩ | ⟨rfl,rfl⟩ | ⟨rfl,rfl⟩
              · skip
                obtain⟨cv,hcv⟩:∃ cv,cK t1 t2 t3 3 1=cv:=⟨_,rfl⟩;rw[hcv]
                by_cases hc:(3:Int)>cv
                · have d2:decide ((3:Int)>cv)=true:=by simpa using hc
                  obtain⟨q,hq'⟩:∃ q,t2=q:=⟨_,rfl⟩;have Htwo:=qq fun W (hW:Below w.heap.size w W)=>two_any q N Al nl cl xs v u 3 1 W ((Hx.out.below hW).more hW.size) hl hN Hok.out hvN huN (by omega) (by omega) (Ht2.out.trans hq');have Hq:=qq hq';have Hb5:=qq hb5;clear hb5 hq'
                  cases q
                  case' true=>
                   have Hc:=qq (cK_yes (x:=t1) (y:=t2) (z:=t3) (a:=3) (b:=1) (aa:=3) (by omega) Hq.out (by rw[hcv]; exact hc))
                   clear hc hcv
                  case' false=>
                   have Hc:=qq ((cK_no (x:=t1) (y:=t2) (z:=t3) (a:=3) (b:=1) (aa:=3) (by omega) Hq.out).trans hcv);clear hc hcv
                  all_goals
                   skip
                   go_upto_region 24 with fail;refine wp_region_noPanic ?_;refine wp_region_T (fun w'=>w'.cell? ⟨b,off+k,none⟩=some (.int .i64 (v:Nat))∧w'.cell? ⟨b,off+j,none⟩=some (.int .i64 (u:Nat))) 23 (by kernel_rfl) ⟨e0,e1⟩ (fun hHeld=>?_);have hbd:=Below.drew Hb5.out;clear e0 e1;generalize wr.drew=W0 at hHeld hbd ⊢;refine nx0 0 ?_
                   iterate 7 (refine nx (v:=?_) rfl (by kernel_rfl) (fun _ _ _ h=>h) (by kernel_rfl) ?_ (by assumption) ?_; rotate_left; focus (intro w hSw; (try dsimp only at hSw); first | (go_simp; done) | (go_simp; with_reducible rfl)); try simp only[Act.put,qg,qe,qf,qd,qh,qi,Nat.reduceAdd])
                   refine nx9 ?_
                   try rw[d2]
                   refine nx0 7 ?_
                   iterate 14 (refine nx (v:=?_) rfl (by kernel_rfl) (fun _ _ _ h=>h) (by kernel_rfl) ?_ (by assumption) ?_; rotate_left; focus (intro w hSw; (try dsimp only at hSw); first | (go_simp; done) | (go_simp; with_reducible rfl)); try simp only[Act.put,qg,qe,qf,qd,qh,qi,Nat.reduceAdd])
                   refine nx9 ?_;clear hHeld;refine wpAnyT_step (i:=21) (by kernel_rfl) rfl (fun K hK=>?_)
                   (go_simp; refine(Htwo.out W0 (HbS.out.trans (hbd.mono HbS.out.size))).mono ?_; rintro e w3 ⟨rfl,hb3⟩; have hb9:=hbd.trans (hb3.mono hbd.size); clear hb3 hbd)
                   refine hK.out _ _ ⟨HcK.out _ (HbS.out.trans (hb9.mono HbS.out.size)),HcJ.out _ (HbS.out.trans (hb9.mono HbS.out.size))⟩ ?_;clear hK K
                   try simp only[Act.put,qg,qe,qf,qd,qh,qi]
                   have hHeld:w3.cell? ⟨b,off+k,none⟩=some (.int .i64 (v:Nat))∧w3.cell? ⟨b,off+j,none⟩=some (.int .i64 (u:Nat)):=⟨HcK.out _ (HbS.out.trans (hb9.mono HbS.out.size)),HcJ.out _ (HbS.out.trans (hb9.mono HbS.out.size))⟩;have Hbd:=qq hb9;clear hb9
                   refine wpAnyT_take (i:=22) (v:=?_) rfl (by kernel_rfl) (by kernel_rfl) (by kernel_rfl) (by kernel_rfl) (fun _ _ _ h=>h) (Or.inl ⟨by rfl,?_⟩) (by assumption) ?_
                   rotate_left
                   · (intro w hSw; (try dsimp only at hSw); first | (go_simp; done) | (go_simp; with_reducible rfl))
                   try simp only[Act.put,qg,qe,qf,qd,qh,qi]
                   clear hHeld;refine wpAnyT_seq 23 (by omega) (by rfl) (by kernel_rfl) ?_;simp only[List.drop_succ_cons,List.drop_zero];go_wp2_with fail;refine NoPanic.normal ?_;go_wp2_with fail;go_roundg (4 - (1+1))
                   case measure=>omega
                   case rel=>exact⟨1+1,1+1,by omega,rfl,by rw[Hc.out],rfl,Hbd.out⟩
                · have d2:decide ((3:Int)>cv)=false:=by simpa using hc
                  have Hc:=qq ((cK_not (x:=t1) (y:=t2) (z:=t3) (a:=3) (b:=1) (aa:=3) (by omega) (by rw[hcv]; exact hc)).trans hcv)
                  have Hb5:=qq hb5;clear hb5 hc hcv;go_upto_region 24 with fail;refine wp_region_noPanic ?_;refine wp_region_T (fun w'=>w'.cell? ⟨b,off+k,none⟩=some (.int .i64 (v:Nat))∧w'.cell? ⟨b,off+j,none⟩=some (.int .i64 (u:Nat))) 23 (by kernel_rfl) ⟨e0,e1⟩ (fun hHeld=>?_);have hbd:=Below.drew Hb5.out;clear e0 e1;generalize wr.drew=W0 at hHeld hbd ⊢;refine nx0 0 ?_
                  iterate 7 (refine nx (v:=?_) rfl (by kernel_rfl) (fun _ _ _ h=>h) (by kernel_rfl) ?_ (by assumption) ?_; rotate_left; focus (intro w hSw; (try dsimp only at hSw); first | (go_simp; done) | (go_simp; with_reducible rfl)); try simp only[Act.put,qg,qe,qf,qd,qh,qi,Nat.reduceAdd])
                  refine nx9 ?_
                  try rw[d2]
                  refine nx0 7 ?_
                  iterate 2 (refine nx (v:=?_) rfl (by kernel_rfl) (fun _ _ _ h=>h) (by kernel_rfl) ?_ (by assumption) ?_; rotate_left; focus (intro w hSw; (try dsimp only at hSw); first | (go_simp; done) | (go_simp; with_reducible rfl)); try simp only[Act.put,qg,qe,qf,qd,qh,qi,Nat.reduceAdd])
                  refine nx9 ?_;refine nx0 9 ?_
                  iterate 13 (refine nxk rfl (by kernel_rfl) (fun _ _ _ h=>h) (by kernel_rfl) (by assumption) ?_; try simp only[Act.put,qg,qe,qf,qd,qh,qi,Nat.reduceAdd])
                  refine nx9 ?_
                  refine wpAnyT_take (i:=22) (v:=?_) rfl (by kernel_rfl) (by kernel_rfl) (by kernel_rfl) (by kernel_rfl) (fun _ _ _ h=>h) (Or.inl ⟨by rfl,?_⟩) (by assumption) ?_
                  rotate_left
                  · (intro w hSw; (try dsimp only at hSw); first | (go_simp; done) | (go_simp; with_reducible rfl))
                  try simp only[Act.put,qg,qe,qf,qd,qh,qi]
                  have Hbd:=qq hbd;clear hbd;clear hHeld;refine wpAnyT_seq 23 (by omega) (by rfl) (by kernel_rfl) ?_;simp only[List.drop_succ_cons,List.drop_zero];go_wp2_with fail;refine NoPanic.normal ?_;go_wp2_with fail;go_roundg (4 - (1+1))
                  case measure=>omega
                  case rel=>exact⟨1+1,1+1,by omega,rfl,by rw[Hc.out],rfl,Hbd.out⟩
              · skip
                obtain⟨cv,hcv⟩:∃ cv,cK t1 t2 t3 3 2=cv:=⟨_,rfl⟩;rw[hcv]
                by_cases hc:(3:Int)>cv
                · have d2:decide ((3:Int)>cv)=true:=by simpa using hc
                  obtain⟨q,hq'⟩:∃ q,t3=q:=⟨_,rfl⟩;have Htwo:=qq fun W (hW:Below w.heap.size w W)=>two_any q N Al nl cl xs v u 3 2 W ((Hx.out.below hW).more hW.size) hl hN Hok.out hvN huN (by omega) (by omega) (Ht3.out.trans hq');have Hq:=qq hq';have Hb5:=qq hb5;clear hb5 hq'
                  cases q
                  case' true=>
                   have Hc:=qq (cK_yes (x:=t1) (y:=t2) (z:=t3) (a:=3) (b:=2) (aa:=3) (by omega) Hq.out (by rw[hcv]; exact hc))
                   clear hc hcv
                  case' false=>
                   have Hc:=qq ((cK_no (x:=t1) (y:=t2) (z:=t3) (a:=3) (b:=2) (aa:=3) (by omega) Hq.out).trans hcv);clear hc hcv
                  all_goals
                   skip
                   go_upto_region 24 with fail;refine wp_region_noPanic ?_;refine wp_region_T (fun w'=>w'.cell? ⟨b,off+k,none⟩=some (.int .i64 (v:Nat))∧w'.cell? ⟨b,off+j,none⟩=some (.int .i64 (u:Nat))) 23 (by kernel_rfl) ⟨e0,e1⟩ (fun hHeld=>?_);have hbd:=Below.drew Hb5.out;clear e0 e1;generalize wr.drew=W0 at hHeld hbd ⊢;refine nx0 0 ?_
                   iterate 7 (refine nx (v:=?_) rfl (by kernel_rfl) (fun _ _ _ h=>h) (by kernel_rfl) ?_ (by assumption) ?_; rotate_left; focus (intro w hSw; (try dsimp only at hSw); first | (go_simp; done) | (go_simp; with_reducible rfl)); try simp only[Act.put,qg,qe,qf,qd,qh,qi,Nat.reduceAdd])
                   refine nx9 ?_
                   try rw[d2]
                   refine nx0 7 ?_
                   iterate 14 (refine nx (v:=?_) rfl (by kernel_rfl) (fun _ _ _ h=>h) (by kernel_rfl) ?_ (by assumption) ?_; rotate_left; focus (intro w hSw; (try dsimp only at hSw); first | (go_simp; done) | (go_simp; with_reducible rfl)); try simp only[Act.put,qg,qe,qf,qd,qh,qi,Nat.reduceAdd])
                   refine nx9 ?_;clear hHeld;refine wpAnyT_step (i:=21) (by kernel_rfl) rfl (fun K hK=>?_)
                   (go_simp; refine(Htwo.out W0 (HbS.out.trans (hbd.mono HbS.out.size))).mono ?_; rintro e w3 ⟨rfl,hb3⟩; have hb9:=hbd.trans (hb3.mono hbd.size); clear hb3 hbd)
                   refine hK.out _ _ ⟨HcK.out _ (HbS.out.trans (hb9.mono HbS.out.size)),HcJ.out _ (HbS.out.trans (hb9.mono HbS.out.size))⟩ ?_;clear hK K
                   try simp only[Act.put,qg,qe,qf,qd,qh,qi]
                   have hHeld:w3.cell? ⟨b,off+k,none⟩=some (.int .i64 (v:Nat))∧w3.cell? ⟨b,off+j,none⟩=some (.int .i64 (u:Nat)):=⟨HcK.out _ (HbS.out.trans (hb9.mono HbS.out.size)),HcJ.out _ (HbS.out.trans (hb9.mono HbS.out.size))⟩;have Hbd:=qq hb9;clear hb9
                   refine wpAnyT_take (i:=22) (v:=?_) rfl (by kernel_rfl) (by kernel_rfl) (by kernel_rfl) (by kernel_rfl) (fun _ _ _ h=>h) (Or.inl ⟨by rfl,?_⟩) (by assumption) ?_
                   rotate_left
                   · (intro w hSw; (try dsimp only at hSw); first | (go_simp; done) | (go_simp; with_reducible rfl))
                   try simp only[Act.put,qg,qe,qf,qd,qh,qi]
                   clear hHeld;refine wpAnyT_seq 23 (by omega) (by rfl) (by kernel_rfl) ?_;simp only[List.drop_succ_cons,List.drop_zero];go_wp2_with fail;refine NoPanic.normal ?_;go_wp2_with fail;go_roundg (4 - (2+1))
                   case measure=>omega
                   case rel=>exact⟨2+1,2+1,by omega,rfl,by rw[Hc.out],rfl,Hbd.out⟩
                · have d2:decide ((3:Int)>cv)=false:=by simpa using hc
                  have Hc:=qq ((cK_not (x:=t1) (y:=t2) (z:=t3) (a:=3) (b:=2) (aa:=3) (by omega) (by rw[hcv]; exact hc)).trans hcv)
                  have Hb5:=qq hb5;clear hb5 hc hcv;go_upto_region 24 with fail;refine wp_region_noPanic ?_;refine wp_region_T (fun w'=>w'.cell? ⟨b,off+k,none⟩=some (.int .i64 (v:Nat))∧w'.cell? ⟨b,off+j,none⟩=some (.int .i64 (u:Nat))) 23 (by kernel_rfl) ⟨e0,e1⟩ (fun hHeld=>?_);have hbd:=Below.drew Hb5.out;clear e0 e1;generalize wr.drew=W0 at hHeld hbd ⊢;refine nx0 0 ?_
                  iterate 7 (refine nx (v:=?_) rfl (by kernel_rfl) (fun _ _ _ h=>h) (by kernel_rfl) ?_ (by assumption) ?_; rotate_left; focus (intro w hSw; (try dsimp only at hSw); first | (go_simp; done) | (go_simp; with_reducible rfl)); try simp only[Act.put,qg,qe,qf,qd,qh,qi,Nat.reduceAdd])
                  refine nx9 ?_
                  try rw[d2]
                  refine nx0 7 ?_
                  iterate 2 (refine nx (v:=?_) rfl (by kernel_rfl) (fun _ _ _ h=>h) (by kernel_rfl) ?_ (by assumption) ?_; rotate_left; focus (intro w hSw; (try dsimp only at hSw); first | (go_simp; done) | (go_simp; with_reducible rfl)); try simp only[Act.put,qg,qe,qf,qd,qh,qi,Nat.reduceAdd])
                  refine nx9 ?_;refine nx0 9 ?_
                  iterate 13 (refine nxk rfl (by kernel_rfl) (fun _ _ _ h=>h) (by kernel_rfl) (by assumption) ?_; try simp only[Act.put,qg,qe,qf,qd,qh,qi,Nat.reduceAdd])
                  refine nx9 ?_
                  refine wpAnyT_take (i:=22) (v:=?_) rfl (by kernel_rfl) (by kernel_rfl) (by kernel_rfl) (by kernel_rfl) (fun _ _ _ h=>h) (Or.inl ⟨by rfl,?_⟩) (by assumption) ?_
                  rotate_left
                  · (intro w hSw; (try dsimp only at hSw); first | (go_simp; done) | (go_simp; with_reducible rfl))
                  try simp only[Act.put,qg,qe,qf,qd,qh,qi]
                  have Hbd:=qq hbd;clear hbd;clear hHeld;refine wpAnyT_seq 23 (by omega) (by rfl) (by kernel_rfl) ?_;simp only[List.drop_succ_cons,List.drop_zero];go_wp2_with fail;refine NoPanic.normal ?_;go_wp2_with fail;go_roundg (4 - (2+1))
                  case measure=>omega
                  case rel=>exact⟨2+1,2+1,by omega,rfl,by rw[Hc.out],rfl,Hbd.out⟩
              · skip
                have Hc:=qq (cK_skip t1 t2 t3 3 3 (by omega) (by omega) (by omega));have Hb5:=qq hb5;clear hb5;go_upto_region 24 with fail;refine wp_region_noPanic ?_;refine wp_region_T (fun w'=>w'.cell? ⟨b,off+k,none⟩=some (.int .i64 (v:Nat))∧w'.cell? ⟨b,off+j,none⟩=some (.int .i64 (u:Nat))) 23 (by kernel_rfl) ⟨e0,e1⟩ (fun hHeld=>?_);have hbd:=Below.drew Hb5.out;clear e0 e1;generalize wr.drew=W0 at hHeld hbd ⊢;refine nx0 0 ?_
                iterate 4 (refine nx (v:=?_) rfl (by kernel_rfl) (fun _ _ _ h=>h) (by kernel_rfl) ?_ (by assumption) ?_; rotate_left; focus (intro w hSw; (try dsimp only at hSw); first | (go_simp; done) | (go_simp; with_reducible rfl)); try simp only[Act.put,qg,qe,qf,qd,qh,qi,Nat.reduceAdd])
                refine nx9 ?_;refine nx0 4 ?_
                iterate 3 (refine nxk rfl (by kernel_rfl) (fun _ _ _ h=>h) (by kernel_rfl) (by assumption) ?_; try simp only[Act.put,qg,qe,qf,qd,qh,qi,Nat.reduceAdd])
                refine nx9 ?_;refine nx0 7 ?_
                iterate 2 (refine nx (v:=?_) rfl (by kernel_rfl) (fun _ _ _ h=>h) (by kernel_rfl) ?_ (by assumption) ?_; rotate_left; focus (intro w hSw; (try dsimp only at hSw); first | (go_simp; done) | (go_simp; with_reducible rfl)); try simp only[Act.put,qg,qe,qf,qd,qh,qi,Nat.reduceAdd])
                refine nx9 ?_;refine nx0 9 ?_
                iterate 13 (refine nxk rfl (by kernel_rfl) (fun _ _ _ h=>h) (by kernel_rfl) (by assumption) ?_; try simp only[Act.put,qg,qe,qf,qd,qh,qi,Nat.reduceAdd])
                refine nx9 ?_
                refine wpAnyT_take (i:=22) (v:=?_) rfl (by kernel_rfl) (by kernel_rfl) (by kernel_rfl) (by kernel_rfl) (fun _ _ _ h=>h) (Or.inl ⟨by rfl,?_⟩) (by assumption) ?_
                rotate_left
                · (intro w hSw; (try dsimp only at hSw); first | (go_simp; done) | (go_simp; with_reducible rfl))
                try simp only[Act.put,qg,qe,qf,qd,qh,qi]
                have Hbd:=qq hbd;clear hbd;clear hHeld;refine wpAnyT_seq 23 (by omega) (by rfl) (by kernel_rfl) ?_;simp only[List.drop_succ_cons,List.drop_zero];go_wp2_with fail;refine NoPanic.normal ?_;go_wp2_with fail;go_roundg (4 - (3+1))
                case measure=>omega
                case rel=>exact⟨3+1,3+1,by omega,rfl,by rw[Hc.out],rfl,Hbd.out⟩
              · have Hc:=qq (cK_next t1 t2 t3 3 (by omega))
                have Hb5:=qq (Hb4.out.trans (hb5.mono Hb4.out.size));clear hb5;go_wp2_with fail;go_roundg (4 - (3+1))
                case measure=>omega
                case rel=>exact⟨3+1,3+1,by omega,rfl,by rw[Hc.out],rfl,Hb5.out⟩
           · obtain⟨cv,hcv⟩:∃ cv,cK t1 t2 t3 4 1=cv:=⟨_,rfl⟩
             rw[hcv]
             have HCv:Hid (RR.take (j+1)=RR.take j++[cv]):=qq (by
              rw[take_snoc (d:=0) (by rw[HRl.out]; exact hjn),← HRR.out,map_getD (by omega),Hu.out,← hcv,← Ht1.out,← Ht2.out,← Ht3.out]
              rw[← cK_all (fun a b=>twoB N xs v a u b)])
             have Hrow4:=qq (ownsRow_beyond Hrow.out hb4);have Hb4:=qq (Hbq.out.trans (hb4.mono Hbq.out.size));have Hb9:=qq (Hb4.out.alloc Hb4.out.size (Obj.cells #[.int .u8 cv] 22));clear hcv hb4
             go_wp2_with (at_builtin; refine wpList_append_rd _ rfl (.tmp 83) (.tmp 85) 35 rfl wP.heap.size 22 i0 _ 1 1 Tryz.underlying35 hi0 hz0 hz1 hz2 rfl (by omega) (.slice A j c) j ((RR.take j).map (Value.int .u8)) rfl (Hrow4.out.alloc _) (wr.heap.size+1) (some ⟨wr.heap.size,0,none⟩) 1 1 [.int .u8 cv] rfl (rd_new1 _ _ _) (by intro x hx; simp at hx; subst hx; rfl) (by unfold maxLen; omega) (by omega) Hb9.out.size ?_; intro v7 w7 ho7 hg7 hat7; obtain⟨A7,c7,rfl⟩:=ownsRow_form ho7)
             have hb7:=Hb9.out.grown hg7 Hb9.out.size (fun b' hb'=>(ownsRow_lt (Hrow4.out.alloc (Obj.cells #[.int .u8 cv] 22)) hb').1);go_roundg (nk - (j+1))
             case measure=>omega
             case rel=>exact⟨j+1,A7,c7,by omega,rfl,rfl,by simp,by rw[HCv.out,List.map_append]; exact ho7,hb7⟩
        · have d1:decide (j<nk)=false:=by simpa using hjn
          obtain⟨j9,rfl⟩:∃ j9,j9=j:=⟨_,rfl⟩
          have hj9:nk=j9:=by omega
          subst hj9;have hrow:=Hrow.out
          rw[List.take_of_length_le (by rw[HRl.out]; exact Nat.le_refl _)] at hrow
          have hsz:w.heap.size+1+1≤wP.heap.size:=Hg1P.out.lt;have hown:=HownP.out.row Hbq.out hsz hrow HRl.out;have HownE:=qq hown;have Hg1E:=qq (Hg1P.out.below Hbq.out Hg1P.out.lt);have Hg0E:=qq (Hg0P.out.below Hbq.out Hg0P.out.lt)
          have hll:lo.length≤1000:=by have:=Hlo.out; have:=Hrl.out; rw[Hlo.out,List.length_take]; omega
          have hul:up.length≤1000:=by have:=Hru.out; rw[Hup.out,List.length_take]; omega
          have hvl:vs.length≤1000:=by have:=Hvs.out; omega
          have hll63:lo.length≤9223372036854775807:=by omega
          have hul63:up.length≤9223372036854775807:=by omega
          have hvl63:vs.length≤9223372036854775807:=by omega
          have hne:w.heap.size+1≠w.heap.size:=by omega
          clear hrow hown HownP Hg1P Hg0P Hrow;have x0:wQ.cell? ⟨w.heap.size+1,0,none⟩=some (.slice A1 lo.length c1):=Hg1E.out.cell 0
          go_upto_region 28 with (at_builtin; refine wpList_append_rd _ rfl (.tmp 88) (.tmp 90) 35 rfl (w.heap.size+1+1) 22 i0 _ 1 1 Tryz.underlying35 hi0 hz0 hz1 hz2 rfl (by omega) (.slice A1 lo.length c1) lo.length (lo.map (Value.int .u8)) rfl (HownE.out.o1.alloc _) (wQ.heap.size+1) (some ⟨wQ.heap.size,0,none⟩) 1 1 [.int .u8 lv] rfl (rd_new1 _ _ _) (by intro x hx; simp at hx; subst hx; rfl) (by unfold maxLen; omega) (by omega) (by have:=Hbq.out.size; simp; omega) ?_; intro v7 w7 ho7 hg7 hat7; obtain⟨A7,c7,rfl⟩:=ownsRow_form ho7; obtain⟨⟨y0,y1⟩,y2,y3,y4,y5⟩:=HownE.out.step1 (x:=lv) Hg1E.out Hg0E.out (Nat.lt_succ_self _) (by omega) hne HbQ.out (Nat.le_refl _) (by omega) ho7 hg7 hat7; have Hy:=qq (And.intro y2 (And.intro y3 (And.intro y4 y5))); clear y2 y3 y4 y5 ho7 hg7 hat7 x0)
          clear y0 y1;obtain⟨z2,z3,z4,z5⟩:=Hy.out;obtain⟨w8,hw8⟩:∃ x,w7.setCell ⟨w.heap.size+1,0,none⟩ (.slice A7 (lo.length+1) c7)=x:=⟨_,rfl⟩;rw[hw8] at z2 z3 z4 z5 ⊢;have Z2:=qq z2;have Z3:=qq z3;have Z4:=qq z4;have Z5:=qq z5;clear z2 z3 z4 z5 hw8 Hy;have x0:w8.cell? ⟨w.heap.size+1,1,none⟩=some (.slice A2 up.length c2):=Z3.out.cell 1;have hs8:w.heap.size+1+1≤w8.heap.size:=Z3.out.lt
          go_upto_region 29 with (at_builtin; refine wpList_append_rd _ rfl (.tmp 94) (.tmp 96) 35 rfl (w.heap.size+1+1) 22 i0 _ 1 1 Tryz.underlying35 hi0 hz0 hz1 hz2 rfl (by omega) (.slice A2 up.length c2) up.length (up.map (Value.int .u8)) rfl (Z2.out.o2.alloc _) (w8.heap.size+1) (some ⟨w8.heap.size,0,none⟩) 1 1 [.int .u8 uv] rfl (rd_new1 _ _ _) (by intro x hx; simp at hx; subst hx; rfl) (by unfold maxLen; omega) (by omega) (by simp; omega) ?_; intro v7 w9 ho7 hg7 hat7; obtain⟨A8,c8,rfl⟩:=ownsRow_form ho7; obtain⟨⟨y0,y1⟩,y2,y3,y4,y5⟩:=Z2.out.step2 (x:=uv) Z3.out Z4.out (Nat.lt_succ_self _) (by omega) hne Z5.out (Nat.le_refl _) (by omega) ho7 hg7 hat7; have Hy:=qq (And.intro y2 (And.intro y3 (And.intro y4 y5))); clear y2 y3 y4 y5 ho7 hg7 hat7 x0)
          clear y0 y1 Z2 Z3 Z4 Z5 hs8;obtain⟨z2,z3,z4,z5⟩:=Hy.out;obtain⟨wT,hwT⟩:∃ x,w9.setCell ⟨w.heap.size+1,1,none⟩ (.slice A8 (up.length+1) c8)=x:=⟨_,rfl⟩;rw[hwT] at z2 z3 z4 z5 ⊢;have Z2:=qq z2;have Z3:=qq z3;have Z4:=qq z4;have Z5:=qq z5;clear z2 z3 z4 z5 hwT Hy;have x0:wT.cell? ⟨w.heap.size+1,2,none⟩=some (.slice A3 vs.length c3):=Z3.out.cell 2;have hs8:w.heap.size+1+1≤wT.heap.size:=Z3.out.lt
          have ho3:wT.ownsRow (w.heap.size+1+1) 35 1 (.slice A3 vs.length c3) vs.length vs:=by
           have:=Z2.out.o3;rw[List.take_left' rfl] at this;exact this
          have Ho3:=qq ho3;clear ho3
          go_wp2_with (at_builtin; refine wpList_append_rd _ rfl (.tmp 100) (.tmp 102) 36 rfl (w.heap.size+1+1) 35 r0 _ 1 24 Tryz.underlying36 hr0 hy0 hy1 hy2 rfl (by omega) (.slice A3 vs.length c3) vs.length vs rfl (Ho3.out.alloc _) (wT.heap.size+1) (some ⟨wT.heap.size,0,none⟩) 1 1 [.slice A nk c] rfl (rd_new1 _ _ _) (by intro x hx; simp at hx; subst hx; rfl) (by unfold maxLen; omega) (by omega) (by simp; omega) ?_; intro v7 wU ho7 hg7 hat7; obtain⟨A9,c9,rfl⟩:=ownsRow_form ho7; obtain⟨⟨y0,y1⟩,y2,y3,y4,y5⟩:=Z2.out.step3 rfl Z3.out Z4.out (Nat.lt_succ_self _) (by omega) hne Z5.out (Nat.le_refl _) (by omega) ho7 hg7 hat7; have Hy:=qq (And.intro y2 (And.intro y3 (And.intro y4 y5))); clear y2 y3 y4 y5 ho7 hg7 hat7 x0)
          obtain⟨z2,z3,z4,z5⟩:=Hy.out
          have hlo2:lo++[lv]=RL.take (k+1):=by rw[take_snoc (d:=0) (by rw[Hrl.out]; exact hkn'),← Hlo.out,HLv.out]
          have hup2:up++[uv]=RU.take (k+1):=by rw[take_snoc (d:=0) (by rw[Hru.out]; exact hkn'),← Hup.out,HUv.out]
          have hps2:ps++[RR]=RP.take (k+1):=by rw[take_snoc (d:=[]) (by rw[Hrp.out]; exact hkn'),← Hps.out,HRv.out]
          have hvs2:(vs++[Value.slice A nk c]).length=k+1:=by simp[Hvs.out]
          have hl1:(lo++[lv]).length=lo.length+1:=by simp
          have hl2:(up++[uv]).length=up.length+1:=by simp
          have hl3:(vs++[Value.slice A nk c]).length=vs.length+1:=by simp
          go_roundg (nk - (k+1))
          case measure=>omega
          case rel=>exact⟨k+1,lo++[lv],up++[uv],ps++[RR],vs++[.slice A nk c],A7,c7,A8,c8,A9,c9,by omega,rfl,by simp,hlo2,hup2,hps2,hvs2,by rw[hl1,hl2,hl3]; exact z3,z4,by rw[hl3] at z2 ⊢; rw[hl1,hl2]; exact z2,z5⟩
  · have d0:decide (k<nk)=false:=by simpa using hkn'
    obtain⟨k9,rfl⟩:∃ k9,k9=k:=⟨_,rfl⟩
    have hk9:nk=k9:=by omega
    subst hk9
    have e1:lo=RL:=by rw[Hlo.out]; exact List.take_of_length_le (by rw[Hrl.out]; exact Nat.le_refl _)
    have e2:up=RU:=by rw[Hup.out]; exact List.take_of_length_le (by rw[Hru.out]; exact Nat.le_refl _)
    have e3:ps=RP:=by rw[Hps.out]; exact List.take_of_length_le (by rw[Hrp.out]; exact Nat.le_refl _)
    have ht:=Hown.out.tab;have HRT:Hid (refTab N xs kn=⟨lo,up,ps⟩):=qq (by rw[HR.out,e1,e2,e3]);clear e1 e2 e3
    have hne:w.heap.size≠w.heap.size+1:=by omega
    have q0:wO.cell? ⟨w.heap.size+1,0,none⟩=some (.slice A1 lo.length c1):=Hg1.out.cell 0;have q1:wO.cell? ⟨w.heap.size+1,1,none⟩=some (.slice A2 up.length c2):=Hg1.out.cell 1;have q2:wO.cell? ⟨w.heap.size+1,2,none⟩=some (.slice A3 vs.length c3):=Hg1.out.cell 2;have r0':wO.cell? ⟨w.heap.size,0,none⟩=some (.slice none 0 0):=Hg0.out.cell 0;have r1':wO.cell? ⟨w.heap.size,1,none⟩=some (.slice none 0 0):=Hg0.out.cell 1;have r2':wO.cell? ⟨w.heap.size,2,none⟩=some (.slice none 0 0):=Hg0.out.cell 2;have f0:=Hg0.out.frozen 0;have f1:=Hg0.out.frozen 1;have f2:=Hg0.out.frozen 2;have hk3:=Hg0.out.set3 (.slice A1 lo.length c1) (.slice A2 up.length c2) (.slice A3 vs.length c3);have hb3:=((HbO.out.setCell (p:=⟨w.heap.size,0,none⟩) (Nat.le_refl _) (.slice A1 lo.length c1)).setCell (p:=⟨w.heap.size,1,none⟩) (Nat.le_refl _) (.slice A2 up.length c2)).setCell (p:=⟨w.heap.size,2,none⟩) (Nat.le_refl _) (.slice A3 vs.length c3);have ho3:=((Hown.out.setG (g:=w.heap.size) (by omega) 0 (.slice A1 lo.length c1)).setG (g:=w.heap.size) (by omega) 1 (.slice A2 up.length c2)).setG (g:=w.heap.size) (by omega) 2 (.slice A3 vs.length c3);have Ht:=qq ho3.tab;have Hb3:=qq hb3;have Hk3:=qq hk3;clear ht hk3 hb3 ho3;go_wp2_with fail;have d0:=Hk3.out.cell 0;have d1:=Hk3.out.cell 1;have d2:=Hk3.out.cell 2;simp only[qc,qb,qa] at d0 d1 d2
    exact bodyPost_ret (v:=.agg #[.slice A1 lo.length c1,.slice A2 up.length c2,.slice A3 vs.length c3]) (by simp[results,Tryz.results53,go_sem,d0,d1,d2]) rfl ⟨_,rfl,by rw[HRT.out]; exact Ht.out,Hb3.out⟩
end Go.Proofs.YtdmakpmbknindaaGreatDoor
