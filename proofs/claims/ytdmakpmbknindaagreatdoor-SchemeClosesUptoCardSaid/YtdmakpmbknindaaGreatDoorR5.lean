import Derived.Test.YtdmakpmbknindaaGreatDoorM27
import Derived.Test.YtdmakpmbknindaaGreatDoorR4
import Derived.Test.YtdmakpmbknindaaGreatDoorR1
set_option linter.unusedVariables false
set_option linter.unusedSimpArgs false
set_option maxHeartbeats 2000000
set_option maxRecDepth 100000
namespace Go.Proofs.YtdmakpmbknindaaGreatDoor
open Go.RowKit
def sameS (a b:SchD):Bool:=decide (a.types=b.types)&&(decide (a.mults=b.mults)&&(sameT a.t b.t&&decide (a.tab=b.tab)))
theorem sameS_iff (a b:SchD):sameS a b=true↔a=b:=by
 unfold sameS;rw[Bool.and_eq_true,Bool.and_eq_true,Bool.and_eq_true,decide_eq_true_eq,decide_eq_true_eq,decide_eq_true_eq,sameT_iff]
 cases a; cases b
 simp only[SchD.mk.injEq]
theorem schSame_any (a b:SchD) (v v':Value) (w:World) (hv:SchV w w.heap.size v a) (hv':SchV w w.heap.size v' b):
 Calls Tryz.prog 14 #[v,v'] w fun e w'=>e=.returned (.bool (sameS a b))∧Below w.heap.size w w':=by
 obtain⟨A,m,cp,A1,c1,A2,c2,A3,c3,rfl,hr⟩:=hv;obtain⟨D,k,cq,D1,d1,D2,d2,D3,d3,rfl,hq⟩:=hv';obtain⟨r,hsr⟩:∃ r,sameS a b=r:=⟨_,rfl⟩;rw[hsr];unfold sameS at hsr;have Hsr:=qq hsr;clear hsr;have hk:=blk_new w (cellsS a A m cp A1 c1 A2 c2 A3 c3) 40;have hb:=below_box (w:=w) (Obj.cells (cellsS a A m cp A1 c1 A2 c2 A3 c3) 40);obtain⟨W,hW⟩:∃ x,w.alloc (Obj.cells (cellsS a A m cp A1 c1 A2 c2 A3 c3) 40)=x:=⟨_,rfl⟩
 have hs:W.heap.size=w.heap.size+1:=by rw[← hW]; simp
 rw[hW] at hk hb;have hk2:=blk_new W (cellsS b D k cq D1 d1 D2 d2 D3 d3) 40;have hb2:=below_box (w:=W) (Obj.cells (cellsS b D k cq D1 d1 D2 d2 D3 d3) 40);obtain⟨V,hV⟩:∃ x,W.alloc (Obj.cells (cellsS b D k cq D1 d1 D2 d2 D3 d3) 40)=x:=⟨_,rfl⟩;rw[hV] at hk2 hb2;rw[hs] at hk2;have hkV:=hk.below hb2 hk.lt;have HR:=qq ((hr.fresh hb).fresh hb2);have HQ:=qq ((hq.fresh hb).fresh hb2);have Hb:=qq (hb.trans (hb2.mono (by omega)))
 have hVV:(w.alloc (Obj.cells (cellsS a A m cp A1 c1 A2 c2 A3 c3) 40)).alloc (Obj.cells (cellsS b D k cq D1 d1 D2 d2 D3 d3) 40)=V:=by rw[hW,hV]
 unfold cellsS at hVV;have HV:=qq hVV;have HK:=qq hkV;have HL:=qq hk2;clear hk hb hW hs hk2 hb2 hV hkV hr hq hVV;unfold cellsS
 go_enter Tryz.func14,Tryz.ntmps14
 go_upto_region 1 with fail;rw[HV.out];obtain⟨x0,x1,x2,x3,x4,x5,x6,x7,x8,x9⟩:=box_cells HK.out;obtain⟨y0,y1,y2,y3,y4,y5,y6,y7,y8,y9⟩:=box_cells HL.out
 by_cases q1:a.types=b.types
 · have e1:(a.types==b.types)=true:=by simp[q1]
   by_cases q2:a.mults=b.mults
   · have e2:(a.mults==b.mults)=true:=by simp[q2]
     obtain⟨r3,h3⟩:∃ x,sameT a.t b.t=x:=⟨_,rfl⟩;obtain⟨r4,h4⟩:∃ x,decide (a.tab=b.tab)=x:=⟨_,rfl⟩
     have hR:(r3&&r4)=r:=by
      have:=Hsr.out;rw[h3,h4,decide_eq_true q1,decide_eq_true q2] at this;exact this
     clear Hsr;have HR3:=qq h3;have HR4:=qq h4;have HRr:=qq hR;clear h3 h4 hR;go_wp2_with fail;refine(same_go (nodes a.t) a.t b.t (Nat.le_refl _) A m cp D k cq V HR.out.ty HQ.out.ty).mono ?_;rw[HR3.out];rintro e w4 ⟨rfl,hb4⟩;have HRb:=qq (HR.out.fresh hb4);have HQb:=qq (HQ.out.fresh hb4);have HKb:=qq (HK.out.below hb4 HK.out.lt);have HLb:=qq (HL.out.below hb4 HL.out.lt);have Hb4:=qq (Hb.out.trans (hb4.mono Hb.out.size));clear x0 x1 x2 x3 x4 x5 x6 x7 x8 x9 y0 y1 y2 y3 y4 y5 y6 y7 y8 y9 hb4 HV HK HL HR HQ Hb;obtain⟨x0,x1,x2,x3,x4,x5,x6,x7,x8,x9⟩:=box_cells HKb.out;obtain⟨y0,y1,y2,y3,y4,y5,y6,y7,y8,y9⟩:=box_cells HLb.out
     cases r3 with
     | true=>
       go_wp2_with fail;refine(tabSame_any HR4.out _ _ w4 HRb.out.tab HQb.out.tab).mono ?_;rintro e w5 ⟨rfl,hb5⟩;have Hb5:=qq (Hb4.out.trans (hb5.mono Hb4.out.size));clear hb5;go_wp2_with fail;go_ret
       exact⟨by rw[← HRr.out]; rfl,Hb5.out⟩
     | false=>
       go_wp2_with fail;go_ret
       exact⟨by rw[← HRr.out]; rfl,Hb4.out⟩
   · have e2:(a.mults==b.mults)=false:=by simp[q2]
     have HRr:Hid (false=r):=qq (by
      have:=Hsr.out;rw[decide_eq_true q1,decide_eq_false q2] at this
      exact this)
     clear Hsr;go_wp2_with fail;go_ret
     exact⟨by rw[← HRr.out]; rfl,Hb.out⟩
 · have e1:(a.types==b.types)=false:=by simp[q1]
   have HRr:Hid (false=r):=qq (by
    have:=Hsr.out;rw[decide_eq_false q1] at this
    exact this)
   clear Hsr;go_wp2_with fail;go_ret
   exact⟨by rw[← HRr.out]; rfl,Hb.out⟩
end Go.Proofs.YtdmakpmbknindaaGreatDoor
