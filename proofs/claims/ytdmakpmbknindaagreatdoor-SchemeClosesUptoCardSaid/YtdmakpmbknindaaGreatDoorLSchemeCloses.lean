/- SchemeCloses holds: the scheme that a type is closed to is the document's. Conditions: the arguments are of bulk at most 1048576; the variables that the row lists are laid as the program's text lays them. -/
import Derived.Test.YtdmakpmbknindaaGreatDoorM32
import Derived.Test.YtdmakpmbknindaaGreatDoorR9
import Derived.Test.YtdmakpmbknindaaGreatDoorR5
import Derived.Deep.DeepHandedRow
set_option linter.unusedVariables false
set_option linter.unusedSimpArgs false
set_option maxHeartbeats 4000000
set_option maxRecDepth 100000
namespace Go.Proofs.YtdmakpmbknindaaGreatDoor
open Go.ChangeShapes Go.WideShapes Go.ChangeAt Go.RowKit
theorem field_seen (a b:Value) (w:World):(Instr.field 32 (.agg #[a,b]) 1).run Tryz.prog w=.ok b w:=by kernel_rfl
theorem walkA_schemeCloses (t:TyD) (A:Option Addr) (m cp:Nat) (n:Int) (Al:Option Addr) (nl cl:Nat) (xs:List IneqD) (w:World) (hT:Tab w) (ht:TysV w w.heap.size A m cp t.l) (hx:IneqsV w w.heap.size Al nl cl xs) (hN:nodes t≤1099511627776):
    Calls Tryz.prog 3 #[.agg #[.int .u8 t.k,.int .i64 t.n,.int .i64 t.v,.int .u8 t.c,.slice A m cp],.int .i64 n,.slice Al nl cl] w fun e w'=>e=.returned (.bool true)∧Below w.heap.size w w':=by
  have hxl:=hx.len
  have n63:nl≤9223372036854775807:=by have:=hx.2.1; have:=hx.2.2.1; unfold maxLen at this; omega
  have hk:=blk_new w #[.int .u8 t.k,.int .i64 t.n,.int .i64 t.v,.int .u8 t.c,.slice A m cp] 27;have hb:=below_box (w:=w) (Obj.cells #[.int .u8 t.k,.int .i64 t.n,.int .i64 t.v,.int .u8 t.c,.slice A m cp] 27);obtain⟨W,hW⟩:∃ x,w.alloc (Obj.cells #[.int .u8 t.k,.int .i64 t.n,.int .i64 t.v,.int .u8 t.c,.slice A m cp] 27)=x:=⟨_,rfl⟩;rw[hW] at hk hb;have HW:=qq hW;have HK:=qq hk;have Hb:=qq hb;have Ht0:=qq ((ht.below hb).more hb.size);have Hx:=qq ((hx.below hb).more hb.size);have Ht:=qq hT;clear hW hk hb ht hx hT;obtain⟨D1,hd1⟩:∃ D,decide (1000<sizeW t)=D:=⟨_,rfl⟩;obtain⟨D2,hd2⟩:∃ D,decide (30<n)=D:=⟨_,rfl⟩;obtain⟨D3,hd3⟩:∃ D,decide (60<(nl:Int))=D:=⟨_,rfl⟩;have HD2:=qq hd2;have HD3:=qq hd3
  go_enter Tryz.func3,Tryz.ntmps3
  go_upto_region 1 with fail;rw[HW.out];have x0:=HK.out.cell 0;have x1:=HK.out.cell 1;have x2:=HK.out.cell 2;have x3:=HK.out.cell 3;have x4:=HK.out.cell 4;simp only[qc,qb,qa] at x0 x1 x2 x3 x4
  cases D1 with
  | true=>
    have d1:=hd1; have d2:=hd2; have d3:=hd3
    clear hd1 hd2 hd3;go_wp2_with fail
    refine(refSize_any t _ W ⟨A,m,cp,rfl,Ht0.out⟩).mono ?_; rintro e w1 ⟨rfl,hb1⟩
    have Hb1:=qq (Hb.out.trans (hb1.mono Hb.out.size));clear hb1 x0 x1 x2 x3 x4;go_wp2_with fail
    refine(works8_any w1 (Ht.out.below Hb1.out)).mono ?_; rintro e w9 ⟨rfl,hb9⟩
    have Hb9:=qq ((Hb1.out).trans (hb9.mono (Hb1.out).size));clear hb9;go_wp2_with fail;go_ret;exact⟨rfl,Hb9.out⟩
  | false=>
    cases D2 with
    | true=>
      have d1:=hd1; have d2:=hd2; have d3:=hd3
      clear hd1 hd2 hd3;go_wp2_with fail
      refine(refSize_any t _ W ⟨A,m,cp,rfl,Ht0.out⟩).mono ?_; rintro e w1 ⟨rfl,hb1⟩
      have Hb1:=qq (Hb.out.trans (hb1.mono Hb.out.size));clear hb1 x0 x1 x2 x3 x4;go_wp2_with fail
      refine(works8_any w1 (Ht.out.below Hb1.out)).mono ?_; rintro e w9 ⟨rfl,hb9⟩
      have Hb9:=qq ((Hb1.out).trans (hb9.mono (Hb1.out).size));clear hb9;go_wp2_with fail;go_ret;exact⟨rfl,Hb9.out⟩
    | false=>
      cases D3 with
      | true=>
        have d1:=hd1; have d2:=hd2; have d3:=hd3
        clear hd1 hd2 hd3;go_wp2_with fail
        refine(refSize_any t _ W ⟨A,m,cp,rfl,Ht0.out⟩).mono ?_; rintro e w1 ⟨rfl,hb1⟩
        have Hb1:=qq (Hb.out.trans (hb1.mono Hb.out.size));clear hb1 x0 x1 x2 x3 x4;go_wp2_with fail
        refine(works8_any w1 (Ht.out.below Hb1.out)).mono ?_; rintro e w9 ⟨rfl,hb9⟩
        have Hb9:=qq ((Hb1.out).trans (hb9.mono (Hb1.out).size));clear hb9;go_wp2_with fail;go_ret;exact⟨rfl,Hb9.out⟩
      | false=>
        have d1:=hd1; have d2:=hd2; have d3:=hd3
        clear hd1 hd2 hd3;go_wp2_with fail
        refine(refSize_any t _ W ⟨A,m,cp,rfl,Ht0.out⟩).mono ?_; rintro e w1 ⟨rfl,hb1⟩
        have HK1:=qq (HK.out.below hb1 HK.out.lt);have Hb1:=qq (Hb.out.trans (hb1.mono Hb.out.size));have Ht1:=qq ((Ht0.out.below hb1).more hb1.size);have Hx1:=qq ((Hx.out.below hb1).more hb1.size);clear hb1 x0 x1 x2 x3 x4 HK Ht0 Hx Hb;have x0:=HK1.out.cell 0;have x1:=HK1.out.cell 1;have x2:=HK1.out.cell 2;have x3:=HK1.out.cell 3;have x4:=HK1.out.cell 4;simp only[qc,qb,qa] at x0 x1 x2 x3 x4;go_wp2_with fail;refine(refVars_any (t:=t) rfl rfl A m cp w1 Ht1.out hN).mono ?_;rintro e w2 ⟨B1,n1,e1,B2,n2,e2,rfl,hl1,hl2,hb2⟩;have hn2:=hl2.len;have Hn2:=qq hn2;have HK2:=qq (HK1.out.below hb2 HK1.out.lt);have Hb2:=qq (Hb1.out.trans (hb2.mono Hb1.out.size));have Ht2:=qq ((Ht1.out.below hb2).more hb2.size);have Hx2:=qq ((Hx1.out.below hb2).more hb2.size);have hfs:=fun w'=>field_seen (.slice B1 n1 e1) (.slice B2 n2 e2) w';clear hb2 hl1 hl2 hn2 x0 x1 x2 x3 x4 HK1 Ht1 Hx1 Hb1
        by_cases h5:n2≤5
        · have d4:decide (5<(n2:Int))=false:=by simp; omega
          have hn30:n≤30:=by have:=HD2.out; simp at this; omega
          have hl60:nl≤60:=by have:=HD3.out; simp at this; omega
          have hm5:(multsT t).length≤5:=by rw[Hn2.out]; exact h5
          clear h5;have x0:=HK2.out.cell 0;have x1:=HK2.out.cell 1;have x2:=HK2.out.cell 2;have x3:=HK2.out.cell 3;have x4:=HK2.out.cell 4;simp only[qc,qb,qa] at x0 x1 x2 x3 x4;go_wp2_with fail;refine(close_any t A m cp n Al nl cl xs w2 Ht2.out Hx2.out).mono ?_;rintro e w3 ⟨v,s,er,rfl,hv,hR,hb3⟩;obtain⟨Z,mz,cz,A1,c1,A2,c2,A3,c3,rfl,hr⟩:=hv;have hks:=blk_new w3 (cellsS s Z mz cz A1 c1 A2 c2 A3 c3) 40;have hbs:=below_box (w:=w3) (Obj.cells (cellsS s Z mz cz A1 c1 A2 c2 A3 c3) 40);obtain⟨g,hg⟩:∃ g,w3.heap.size=g:=⟨_,rfl⟩;obtain⟨w4,hw4⟩:∃ x,w3.alloc (Obj.cells (cellsS s Z mz cz A1 c1 A2 c2 A3 c3) 40)=x:=⟨_,rfl⟩;rw[hw4] at hks hbs;rw[hg] at hks;unfold cellsS at hw4;have hb34:=hb3.trans (hbs.mono hb3.size);have HW4:=qq hw4;have HKs:=qq hks;have HRs:=qq (hr.fresh hbs);have HR:=qq hR;have HK4:=qq (HK2.out.below hb34 HK2.out.lt);have Hb4:=qq (Hb2.out.trans (hb34.mono Hb2.out.size));have Ht4:=qq ((Ht2.out.below hb34).more hb34.size);have Hx4:=qq ((Hx2.out.below hb34).more hb34.size);clear hks hbs hw4 hb34 hb3 hr hR x0 x1 x2 x3 x4 HK2 Ht2 Hx2 Hb2;unfold cellsS;go_upto_region 4 with fail;rw[HW4.out];have x0:=HK4.out.cell 0;have x1:=HK4.out.cell 1;have x2:=HK4.out.cell 2;have x3:=HK4.out.cell 3;have x4:=HK4.out.cell 4;simp only[qc,qb,qa] at x0 x1 x2 x3 x4;go_wp2_with fail;refine(refClose_any t A m cp n Al nl cl xs w4 Ht4.out Hx4.out hN hm5 hn30 hl60).mono ?_;rintro e w5 ⟨v',s',er',rfl,hv',hR',hb5⟩;obtain⟨rfl,rfl⟩:=hR' _ _ HR.out;obtain⟨Y,my,cy,B1',c1',B2',c2',B3',c3',rfl,hr'⟩:=hv';have hks:=blk_new w5 (cellsS s Y my cy B1' c1' B2' c2' B3' c3') 40;have hbs:=below_box (w:=w5) (Obj.cells (cellsS s Y my cy B1' c1' B2' c2' B3' c3') 40);obtain⟨g',hg'⟩:∃ g,w5.heap.size=g:=⟨_,rfl⟩;obtain⟨w6,hw6⟩:∃ x,w5.alloc (Obj.cells (cellsS s Y my cy B1' c1' B2' c2' B3' c3') 40)=x:=⟨_,rfl⟩;rw[hw6] at hks hbs;rw[hg'] at hks;unfold cellsS at hw6;have hb56:=hb5.trans (hbs.mono hb5.size);have HW6:=qq hw6;have HKr:=qq hks;have HRr:=qq (hr'.fresh hbs);have HKs6:=qq (HKs.out.below hb56 HKs.out.lt);have HRs6:=qq (HRs.out.fresh hb56);have Hb6:=qq (Hb4.out.trans (hb56.mono Hb4.out.size));clear hks hbs hw6 hb56 hb5 hr' hR' x0 x1 x2 x3 x4;unfold cellsS;go_upto_region 5 with fail;rw[HW6.out];obtain⟨x0,x1,x2,x3,x4,x5,x6,x7,x8,x9⟩:=box_cells HKs6.out;obtain⟨y0,y1,y2,y3,y4,y5,y6,y7,y8,y9⟩:=box_cells HKr.out;go_wp2_with fail;refine(schSame_any s s _ _ w6 ⟨Z,mz,cz,A1,c1,A2,c2,A3,c3,rfl,HRs6.out⟩ ⟨Y,my,cy,B1',c1',B2',c2',B3',c3',rfl,HRr.out⟩).mono ?_;rw[(sameS_iff s s).2 rfl];rintro e w7 ⟨rfl,hb7⟩;have HKs7:=qq (HKs6.out.below hb7 HKs6.out.lt);have HRs7:=qq (HRs6.out.fresh hb7);have Hb7:=qq (Hb6.out.trans (hb7.mono Hb6.out.size));clear hb7 x0 x1 x2 x3 x4 x5 x6 x7 x8 x9 y0 y1 y2 y3 y4 y5 y6 y7 y8 y9
          by_cases he:er=0
          · subst he
            have hok:=(closeR_ok HR.out).1;have Hok:=qq hok;clear hok;obtain⟨x0,x1,x2,x3,x4,x5,x6,x7,x8,x9⟩:=box_cells HKs7.out;go_wp2_with fail;refine(schMay_ok s Hok.out _ w7 ⟨Z,mz,cz,A1,c1,A2,c2,A3,c3,rfl,HRs7.out⟩).mono ?_;rintro e w8 ⟨rfl,hb8⟩;have Hb8:=qq (Hb7.out.trans (hb8.mono Hb7.out.size));clear hb8 x0 x1 x2 x3 x4 x5 x6 x7 x8 x9;go_wp2_with fail
            refine(works8_any w8 (Ht.out.below Hb8.out)).mono ?_; rintro e w9 ⟨rfl,hb9⟩
            have Hb9:=qq ((Hb8.out).trans (hb9.mono (Hb8.out).size));clear hb9;go_wp2_with fail;go_ret;exact⟨rfl,Hb9.out⟩
          · have de:(er != 0)=true:=by simpa using he
            clear he;go_wp2_with fail
            refine(works8_any w7 (Ht.out.below Hb7.out)).mono ?_; rintro e w9 ⟨rfl,hb9⟩
            have Hb9:=qq ((Hb7.out).trans (hb9.mono (Hb7.out).size));clear hb9;go_wp2_with fail;go_ret;exact⟨rfl,Hb9.out⟩
        · have d4:decide (5<(n2:Int))=true:=by simp; omega
          clear h5;go_wp2_with fail
          refine(works8_any w2 (Ht.out.below Hb2.out)).mono ?_; rintro e w9 ⟨rfl,hb9⟩
          have Hb9:=qq ((Hb2.out).trans (hb9.mono (Hb2.out).size));clear hb9;go_wp2_with fail;go_ret;exact⟨rfl,Hb9.out⟩
theorem walk_schemeCloses {H:Type} {d0 d1 d2:DataW H} {w:World} (ht:Tab w) (hk:Rows.uptoBulkAll [d0,d1,d2]≤1048576) (v0:Value) (h0:TyB w v0 d0) (n:Int) (hn : -9223372036854775808≤n∧n≤9223372036854775807) (v2:Value) (h2:IneqsIn w v2):
    Calls Tryz.prog 3 #[v0,.int .i64 n,v2] w fun e w'=>e=.returned (.bool true)∧Below w.heap.size w w':=by
  obtain⟨t,A,m,cp,rfl,h0,hnt,_⟩:=h0;obtain⟨Al,nl,cl,xs,rfl,hx,_⟩:=h2;simp only[Rows.uptoBulkAll] at hk;exact walkA_schemeCloses t A m cp n Al nl cl xs w ht h0 hx (by omega)
namespace schemeCloses
theorem reads (os:Os) {H:Type} (enc:TypeId × Value→H):∃ places,DataW.whole enc Tryz.prog ((World.doorLaid Tryz.prog 400 os).forCall (fun _ _=>0) ⟨#[],#[.agg #[.int .u8 0,.int .i64 0,.int .i64 0,.int .u8 0,.slice none 0 0],.int .i64 0,.slice none 0 0],[]⟩).memory Tryz.f3.params.toList Rows.schemeClosesSpec.vars false (#[.agg #[.int .u8 0,.int .i64 0,.int .i64 0,.int .u8 0,.slice none 0 0],.int .i64 0,.slice none 0 0]:Array Value).toList 8=some ([.agg [.lit (.int .u8 0),.lit (.int .i64 0),.agg [.lit (.int .i64 0),.lit (.int .u8 0)],.nil],.lit (.int .i64 0),.nil],[],places):=
  ⟨[],by kernel_rfl⟩
theorem lifted (os:Os) (started:os.Started) (H:Type) (enc:TypeId × Value→H) (F:Stop.Interp):
    ReturnsInHanded {} Tryz.checked os 3 .any ((Rows.OpenSpec.upto Rows.schemeClosesSpec).preRow enc Tryz.prog Tryz.f3 Rows.schemeClosesUptoRow.domain false Rows.schemeClosesUptoRow.laid) (((Rows.OpenSpec.upto Rows.schemeClosesSpec).at F).post enc Tryz.prog Tryz.f3 false true false false):=by
  obtain⟨places,hx⟩:=reads os enc
  refine returnsInHanded_of_row (C:=Tryz.checked) (s:=Rows.OpenSpec.upto Rows.schemeClosesSpec) own started (by kernel_rfl) Tryz.func3
    (witness_row_at (enc:=enc) (C:=Tryz.checked) false (World.doorLaid Tryz.prog 400 os) #[.agg #[.int .u8 0,.int .i64 0,.int .i64 0,.int .u8 0,.slice none 0 0],.int .i64 0,.slice none 0 0] rfl (by kernel_rfl) (by kernel_rfl) (by kernel_rfl)
      (OpenSpec.preRow_of_cond 8 hx (by kernel_rfl) (fun k hk=>by cases hk; kernel_rfl) (by kernel_rfl) (door_met os _))) ?_
  intro W base args ds gs before hval0 hW _ hcond _ hL _ _;have hk0:=of_decide_eq_true (hcond _ rfl);have hval:∀ (j:Nat) t v,Tryz.f3.params[j]?=some t→args[j]?=some v→Value.okWide Tryz.prog W .any base t v:=hval0;have hW':=hW;obtain⟨p,q,hA0,hV,rfl,hfz,hnd⟩:=hW;have hA:DataW.TrodAll enc Tryz.prog W 0 (fun _=>true) true Tryz.f3.params.toList args.toList ds p:=hA0;rw[Tryz.params3] at hA hval;obtain⟨v0,vs0,d0,ds0,p0,q0,hargs,rfl,rfl,h0,r_0⟩:=trodAll_cons hA;obtain⟨v1,vs1,d1,ds1,p1,q1,rfl,rfl,rfl,h1,r_1⟩:=trodAll_cons r_0;obtain⟨v2,vs2,d2,ds2,p2,q2,rfl,rfl,rfl,h2,r_2⟩:=trodAll_cons r_1;obtain⟨rfl,rfl,rfl⟩:=trodAll_nil r_2
  obtain rfl:args=#[v0,v1,v2]:=by cases args; simp_all
  obtain⟨rfl,rfl⟩:=trodVars_none hV;have hk:Rows.uptoBulkAll [d0,d1,d2]≤1048576:=hk0;have w0:=rd_ty (hval 0 27 v0 rfl rfl) h0;obtain⟨a1,rfl,_,_,w1⟩:=open_int Tryz.underlying3 (hval 1 3 v1 rfl rfl) h1;have b1:=bounds_i64 w1;have w2:=rd_ineqs (hval 2 28 v2 rfl rfl) h2;refine(walk_schemeCloses (w:=W) (tab_of_laid hL) hk v0 w0 a1 b1 v2 w2).mono fun e W' ⟨he,bel⟩=>?_;subst he;exact⟨_,rfl,law_post laidOut (by kernel_rfl) rfl rfl Tryz.underlying4 hW' rfl rfl rfl bel⟩
theorem over:Rows.SchemeClosesUptoSaid:=
  OpenClaim.holds_of_cond 3 Tryz.f3 rfl rfl rfl rfl rfl rfl rfl ⟨rfl,rfl,rfl,rfl,rfl⟩ rfl rfl rfl rfl rfl (by kernel_rfl) Tryz.func3 (by kernel_rfl)
    (of_decide_eq_true (by kernel_rfl)) (by unfold Func.isWrapper; first | (rw[if_pos (by decide +kernel)]; kernel_rfl) | (rw[if_neg (by decide +kernel)]; exact⟨rfl,rfl⟩))
    (fun os started H enc _ F=>by rw[OpenClaim.pre_eq_preRow]; exact lifted os started H enc F)
theorem card:Rows.SchemeClosesUptoCardSaid:=
  Claim7.holds_tied_plain_at .later [] _ _ _ _ over (fun _ h=>by cases h) (by kernel_rfl) (fun _ h=>by cases h) schemeClosesUpto_row_tie rfl ⟨rfl,rfl⟩ (by kernel_rfl) rfl
    (fun f fn hf hfn=>by
      obtain rfl:f=3:=Option.some.inj ((show Tryz.prog.funcNamed "usufruct/usufructlaw08.SchemeCloses"=some 3 by kernel_rfl).symm.trans hf) |>.symm
      obtain rfl:fn=Tryz.f3:=(Option.some.inj (Tryz.func3.symm.trans hfn)).symm
      exact⟨by kernel_rfl,fun j t ht=>by
        rw[Tryz.params3] at ht
        have hm:t∈[27,3,28]:=by simpa using Array.mem_of_getElem? ht
        have hall:([27,3,28].all fun u=>!Tryz.prog.wantsStandIn u)=true:=by kernel_rfl
        exact(show Tryz.prog.wantsStandIn t=false by simpa using List.all_eq_true.1 hall t hm)⟩)
    (by kernel_rfl)
theorem proved:Rows.SchemeClosesUptoCardSaid:=card
#print axioms proved
end schemeCloses
end Go.Proofs.YtdmakpmbknindaaGreatDoor
