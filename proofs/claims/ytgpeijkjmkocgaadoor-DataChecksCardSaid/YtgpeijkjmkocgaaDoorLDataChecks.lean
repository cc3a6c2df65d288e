/- DataChecks holds: what data.Check tells of any declarations is the document's answer. Conditions: the variables that the row lists are laid as the program's text lays them; each slice that comes in is one that a machine reaches. -/
import Derived.Test.YtgpeijkjmkocgaaDoorM37
import Derived.Test.YtgpeijkjmkocgaaDoorM38
set_option linter.unusedVariables false
set_option linter.unusedSimpArgs false
set_option maxHeartbeats 8000000
set_option maxRecDepth 100000
namespace Go.Proofs.YtgpeijkjmkocgaaDoor
open Go.ChangeShapes Go.WideShapes Go.ChangeAt Go.RowKit
theorem checked_mf {l:List DeclD} {z:SigD} (h:checkE givenS l=.ok z):∀ x∈z.cons,x.mults.length=x.fields.length:=fun x hx=>by
  obtain⟨_,_,_,_,h1,_⟩:=(checked h).good.con x hx;exact h1
theorem sigR_nil (w:World):SigR w (Lt w.heap.size) ⟨[],[]⟩ none 0 0 none 0 0:=⟨Sl.nil,Sl.nil⟩
theorem two_checks {l:List DeclD} {wx wy:World} {A1:Option Addr} {n1 c1:Nat} {A2:Option Addr} {n2 c2:Nat} {B1:Option Addr} {m1 d1:Nat} {B2:Option Addr} {m2 d2:Nat} {dg dg':DiagD} (h1:((∃ g,checkE givenS l=.error g∧dg=g∧A1=none∧n1=0∧c1=0∧A2=none∧n2=0∧c2=0)∨(∃ z,checkE givenS l=.ok z∧dg=diagZ∧SigR wx (Lt wx.heap.size) z A1 n1 c1 A2 n2 c2))) (h2:((∃ g,checkE givenS l=.error g∧dg'=g∧B1=none∧m1=0∧d1=0∧B2=none∧m2=0∧d2=0)∨(∃ z,checkE givenS l=.ok z∧dg'=diagZ∧SigR wy (Lt wy.heap.size) z B1 m1 d1 B2 m2 d2))):
    dg=dg'∧∃ s:SigD,SigR wx (Lt wx.heap.size) s A1 n1 c1 A2 n2 c2∧SigR wy (Lt wy.heap.size) s B1 m1 d1 B2 m2 d2∧∀ x∈s.cons,x.mults.length=x.fields.length:=by
  rcases h1 with ⟨g,hg,rfl,rfl,rfl,rfl,rfl,rfl,rfl⟩ | ⟨z,hz,rfl,hs⟩
  · rcases h2 with ⟨g',hg',rfl,rfl,rfl,rfl,rfl,rfl,rfl⟩ | ⟨z',hz',_,_⟩
    · rw[hg] at hg'
      injection hg' with hg'
      exact⟨hg',⟨[],[]⟩,sigR_nil _,sigR_nil _,fun x hx=>absurd hx (by simp)⟩
    · rw[hg] at hz'; cases hz'
  · rcases h2 with ⟨g',hg',_⟩ | ⟨z',hz',rfl,hs'⟩
    · rw[hz] at hg'; cases hg'
    · rw[hz] at hz'
      injection hz' with hz'
      subst hz';exact⟨rfl,z,hs,hs',checked_mf hz⟩
theorem walk_dataChecks {w:World} (ht:Tab w) (v0:Value) (w0:DclsP w v0):Calls Tryd.prog 4 #[v0] w fun e w'=>e=.returned (.bool true)∧Below w.heap.size w w':=by
  obtain⟨A,n,c,l,rfl,hl,hbig,hone⟩:=w0;have Ht:=qq ht;have HL:=qq hl;have Hone:=qq hone;have Hq:=qq (great13_any A n c l w hl hone);clear ht hone hl
  go_enter Tryd.func4,Tryd.ntmps4
  go_wp2_with fail;refine Hq.out.mono ?_;rintro e w1 ⟨⟨r,rfl⟩,hb1⟩;have Hb1:=qq hb1;clear hb1 Hq
  cases r with
  | true=>
    go_wp2_with fail;refine(works_any w1 (Ht.out.below Hb1.out)).mono ?_;rintro e w2 ⟨rfl,hb2⟩;have Hb2:=qq (Hb1.out.trans (hb2.mono Hb1.out.size));clear hb2;go_wp2_with fail;go_ret;exact⟨rfl,Hb2.out⟩
  | false=>
    go_wp2_with fail;refine(check_any A n c l w1 (HL.out.fresh Hb1.out) Hone.out hbig).mono ?_;rintro e w2 ⟨A1,n1,c1,A2,n2,c2,dg,rfl,hb2,hor1⟩;have Hor1:=qq hor1;clear hor1;have Hb2:=qq (Hb1.out.trans (hb2.mono Hb1.out.size));clear hb2;go_upto_region 4 with fail;have g3:=below_box (w:=w2) (Obj.cells #[.slice A1 n1 c1,.slice A2 n2 c2] 25);have k3:=blk_new w2 #[.slice A1 n1 c1,.slice A2 n2 c2] 25;obtain⟨w3,hw3⟩:∃ q,w2.alloc (Obj.cells #[.slice A1 n1 c1,.slice A2 n2 c2] 25)=q:=⟨_,rfl⟩
    have s3:w3.heap.size=w2.heap.size+1:=by rw[← hw3]; simp
    rw[hw3] at g3 k3 ⊢;have g4:=below_box (w:=w3) (Obj.cells #[.int .i64 dg.e,.int .i64 dg.p.at_,.int .i64 dg.p.line,.int .i64 dg.p.col] 30);have k4:=blk_new w3 #[.int .i64 dg.e,.int .i64 dg.p.at_,.int .i64 dg.p.line,.int .i64 dg.p.col] 30;obtain⟨w4,hw4⟩:∃ q,w3.alloc (Obj.cells #[.int .i64 dg.e,.int .i64 dg.p.at_,.int .i64 dg.p.line,.int .i64 dg.p.col] 30)=q:=⟨_,rfl⟩;rw[hw4,s3] at k4;rw[hw4] at g4 ⊢;have Hb24:=qq (g3.trans (g4.mono g3.size));have Hk3:=qq (k3.below g4 k3.lt);have Hk4:=qq k4;have Hb4:=qq (Hb2.out.trans (Hb24.out.mono Hb2.out.size));obtain⟨bs,hbs⟩:∃ q,w2.heap.size=q:=⟨_,rfl⟩;rw[hbs] at Hk3 Hk4 ⊢;clear g3 g4 k3 k4 hw3 hw4 s3 hbs;go_wp2_with fail;refine(refCheck_any A n c l w4 (HL.out.fresh Hb4.out) Hone.out hbig).mono ?_;rintro e w5 ⟨B1,m1,d1,B2,m2,d2,dg',rfl,hb5,hor2⟩;obtain⟨rfl,s,hs1,hs2,hmf⟩:=two_checks Hor1.out hor2;have Hs1:=qq (hs1.fresh (Hb24.out.trans (hb5.mono Hb24.out.size)));have Hs2:=qq hs2;have Hmf:=qq hmf;have hk3:=Hk3.out.below hb5 Hk3.out.lt;have hk4:=Hk4.out.below hb5 Hk4.out.lt;have Hb5:=qq (Hb4.out.trans (hb5.mono Hb4.out.size));clear hor2 hs1 hs2 hmf hb5 Hor1 Hk3 Hk4;go_upto_region 5 with fail;have g3:=below_box (w:=w5) (Obj.cells #[.slice B1 m1 d1,.slice B2 m2 d2] 25);have k3:=blk_new w5 #[.slice B1 m1 d1,.slice B2 m2 d2] 25;obtain⟨w6,hw6⟩:∃ q,w5.alloc (Obj.cells #[.slice B1 m1 d1,.slice B2 m2 d2] 25)=q:=⟨_,rfl⟩
    have s6:w6.heap.size=w5.heap.size+1:=by rw[← hw6]; simp
    rw[hw6] at g3 k3 ⊢;have g4:=below_box (w:=w6) (Obj.cells #[.int .i64 dg.e,.int .i64 dg.p.at_,.int .i64 dg.p.line,.int .i64 dg.p.col] 30);have k4:=blk_new w6 #[.int .i64 dg.e,.int .i64 dg.p.at_,.int .i64 dg.p.line,.int .i64 dg.p.col] 30;obtain⟨w7,hw7⟩:∃ q,w6.alloc (Obj.cells #[.int .i64 dg.e,.int .i64 dg.p.at_,.int .i64 dg.p.line,.int .i64 dg.p.col] 30)=q:=⟨_,rfl⟩;rw[hw7,s6] at k4;rw[hw7] at g4 ⊢;have hb57:=g3.trans (g4.mono g3.size);have k3':=k3.below g4 k3.lt;have hk3':=hk3.below hb57 hk3.lt;have hk4':=hk4.below hb57 hk4.lt;have Hb7:=qq (Hb5.out.trans (hb57.mono Hb5.out.size));have Hq:=qq (refSame13_any s A1 n1 c1 A2 n2 c2 B1 m1 d1 B2 m2 d2 w7 (Hs1.out.fresh hb57) (Hs2.out.fresh hb57) Hmf.out);obtain⟨bt,hbt⟩:∃ q,w5.heap.size=q:=⟨_,rfl⟩;rw[hbt] at k3' k4 ⊢;have a0:w7.cell? ⟨bs,0,none⟩=some (.slice A1 n1 c1):=hk3'.cell 0;have a1:w7.cell? ⟨bs,1,none⟩=some (.slice A2 n2 c2):=hk3'.cell 1;have a2:w7.cell? ⟨bs+1,0,none⟩=some (.int .i64 dg.e):=hk4'.cell 0;have a3:w7.cell? ⟨bs+1,1,none⟩=some (.int .i64 dg.p.at_):=hk4'.cell 1;have a4:w7.cell? ⟨bs+1,2,none⟩=some (.int .i64 dg.p.line):=hk4'.cell 2;have a5:w7.cell? ⟨bs+1,3,none⟩=some (.int .i64 dg.p.col):=hk4'.cell 3;have b0:w7.cell? ⟨bt,0,none⟩=some (.slice B1 m1 d1):=k3'.cell 0;have b1:w7.cell? ⟨bt,1,none⟩=some (.slice B2 m2 d2):=k3'.cell 1;have b2:w7.cell? ⟨bt+1,0,none⟩=some (.int .i64 dg.e):=k4.cell 0;have b3:w7.cell? ⟨bt+1,1,none⟩=some (.int .i64 dg.p.at_):=k4.cell 1;have b4:w7.cell? ⟨bt+1,2,none⟩=some (.int .i64 dg.p.line):=k4.cell 2;have b5:w7.cell? ⟨bt+1,3,none⟩=some (.int .i64 dg.p.col):=k4.cell 3;clear g3 g4 k3 k4 hw6 hw7 s6 hbt hb57 k3' hk3 hk4 hk3' hk4' Hs1 Hs2 Hmf;go_wp2_with fail;refine Hq.out.mono ?_;rintro e w8 ⟨rfl,hb8⟩;have Hb8:=qq (Hb7.out.trans (hb8.mono Hb7.out.size));clear a0 a1 a2 a3 a4 a5 b0 b1 b2 b3 b4 b5 hb8 Hq;go_wp2_with fail;refine(works_any w8 (Ht.out.below Hb8.out)).mono ?_;rintro e w9 ⟨rfl,hb9⟩;have Hb9:=qq (Hb8.out.trans (hb9.mono Hb8.out.size));clear hb9;go_wp2_with fail;go_ret;exact⟨rfl,Hb9.out⟩
namespace dataChecks
theorem lifted (os:Os) (started:os.Started) (H:Type) (enc:TypeId × Value→H):
    ReturnsInHanded {} Tryd.checked os 4 .any (fun w args=>(Rows.dataChecksSpec.pre enc Tryd.prog Tryd.f4 [] false w args∧laidMetH Tryd.prog laid3 w)∧sizedMet enc Tryd.prog Tryd.f4 (OpenSpec.ofChange Rows.dataChecksSpec) false w args) (Rows.dataChecksSpec.post enc Tryd.prog Tryd.f4 false true false false):=by
  refine returnsInHanded_of_change_and (C:=Tryd.checked) (X:=fun w _=>laidMetH Tryd.prog laid3 w) (fun _ _ _ hh h=>h.of_heap hh) own started (by kernel_rfl) Tryd.func4
    (ChangeSpec.witness_shaped (enc:=enc) (C:=Tryd.checked) (os:=os) (X:=fun w _=>laidMetH Tryd.prog laid3 w) false (World.doorLaid Tryd.prog 400 os) #[.slice none 0 0] 8 rfl (World.shaped_of_RefB (by kernel_rfl) (by kernel_rfl)) (by kernel_rfl) (by kernel_rfl) (by kernel_rfl) (door_met os _)) ?_
  intro W base args ds gs before hval0 hW hcnd hsz0 hL _
  have hsz:(DataW.weightsEach Tryd.prog (Tryd.f4.params.toList++Rows.dataChecksSpec.plain.varTypes Tryd.prog) (ds++gs)).all (· ≤ reachBytes)=true:=hsz0
  have hval:∀ (j:Nat) t v,Tryd.f4.params[j]?=some t→args[j]?=some v→Value.okWide Tryd.prog W .any base t v:=hval0;have hW':=hW;obtain⟨p,q,hA0,hV,rfl,hfz,hnd⟩:=hW;have hA:DataW.TrodAll enc Tryd.prog W 0 (fun _=>true) true Tryd.f4.params.toList args.toList ds p:=hA0;rw[Tryd.params4] at hA hval hsz;obtain⟨v0,vs0,d0,ds0,p0,q0,hargs,rfl,rfl,h0,r_0⟩:=trodAll_cons hA;obtain⟨rfl,rfl,rfl⟩:=trodAll_nil r_0
  obtain rfl:args=#[v0]:=by cases args; simp_all
  obtain⟨rfl,rfl⟩:=trodVars_none hV;have w0:=rd_dclw (hval 0 42 v0 rfl rfl) h0 (light_of hsz (j:=0) rfl rfl);refine(walk_dataChecks (w:=W) (tab_of_laid hL) v0 w0).mono fun e W' ⟨he,bel⟩=>?_;subst he;exact⟨_,rfl,law_post laidOut (by kernel_rfl) rfl rfl Tryd.underlying4 hW' rfl rfl rfl bel⟩
theorem over:Rows.dataChecksRow.holds Tryd.pinned (OpenSpec.ofChange Rows.dataChecksSpec):=
  OpenClaim.holds_of_wide 4 Tryd.f4 rfl rfl rfl rfl rfl rfl rfl ⟨rfl,rfl,rfl,rfl,rfl⟩ rfl rfl rfl rfl rfl (by kernel_rfl) Tryd.func4 (by kernel_rfl)
    (of_decide_eq_true (by kernel_rfl)) (by unfold Func.isWrapper; first | (rw[if_pos (by decide +kernel)]; kernel_rfl) | (rw[if_neg (by decide +kernel)]; exact⟨rfl,rfl⟩))
    (fun os started H enc _=>lifted os started H enc)
theorem card:Rows.DataChecksCardSaid:=
  Claim7.holds_tied_plain_at .later [] [.data,.data,.data] true Rows.dataChecksCard.stood.harness false
    over (fun _ h=>by cases h) (by kernel_rfl) (fun _ h=>by cases h) dataChecks_row_tie rfl ⟨rfl,rfl⟩ (by kernel_rfl) rfl
    (fun f fn hf hfn=>by
      obtain rfl:f=4:=Option.some.inj ((show Tryd.prog.funcNamed "usufruct/usufructlaw13.DataChecks"=some 4 by kernel_rfl).symm.trans hf) |>.symm
      obtain rfl:fn=Tryd.f4:=(Option.some.inj (Tryd.func4.symm.trans hfn)).symm
      exact⟨by kernel_rfl,fun j t ht=>by
        rw[Tryd.params4] at ht
        have hm:t∈[42]:=by simpa using Array.mem_of_getElem? ht
        have hall:([42].all fun u=>!Tryd.prog.wantsStandIn u)=true:=by kernel_rfl
        exact(show Tryd.prog.wantsStandIn t=false by simpa using List.all_eq_true.1 hall t hm)⟩)
    (by kernel_rfl)
theorem proved:Rows.DataChecksCardSaid:=card
#print axioms proved
end dataChecks
end Go.Proofs.YtgpeijkjmkocgaaDoor
