import Derived.Test.YtdmakpmbknindaaGreatDoorM29
import Derived.Test.YtdmakpmbknindaaGreatDoorM31
set_option linter.unusedVariables false
set_option linter.unusedSimpArgs false
set_option maxHeartbeats 4000000
set_option maxRecDepth 100000
namespace Go.Proofs.YtdmakpmbknindaaGreatDoor
open Go.RowKit
def wholeD:TyD:=.mk 2 0 0 0 []
def textD:TyD:=.mk 3 0 0 0 []
def workIn:TyD:=.mk 7 0 0 2 [textD,wholeD]
def workT:TyD:=.mk 7 0 0 1 [wholeD,workIn]
theorem work_turn:turnT (putV [wholeD,textD]) (putM [(0,1),(0,2)]) keepT=workT:=by
 have h:sameT (turnT (putV [wholeD,textD]) (putM [(0,1),(0,2)]) keepT) workT=true:=by decide +kernel
 exact(sameT_iff _ _).1 h
theorem keep_vars:allV keepT=[0,1,0]:=by decide +kernel
theorem keep_ms:allM keepT=[0,1]:=by decide +kernel
theorem work_may:mayTE workT=0:=by decide +kernel
theorem work_in:(putsE keepS workT).1=true∧typesE 2 (putsE keepS workT).2=[wholeD,textD]∧multsE 2 (putsE keepS workT).2=[1,2]:=by
 have hm:=mayTE_may keep_may;have hw:=mayTE_may work_may;have hp:=match_puts hm hw work_turn;have hi:=(match_iff hm hw).2 ⟨_,_,work_turn⟩;refine⟨hi,?_,?_⟩
 · unfold typesE putsE
   rw[show keepS.t=keepT from rfl]
   have h0:=hp.1 0 (by rw[keep_vars]; decide)
   have h1:=hp.1 1 (by rw[keep_vars]; decide)
   simp only[List.range_succ,List.range_zero,List.nil_append,List.singleton_append,List.map_cons,List.map_nil]
   rw[show((0:Nat):Int)=0 from rfl,show((1:Nat):Int)=1 from rfl,h0,h1]
   rfl
 · unfold multsE putsE
   rw[show keepS.t=keepT from rfl]
   have h0:=hp.2 0 (by rw[keep_ms]; decide)
   have h1:=hp.2 1 (by rw[keep_ms]; decide)
   simp only[List.range_succ,List.range_zero,List.nil_append,List.singleton_append,List.map_cons,List.map_nil]
   rw[show((0:Nat):Int)=0 from rfl,show((1:Nat):Int)=1 from rfl,h0,h1]
   rfl
theorem work_lets:LetsA 2 keepS.tab [1,2]:=⟨rfl,by decide,fun i hi=>by
 rcases lt2 hi with rfl | rfl
 · exact⟨by decide,by decide,fun j hj=>by rcases lt2 hj with rfl | rfl <;> decide⟩
 · exact⟨by decide,by decide,fun j hj=>by rcases lt2 hj with rfl | rfl <;> decide⟩⟩
theorem work_inst {ts:List TyD} {ms:List Int} {ok:Bool} (h:InstR keepS workT ts ms ok):ok=true∧ts=[wholeD,textD]∧ms=[1,2]:=by
 have e1:(multsT keepS.t).length=2:=by rw[show keepS.t=keepT from rfl,keep_m]; rfl
 have e2:(varsT keepS.t).length=2:=by rw[show keepS.t=keepT from rfl,keep_v]; rfl
 have hi:InstE keepS workT:=⟨work_may,work_in.1,by rw[e1,work_in.2.2]; exact work_lets⟩
 have h0:=h.iff.2 hi;obtain⟨h1,h2⟩:=h.yes h0;rw[e2,work_in.2.1] at h1;rw[e1,work_in.2.2] at h2;exact⟨h0,h1,h2⟩
theorem keep_own:ownE keepS.tab 2=xsK:=by decide +kernel
def keepTx:ByteArray:=⟨#[97,48,32,45,109,48,62,32,97,49,32,45,109,49,62,32,97,48,32,105,102,32,63,32,60,61,32,109,49]⟩
theorem keep_text:textS keepS.t (ownE keepS.tab 2)=keepTx.data.toList:=by decide +kernel
theorem works8_any (w:World) (ht:Tab w):Calls Tryz.prog 11 #[] w fun e w'=>e=.returned (.bool true)∧Below w.heap.size w w':=by
 have Ht:=qq ht;clear ht
 go_enter Tryz.func11,Tryz.ntmps11
 go_wp2_with fail
 refine(keep8_any w).mono ?_; rintro e w1 ⟨v,rfl,hv,hb1⟩
 obtain⟨A,m,cp,A1,c1,A2,c2,A3,c3,rfl,hr⟩:=hv;have hk:=blk_new w1 (cellsS keepS A m cp A1 c1 A2 c2 A3 c3) 40;have hb:=below_box (w:=w1) (Obj.cells (cellsS keepS A m cp A1 c1 A2 c2 A3 c3) 40);obtain⟨g,hg⟩:∃ g,w1.heap.size=g:=⟨_,rfl⟩;obtain⟨W,hW⟩:∃ x,w1.alloc (Obj.cells (cellsS keepS A m cp A1 c1 A2 c2 A3 c3) 40)=x:=⟨_,rfl⟩;rw[hW,hg] at hk;rw[hW] at hb;unfold cellsS at hW;have HW:=qq hW;have HK:=qq hk;have HR:=qq (hr.fresh hb);have Hb:=qq (hb1.trans (hb.mono hb1.size));have hKS:∀ W',Below W.heap.size W W'→W'.cell? ⟨g,0,none⟩=some (.int .i64 keepS.types)∧W'.cell? ⟨g,1,none⟩=some (.int .i64 keepS.mults)∧W'.cell? ⟨g,2,none⟩=some (.int .u8 keepS.t.k)∧W'.cell? ⟨g,3,none⟩=some (.int .i64 keepS.t.n)∧W'.cell? ⟨g,4,none⟩=some (.int .i64 keepS.t.v)∧W'.cell? ⟨g,5,none⟩=some (.int .u8 keepS.t.c)∧W'.cell? ⟨g,6,none⟩=some (.slice A m cp)∧W'.cell? ⟨g,7,none⟩=some (.slice A1 keepS.tab.low.length c1)∧W'.cell? ⟨g,8,none⟩=some (.slice A2 keepS.tab.up.length c2)∧W'.cell? ⟨g,9,none⟩=some (.slice A3 keepS.tab.pair.length c3):=fun W' hW'=>box_cells (hk.below hW' hk.lt);have HKS:=qq hKS;clear hk hb hW hr hb1 hKS;unfold cellsS;go_upto_region 2 with fail;rw[HW.out];refine wp_region_noPanic ?_;refine wp_region_T (fun W'=>W'.cell? ⟨g,0,none⟩=some (.int .i64 keepS.types)∧W'.cell? ⟨g,1,none⟩=some (.int .i64 keepS.mults)∧W'.cell? ⟨g,2,none⟩=some (.int .u8 keepS.t.k)∧W'.cell? ⟨g,3,none⟩=some (.int .i64 keepS.t.n)∧W'.cell? ⟨g,4,none⟩=some (.int .i64 keepS.t.v)∧W'.cell? ⟨g,5,none⟩=some (.int .u8 keepS.t.c)∧W'.cell? ⟨g,6,none⟩=some (.slice A m cp)∧W'.cell? ⟨g,7,none⟩=some (.slice A1 keepS.tab.low.length c1)∧W'.cell? ⟨g,8,none⟩=some (.slice A2 keepS.tab.up.length c2)∧W'.cell? ⟨g,9,none⟩=some (.slice A3 keepS.tab.pair.length c3)) 15 (by kernel_rfl) (HKS.out _ (Below.drew (Below.refl _ _))) (fun hHeld=>?_);have hbd:Below W.heap.size W W.drew:=Below.drew (Below.refl _ _);generalize W.drew=W0 at hHeld hbd ⊢
 refine wpAnyT_take (i:=0) (v:=?_) rfl (by kernel_rfl) (by kernel_rfl) (by kernel_rfl) (by kernel_rfl) (fun _ _ _ h=>h) (Or.inl ⟨by rfl,?_⟩) (by assumption) ?_
 rotate_left
 · (intro w hSw; (try dsimp only at hSw); first | (go_simp; done) | (go_simp; with_reducible rfl))
 try simp only[Act.put,qg,qe,qf,qd,qh,qi]
 refine wpAnyT_take (i:=2) (v:=?_) rfl (by kernel_rfl) (by kernel_rfl) (by kernel_rfl) (by kernel_rfl) (fun _ _ _ h=>h) (Or.inl ⟨by rfl,?_⟩) (by assumption) ?_
 rotate_left
 · (intro w hSw; (try dsimp only at hSw); first | (go_simp; done) | (go_simp; with_reducible rfl))
 try simp only[Act.put,qg,qe,qf,qd,qh,qi]
 refine wpAnyT_take (i:=4) (v:=?_) rfl (by kernel_rfl) (by kernel_rfl) (by kernel_rfl) (by kernel_rfl) (fun _ _ _ h=>h) (Or.inl ⟨by rfl,?_⟩) (by assumption) ?_
 rotate_left
 · (intro w hSw; (try dsimp only at hSw); first | (go_simp; done) | (go_simp; with_reducible rfl))
 try simp only[Act.put,qg,qe,qf,qd,qh,qi]
 clear hHeld;refine wpAnyT_step (i:=1) (by kernel_rfl) rfl (fun K hK=>?_)
 (go_simp; refine(whole8_any W0).mono ?_; rintro e W1 ⟨B1,m1,p1,rfl,ht1,hb1⟩; have hbW1:=hbd.trans (hb1.mono hbd.size); clear hb1)
 refine hK.out _ _ (HKS.out _ hbW1) ?_;clear hK K
 try simp only[Act.put,qg,qe,qf,qd,qh,qi]
 refine wpAnyT_step (i:=3) (by kernel_rfl) rfl (fun K hK=>?_)
 (go_simp; refine(text8_any W1).mono ?_; rintro e W2 ⟨B2,m2,p2,rfl,ht2,hb2⟩; have hbW2:=hbW1.trans (hb2.mono hbW1.size); clear hb2)
 refine hK.out _ _ (HKS.out _ hbW2) ?_;clear hK K
 try simp only[Act.put,qg,qe,qf,qd,qh,qi]
 refine wpAnyT_step (i:=5) (by kernel_rfl) rfl (fun K hK=>?_)
 (go_simp; refine(whole8_any W2).mono ?_; rintro e W3 ⟨B3,m3,p3,rfl,ht3,hb3⟩; have hbW3:=hbW2.trans (hb3.mono hbW2.size); clear hb3)
 refine hK.out _ _ (HKS.out _ hbW3) ?_;clear hK K
 try simp only[Act.put,qg,qe,qf,qd,qh,qi]
 refine wpAnyT_step (i:=6) (by kernel_rfl) rfl (fun K hK=>?_)
 (go_simp; refine(fun8_any textD wholeD (by decide +kernel) (by decide +kernel) 0 2 B2 m2 p2 B3 m3 p3 W3 (ht2.empty) (ht3.empty)).mono ?_; rintro e W4 ⟨B4,m4,p4,rfl,ht4,hb4⟩; have hbW4:=hbW3.trans (hb4.mono hbW3.size); clear hb4)
 refine hK.out _ _ (HKS.out _ hbW4) ?_;clear hK K
 try simp only[Act.put,qg,qe,qf,qd,qh,qi]
 refine wpAnyT_step (i:=7) (by kernel_rfl) rfl (fun K hK=>?_)
 (go_simp; refine(fun8_any wholeD workIn (by decide +kernel) (by decide +kernel) 0 1 B1 m1 p1 B4 m4 p4 W4 (ht1.empty) ht4).mono ?_; rintro e W5 ⟨B5,m5,p5,rfl,ht5,hb5⟩; have hbW5:=hbW4.trans (hb5.mono hbW4.size); clear hb5)
 refine hK.out _ _ (HKS.out _ hbW5) ?_;clear hK K
 try simp only[Act.put,qg,qe,qf,qd,qh,qi]
 refine wpAnyT_step (i:=8) (by kernel_rfl) rfl (fun K hK=>?_)
 (go_simp; refine(inst_any keepS keep_ok workT _ B5 m5 p5 W5 ⟨A,m,cp,A1,c1,A2,c2,A3,c3,rfl,HR.out.fresh hbW5⟩ ht5).mono ?_; rintro e W6 ⟨D,nd,cd,ts,D2,nd2,cd2,ms,ok,rfl,hts,hms,hi,hb6⟩; obtain⟨rfl,rfl,rfl⟩:=work_inst hi; have hbW6:=hbW5.trans (hb6.mono hbW5.size); clear hb6 hi)
 refine hK.out _ _ (HKS.out _ hbW6) ?_;clear hK K
 try simp only[Act.put,qg,qe,qf,qd,qh,qi]
 have hHeld:=HKS.out _ hbW6
 refine wpAnyT_take (i:=9) (v:=?_) rfl (by kernel_rfl) (by kernel_rfl) (by kernel_rfl) (by kernel_rfl) (fun _ _ _ h=>h) (Or.inl ⟨by rfl,?_⟩) (by assumption) ?_
 rotate_left
 · (intro w hSw; (try dsimp only at hSw); first | (go_simp; done) | (go_simp; with_reducible rfl))
 try simp only[Act.put,qg,qe,qf,qd,qh,qi]
 refine wpAnyT_take (i:=10) (v:=?_) rfl (by kernel_rfl) (by kernel_rfl) (by kernel_rfl) (by kernel_rfl) (fun _ _ _ h=>h) (Or.inl ⟨by rfl,?_⟩) (by assumption) ?_
 rotate_left
 · (intro w hSw; (try dsimp only at hSw); first | (go_simp; done) | (go_simp; with_reducible rfl))
 try simp only[Act.put,qg,qe,qf,qd,qh,qi]
 refine wpAnyT_take (i:=11) (v:=?_) rfl (by kernel_rfl) (by kernel_rfl) (by kernel_rfl) (by kernel_rfl) (fun _ _ _ h=>h) (Or.inl ⟨by rfl,?_⟩) (by assumption) ?_
 rotate_left
 · (intro w hSw; (try dsimp only at hSw); first | (go_simp; done) | (go_simp; with_reducible rfl))
 try simp only[Act.put,qg,qe,qf,qd,qh,qi]
 refine wpAnyT_take (i:=12) (v:=?_) rfl (by kernel_rfl) (by kernel_rfl) (by kernel_rfl) (by kernel_rfl) (fun _ _ _ h=>h) (Or.inl ⟨by rfl,?_⟩) (by assumption) ?_
 rotate_left
 · (intro w hSw; (try dsimp only at hSw); first | (go_simp; done) | (go_simp; with_reducible rfl))
 try simp only[Act.put,qg,qe,qf,qd,qh,qi]
 refine wpAnyT_take (i:=13) (v:=?_) rfl (by kernel_rfl) (by kernel_rfl) (by kernel_rfl) (by kernel_rfl) (fun _ _ _ h=>h) (Or.inl ⟨by rfl,?_⟩) (by assumption) ?_
 rotate_left
 · (intro w hSw; (try dsimp only at hSw); first | (go_simp; done) | (go_simp; with_reducible rfl))
 try simp only[Act.put,qg,qe,qf,qd,qh,qi]
 refine wpAnyT_take (i:=14) (v:=?_) rfl (by kernel_rfl) (by kernel_rfl) (by kernel_rfl) (by kernel_rfl) (fun _ _ _ h=>h) (Or.inl ⟨by rfl,?_⟩) (by assumption) ?_
 rotate_left
 · (intro w hSw; (try dsimp only at hSw); first | (go_simp; done) | (go_simp; with_reducible rfl))
 try simp only[Act.put,qg,qe,qf,qd,qh,qi]
 clear hHeld;have Hb6:=qq hbW6;have Hts:=qq hts;have Hms:=qq hms;clear ht1 ht2 ht3 ht4 ht5 hbd hbW1 hbW2 hbW3 hbW4 hbW5 hbW6 hts hms;refine wpAnyT_seq 15 (by omega) (by rfl) (by kernel_rfl) ?_;simp only[List.drop_succ_cons,List.drop_zero];go_wp2_with fail;refine NoPanic.normal ?_;obtain rfl:2=nd:=Hts.out.len;obtain⟨b,off,rfl,hlb,hc⟩:=Hts.out.at_ (by omega);have hat:=hc 1 (by decide);rw[tyAt_iff] at hat;obtain⟨a0,a1,a2,a3,At,mt,ct,a4,hT⟩:=hat;have hT0:TysV W6 W6.heap.size At mt ct []:=hT;have HT0:=qq hT0;have hKT:∀ W',Below W6.heap.size W6 W'→(W'.cell? ⟨g,0,none⟩=some (.int .i64 keepS.types)∧W'.cell? ⟨g,1,none⟩=some (.int .i64 keepS.mults)∧W'.cell? ⟨g,2,none⟩=some (.int .u8 keepS.t.k)∧W'.cell? ⟨g,3,none⟩=some (.int .i64 keepS.t.n)∧W'.cell? ⟨g,4,none⟩=some (.int .i64 keepS.t.v)∧W'.cell? ⟨g,5,none⟩=some (.int .u8 keepS.t.c)∧W'.cell? ⟨g,6,none⟩=some (.slice A m cp)∧W'.cell? ⟨g,7,none⟩=some (.slice A1 keepS.tab.low.length c1)∧W'.cell? ⟨g,8,none⟩=some (.slice A2 keepS.tab.up.length c2)∧W'.cell? ⟨g,9,none⟩=some (.slice A3 keepS.tab.pair.length c3))∧W'.cell? ⟨b,off+1 * 5,none⟩=some (.int .u8 textD.k)∧W'.cell? ⟨b,off+1 * 5+1,none⟩=some (.int .i64 textD.n)∧W'.cell? ⟨b,off+1 * 5+2,none⟩=some (.int .i64 textD.v)∧W'.cell? ⟨b,off+1 * 5+3,none⟩=some (.int .u8 textD.c)∧W'.cell? ⟨b,off+1 * 5+4,none⟩=some (.slice At mt ct):=fun W' hW'=>⟨HKS.out _ (Hb6.out.trans (hW'.mono Hb6.out.size)),(hW'.cell (p:=⟨b,off+1 * 5,none⟩) hlb).trans a0,(hW'.cell (p:=⟨b,off+1 * 5+1,none⟩) hlb).trans a1,(hW'.cell (p:=⟨b,off+1 * 5+2,none⟩) hlb).trans a2,(hW'.cell (p:=⟨b,off+1 * 5+3,none⟩) hlb).trans a3,(hW'.cell (p:=⟨b,off+1 * 5+4,none⟩) hlb).trans a4⟩;have HKT:=qq hKT;clear hc a0 a1 a2 a3 a4 hT hKT hT0;have Hhb:Hid (Below w.heap.size w W6):=qq (Hb.out.trans (Hb6.out.mono Hb.out.size));go_upto_region 3 with fail;refine wp_region_noPanic ?_;refine wp_region_T (fun W'=>(W'.cell? ⟨g,0,none⟩=some (.int .i64 keepS.types)∧W'.cell? ⟨g,1,none⟩=some (.int .i64 keepS.mults)∧W'.cell? ⟨g,2,none⟩=some (.int .u8 keepS.t.k)∧W'.cell? ⟨g,3,none⟩=some (.int .i64 keepS.t.n)∧W'.cell? ⟨g,4,none⟩=some (.int .i64 keepS.t.v)∧W'.cell? ⟨g,5,none⟩=some (.int .u8 keepS.t.c)∧W'.cell? ⟨g,6,none⟩=some (.slice A m cp)∧W'.cell? ⟨g,7,none⟩=some (.slice A1 keepS.tab.low.length c1)∧W'.cell? ⟨g,8,none⟩=some (.slice A2 keepS.tab.up.length c2)∧W'.cell? ⟨g,9,none⟩=some (.slice A3 keepS.tab.pair.length c3))∧W'.cell? ⟨b,off+1 * 5,none⟩=some (.int .u8 textD.k)∧W'.cell? ⟨b,off+1 * 5+1,none⟩=some (.int .i64 textD.n)∧W'.cell? ⟨b,off+1 * 5+2,none⟩=some (.int .i64 textD.v)∧W'.cell? ⟨b,off+1 * 5+3,none⟩=some (.int .u8 textD.c)∧W'.cell? ⟨b,off+1 * 5+4,none⟩=some (.slice At mt ct)) 27 (by kernel_rfl) (HKT.out _ (Below.drew (Below.refl _ _))) (fun hHeld=>?_);have hbd:Below W6.heap.size W6 W6.drew:=Below.drew (Below.refl _ _);generalize W6.drew=V0 at hHeld hbd ⊢
 refine wpAnyT_take (i:=0) (v:=?_) rfl (by kernel_rfl) (by kernel_rfl) (by kernel_rfl) (by kernel_rfl) (fun _ _ _ h=>h) (Or.inl ⟨by rfl,?_⟩) (by assumption) ?_
 rotate_left
 · (intro w hSw; (try dsimp only at hSw); first | (go_simp; done) | (go_simp; with_reducible rfl))
 try simp only[Act.put,qg,qe,qf,qd,qh,qi]
 refine wpAnyT_take (i:=1) (v:=?_) rfl (by kernel_rfl) (by kernel_rfl) (by kernel_rfl) (by kernel_rfl) (fun _ _ _ h=>h) (Or.inl ⟨by rfl,?_⟩) (by assumption) ?_
 rotate_left
 · (intro w hSw; (try dsimp only at hSw); first | (go_simp; done) | (go_simp; with_reducible rfl))
 try simp only[Act.put,qg,qe,qf,qd,qh,qi]
 refine wpAnyT_take (i:=2) (v:=?_) rfl (by kernel_rfl) (by kernel_rfl) (by kernel_rfl) (by kernel_rfl) (fun _ _ _ h=>h) (Or.inl ⟨by rfl,?_⟩) (by assumption) ?_
 rotate_left
 · (intro w hSw; (try dsimp only at hSw); first | (go_simp; done) | (go_simp; with_reducible rfl))
 try simp only[Act.put,qg,qe,qf,qd,qh,qi]
 refine wpAnyT_take (i:=3) (v:=?_) rfl (by kernel_rfl) (by kernel_rfl) (by kernel_rfl) (by kernel_rfl) (fun _ _ _ h=>h) (Or.inl ⟨by rfl,?_⟩) (by assumption) ?_
 rotate_left
 · (intro w hSw; (try dsimp only at hSw); first | (go_simp; done) | (go_simp; with_reducible rfl))
 try simp only[Act.put,qg,qe,qf,qd,qh,qi]
 clear hHeld;have hbW:=Hb6.out.trans (hbd.mono Hb6.out.size);refine wpAnyT_step (i:=4) (by kernel_rfl) rfl (fun K hK=>?_)
 (go_simp; refine(schText_any keepS (mayTE_may keep_may) 2 (tabK.ok (by decide)) (by decide) (.inr keep_own) _ rfl (by decide +kernel) _ V0 ((Ht.out.below Hhb.out).below hbd) ⟨A,m,cp,A1,c1,A2,c2,A3,c3,rfl,HR.out.fresh hbW⟩).mono ?_; rintro e V1 ⟨rfl,hb1⟩; rw[keep_text,show(⟨keepTx.data.toList.toArray⟩:ByteArray)=⟨#[97,48,32,45,109,48,62,32,97,49,32,45,109,49,62,32,97,48,32,105,102,32,63,32,60,61,32,109,49]⟩ from rfl]; have hbV1:=hbd.trans (hb1.mono hbd.size); clear hb1 hbW)
 refine hK.out _ _ (HKT.out _ hbV1) ?_;clear hK K
 try simp only[Act.put,qg,qe,qf,qd,qh,qi]
 have hHeld:=HKT.out _ hbV1
 refine wpAnyT_take (i:=5) (v:=?_) rfl (by kernel_rfl) (by kernel_rfl) (by kernel_rfl) (by kernel_rfl) (fun _ _ _ h=>h) (Or.inl ⟨by rfl,?_⟩) (by assumption) ?_
 rotate_left
 · (intro w hSw; (try dsimp only at hSw); first | (go_simp; done) | (go_simp; with_reducible rfl))
 try simp only[Act.put,qg,qe,qf,qd,qh,qi]
 refine wpAnyT_take (i:=6) (v:=?_) rfl (by kernel_rfl) (by kernel_rfl) (by kernel_rfl) (by kernel_rfl) (fun _ _ _ h=>h) (Or.inl ⟨by rfl,?_⟩) (by assumption) ?_
 rotate_left
 · (intro w hSw; (try dsimp only at hSw); first | (go_simp; done) | (go_simp; with_reducible rfl))
 try simp only[Act.put,qg,qe,qf,qd,qh,qi]
 refine wpAnyT_take (i:=7) (v:=?_) rfl (by kernel_rfl) (by kernel_rfl) (by kernel_rfl) (by kernel_rfl) (fun _ _ _ h=>h) (Or.inl ⟨by rfl,?_⟩) (by assumption) ?_
 rotate_left
 · (intro w hSw; (try dsimp only at hSw); first | (go_simp; done) | (go_simp; with_reducible rfl))
 try simp only[Act.put,qg,qe,qf,qd,qh,qi]
 refine wpAnyT_take (i:=8) (v:=?_) rfl (by kernel_rfl) (by kernel_rfl) (by kernel_rfl) (by kernel_rfl) (fun _ _ _ h=>h) (Or.inl ⟨by rfl,?_⟩) (by assumption) ?_
 rotate_left
 · (intro w hSw; (try dsimp only at hSw); first | (go_simp; done) | (go_simp; with_reducible rfl))
 try simp only[Act.put,qg,qe,qf,qd,qh,qi]
 refine wpAnyT_take (i:=9) (v:=?_) rfl (by kernel_rfl) (by kernel_rfl) (by kernel_rfl) (by kernel_rfl) (fun _ _ _ h=>h) (Or.inl ⟨by rfl,?_⟩) (by assumption) ?_
 rotate_left
 · (intro w hSw; (try dsimp only at hSw); first | (go_simp; done) | (go_simp; with_reducible rfl))
 try simp only[Act.put,qg,qe,qf,qd,qh,qi]
 refine wpAnyT_take (i:=10) (v:=?_) rfl (by kernel_rfl) (by kernel_rfl) (by kernel_rfl) (by kernel_rfl) (fun _ _ _ h=>h) (Or.inl ⟨by rfl,?_⟩) (by assumption) ?_
 rotate_left
 · (intro w hSw; (try dsimp only at hSw); first | (go_simp; done) | (go_simp; with_reducible rfl))
 try simp only[Act.put,qg,qe,qf,qd,qh,qi]
 refine wpAnyT_take (i:=11) (v:=?_) rfl (by kernel_rfl) (by kernel_rfl) (by kernel_rfl) (by kernel_rfl) (fun _ _ _ h=>h) (Or.inl ⟨by rfl,?_⟩) (by assumption) ?_
 rotate_left
 · (intro w hSw; (try dsimp only at hSw); first | (go_simp; done) | (go_simp; with_reducible rfl))
 try simp only[Act.put,qg,qe,qf,qd,qh,qi]
 refine wpAnyT_take (i:=12) (v:=?_) rfl (by kernel_rfl) (by kernel_rfl) (by kernel_rfl) (by kernel_rfl) (fun _ _ _ h=>h) (Or.inl ⟨by rfl,?_⟩) (by assumption) ?_
 rotate_left
 · (intro w hSw; (try dsimp only at hSw); first | (go_simp; done) | (go_simp; with_reducible rfl))
 try simp only[Act.put,qg,qe,qf,qd,qh,qi]
 refine wpAnyT_take (i:=13) (v:=?_) rfl (by kernel_rfl) (by kernel_rfl) (by kernel_rfl) (by kernel_rfl) (fun _ _ _ h=>h) (Or.inl ⟨by rfl,?_⟩) (by assumption) ?_
 rotate_left
 · (intro w hSw; (try dsimp only at hSw); first | (go_simp; done) | (go_simp; with_reducible rfl))
 try simp only[Act.put,qg,qe,qf,qd,qh,qi]
 refine wpAnyT_take (i:=14) (v:=?_) rfl (by kernel_rfl) (by kernel_rfl) (by kernel_rfl) (by kernel_rfl) (fun _ _ _ h=>h) (Or.inl ⟨by rfl,?_⟩) (by assumption) ?_
 rotate_left
 · (intro w hSw; (try dsimp only at hSw); first | (go_simp; done) | (go_simp; with_reducible rfl))
 try simp only[Act.put,qg,qe,qf,qd,qh,qi]
 refine wpAnyT_take (i:=15) (v:=?_) rfl (by kernel_rfl) (by kernel_rfl) (by kernel_rfl) (by kernel_rfl) (fun _ _ _ h=>h) (Or.inl ⟨by rfl,?_⟩) (by assumption) ?_
 rotate_left
 · (intro w hSw; (try dsimp only at hSw); first | (go_simp; done) | (go_simp; with_reducible rfl))
 try simp only[Act.put,qg,qe,qf,qd,qh,qi]
 refine wpAnyT_take (i:=16) (v:=?_) rfl (by kernel_rfl) (by kernel_rfl) (by kernel_rfl) (by kernel_rfl) (fun _ _ _ h=>h) (Or.inl ⟨by rfl,?_⟩) (by assumption) ?_
 rotate_left
 · (intro w hSw; (try dsimp only at hSw); first | (go_simp; done) | (go_simp; with_reducible rfl))
 try simp only[Act.put,qg,qe,qf,qd,qh,qi]
 refine wpAnyT_take (i:=17) (v:=?_) rfl (by kernel_rfl) (by kernel_rfl) (by kernel_rfl) (by kernel_rfl) (fun _ _ _ h=>h) (Or.inl ⟨by rfl,?_⟩) (by assumption) ?_
 rotate_left
 · (intro w hSw; (try dsimp only at hSw); first | (go_simp; done) | (go_simp; with_reducible rfl))
 try simp only[Act.put,qg,qe,qf,qd,qh,qi]
 refine wpAnyT_take (i:=18) (v:=?_) rfl (by kernel_rfl) (by kernel_rfl) (by kernel_rfl) (by kernel_rfl) (fun _ _ _ h=>h) (Or.inl ⟨by rfl,?_⟩) (by assumption) ?_
 rotate_left
 · (intro w hSw; (try dsimp only at hSw); first | (go_simp; done) | (go_simp; with_reducible rfl))
 try simp only[Act.put,qg,qe,qf,qd,qh,qi]
 clear hHeld;refine wpAnyT_step (i:=19) (by kernel_rfl) rfl (fun K hK=>?_)
 (go_simp; refine(text8_any V1).mono ?_; rintro e V2 ⟨B2,m2,p2,rfl,ht2,hb2⟩; have hbV2:=hbV1.trans (hb2.mono hbV1.size); clear hb2)
 refine hK.out _ _ (HKT.out _ hbV2) ?_;clear hK K
 try simp only[Act.put,qg,qe,qf,qd,qh,qi]
 have hHeld:=HKT.out _ hbV2;clear hHeld;refine wpAnyT_step (i:=20) (by kernel_rfl) rfl (fun K hK=>?_)
 (go_simp; refine(same_go (nodes textD) textD textD (Nat.le_refl _) At mt ct B2 m2 p2 V2 ((HT0.out.below hbV2).more hbV2.size) ht2).mono ?_; rw[(sameT_iff textD textD).2 rfl]; rintro e V3 ⟨rfl,hb3⟩; have hbV3:=hbV2.trans (hb3.mono hbV2.size); clear hb3)
 refine hK.out _ _ (HKT.out _ hbV3) ?_;clear hK K
 try simp only[Act.put,qg,qe,qf,qd,qh,qi]
 have hHeld:=HKT.out _ hbV3
 refine wpAnyT_take (i:=21) (v:=?_) rfl (by kernel_rfl) (by kernel_rfl) (by kernel_rfl) (by kernel_rfl) (fun _ _ _ h=>h) (Or.inl ⟨by rfl,?_⟩) (by assumption) ?_
 rotate_left
 · (intro w hSw; (try dsimp only at hSw); first | (go_simp; done) | (go_simp; with_reducible rfl))
 try simp only[Act.put,qg,qe,qf,qd,qh,qi]
 refine wpAnyT_take (i:=22) (v:=?_) rfl (by kernel_rfl) (by kernel_rfl) (by kernel_rfl) (by kernel_rfl) (fun _ _ _ h=>h) (Or.inl ⟨by rfl,?_⟩) (by assumption) ?_
 rotate_left
 · (intro w hSw; (try dsimp only at hSw); first | (go_simp; done) | (go_simp; with_reducible rfl))
 try simp only[Act.put,qg,qe,qf,qd,qh,qi]
 refine wpAnyT_take (i:=23) (v:=?_) rfl (by kernel_rfl) (by kernel_rfl) (by kernel_rfl) (by kernel_rfl) (fun _ _ _ h=>h) (Or.inl ⟨by rfl,?_⟩) (by assumption) ?_
 rotate_left
 · (intro w hSw; (try dsimp only at hSw); first | (go_simp; done) | (go_simp; with_reducible rfl))
 try simp only[Act.put,qg,qe,qf,qd,qh,qi]
 clear hHeld;have hbA:Below W6.heap.size W6 (V3.alloc (Obj.cells #[.int .u8 1,.int .u8 2] 22)):=hbV3.trans ((below_box _).mono hbV3.size);have hra:=rd_two V3 .u8 22 1 2;refine wpAnyT_step (i:=24) (by kernel_rfl) rfl (fun K hK=>?_);go_simp;refine hK.out _ _ (HKT.out _ hbA) ?_;clear hK K
 try simp only[Act.put,qg,qe,qf,qd,qh,qi]
 generalize V3.alloc (Obj.cells #[.int .u8 1,.int .u8 2] 22)=V4 at hbA hra ⊢;refine wpAnyT_step (i:=25) (by kernel_rfl) rfl (fun K hK=>?_)
 (go_simp; refine(equalM_any D2 nd2 cd2 [1,2] _ 2 2 [1,2] V4 ((Hms.out.below hbA).more hbA.size) hra).mono ?_; rintro e V5 ⟨rfl,hb5⟩; have hbV5:=hbA.trans (hb5.mono hbA.size); clear hb5)
 refine hK.out _ _ (HKT.out _ hbV5) ?_;clear hK K
 try simp only[Act.put,qg,qe,qf,qd,qh,qi]
 have hHeld:=HKT.out _ hbV5
 refine wpAnyT_take (i:=26) (v:=?_) rfl (by kernel_rfl) (by kernel_rfl) (by kernel_rfl) (by kernel_rfl) (fun _ _ _ h=>h) (Or.inl ⟨by rfl,?_⟩) (by assumption) ?_
 rotate_left
 · (intro w hSw; (try dsimp only at hSw); first | (go_simp; done) | (go_simp; with_reducible rfl))
 try simp only[Act.put,qg,qe,qf,qd,qh,qi]
 have hend:=Hhb.out.trans (hbV5.mono Hhb.out.size);clear hHeld hbV5 hbA hra hbV3 hbV2 hbV1 hbd;refine wpAnyT_seq 27 (by omega) (by rfl) (by kernel_rfl) ?_;simp only[List.drop_succ_cons,List.drop_zero];go_wp2_with fail;refine NoPanic.normal ?_;go_wp2_with fail;go_ret;exact⟨rfl,hend⟩
def rangeI (n:Nat):List Int:=(List.range n).map fun i:Nat=>(i:Int)
theorem OkSch.vars {s:SchD} (h:OkSch s):varsT s.t=rangeI (varsT s.t).length:=by
 have:=canT_vars (mayTE_may h.may);rwa [h.can] at this
theorem OkSch.ms {s:SchD} (h:OkSch s):multsT s.t=rangeI (multsT s.t).length:=by
 have:=canT_mults (mayTE_may h.may);rwa [h.can] at this
theorem OkSch.var {s:SchD} (h:OkSch s) {i:Nat} (hi:i<(varsT s.t).length):(i:Int)∈allV s.t:=by
 rw[← mem_vars,h.vars];exact List.mem_map.2 ⟨i,List.mem_range.2 hi,rfl⟩
end Go.Proofs.YtdmakpmbknindaaGreatDoor
