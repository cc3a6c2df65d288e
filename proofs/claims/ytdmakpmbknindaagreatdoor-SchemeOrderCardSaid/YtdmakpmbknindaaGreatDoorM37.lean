import Derived.Test.YtdmakpmbknindaaGreatDoorM34
import Derived.Test.YtdmakpmbknindaaGreatDoorM36
import Derived.Test.YtdmakpmbknindaaGreatDoorM13
import Derived.Test.YtdmakpmbknindaaGreatDoorM16
import Derived.Test.YtdmakpmbknindaaGreatDoorM29
import Derived.Test.YtdmakpmbknindaaGreatDoorM26
namespace Go.Proofs.YtdmakpmbknindaaGreatDoor
set_option linter.unusedVariables false
set_option linter.unusedSimpArgs false
open Go.RowKit
def wholeD:TyD:=.mk 2 0 0 0 []
def textD:TyD:=.mk 3 0 0 0 []
def workIn:TyD:=.mk 7 0 0 2 [textD,wholeD]
def workT:TyD:=.mk 7 0 0 1 [wholeD,workIn]
theorem work_turn:turnT (putV [wholeD,textD]) (putM [(0,1),(0,2)]) keepT=workT:=by
 have h:sameT (turnT (putV [wholeD,textD]) (putM [(0,1),(0,2)]) keepT) workT=true:=by decide +kernel
 exact(sameT_iff _ _).1 h
theorem keep_vars:allV keepT=[0,1,0]:=by decide +kernel
theorem keep_ms:allM keepT=[0,1]:=by decide +kernel
theorem work_may:mayTE workT=0:=by decide +kernel
theorem work_in:(putsE keepS workT).1=true∧typesE 2 (putsE keepS workT).2=[wholeD,textD]∧multsE 2 (putsE keepS workT).2=[1,2]:=by
 have hm:=mayTE_may keep_may;have hw:=mayTE_may work_may;have hp:=match_puts hm hw work_turn;have hi:=(match_iff hm hw).2 ⟨_,_,work_turn⟩;refine⟨hi,?_,?_⟩
 · unfold typesE putsE
   rw[show keepS.t=keepT from rfl]
   have h0:=hp.1 0 (by rw[keep_vars]; decide)
   have h1:=hp.1 1 (by rw[keep_vars]; decide)
   simp only[List.range_succ,List.range_zero,List.nil_append,List.singleton_append,List.map_cons,List.map_nil]
   rw[show((0:Nat):Int)=0 from rfl,show((1:Nat):Int)=1 from rfl,h0,h1]
   rfl
 · unfold multsE putsE
   rw[show keepS.t=keepT from rfl]
   have h0:=hp.2 0 (by rw[keep_ms]; decide)
   have h1:=hp.2 1 (by rw[keep_ms]; decide)
   simp only[List.range_succ,List.range_zero,List.nil_append,List.singleton_append,List.map_cons,List.map_nil]
   rw[show((0:Nat):Int)=0 from rfl,show((1:Nat):Int)=1 from rfl,h0,h1]
   rfl
theorem work_lets:LetsA 2 keepS.tab [1,2]:=⟨rfl,by decide,fun i hi=>by
 rcases lt2 hi with rfl | rfl
 · exact⟨by decide,by decide,fun j hj=>by rcases lt2 hj with rfl | rfl <;> decide⟩
 · exact⟨by decide,by decide,fun j hj=>by rcases lt2 hj with rfl | rfl <;> decide⟩⟩
theorem work_inst {ts:List TyD} {ms:List Int} {ok:Bool} (h:InstR keepS workT ts ms ok):ok=true∧ts=[wholeD,textD]∧ms=[1,2]:=by
 have e1:(multsT keepS.t).length=2:=by rw[show keepS.t=keepT from rfl,keep_m]; rfl
 have e2:(varsT keepS.t).length=2:=by rw[show keepS.t=keepT from rfl,keep_v]; rfl
 have hi:InstE keepS workT:=⟨work_may,work_in.1,by rw[e1,work_in.2.2]; exact work_lets⟩
 have h0:=h.iff.2 hi;obtain⟨h1,h2⟩:=h.yes h0;rw[e2,work_in.2.1] at h1;rw[e1,work_in.2.2] at h2;exact⟨h0,h1,h2⟩
theorem keep_own:ownE keepS.tab 2=xsK:=by decide +kernel
def keepTx:ByteArray:=⟨#[97,48,32,45,109,48,62,32,97,49,32,45,109,49,62,32,97,48,32,105,102,32,63,32,60,61,32,109,49]⟩
theorem keep_text:textS keepS.t (ownE keepS.tab 2)=keepTx.data.toList:=by decide +kernel
set_option maxRecDepth 100000 in
set_option maxHeartbeats 4000000 in
theorem works8_any (w:World) (ht:Tab w):Calls Tryz.prog 11 #[] w fun e w'=>e=.returned (.bool true)∧Below w.heap.size w w':=by
 have Ht:=qq ht;clear ht
 go_enter Tryz.func11,Tryz.ntmps11
 go_wp2_with fail
 refine(keep8_any w).mono ?_; rintro e w1 ⟨v,rfl,hv,hb1⟩
 obtain⟨A,m,cp,A1,c1,A2,c2,A3,c3,rfl,hr⟩:=hv;have hk:=blk_new w1 (cellsS keepS A m cp A1 c1 A2 c2 A3 c3) 40;have hb:=below_box (w:=w1) (Obj.cells (cellsS keepS A m cp A1 c1 A2 c2 A3 c3) 40);obtain⟨g,hg⟩:∃ g,w1.heap.size=g:=⟨_,rfl⟩;obtain⟨W,hW⟩:∃ x,w1.alloc (Obj.cells (cellsS keepS A m cp A1 c1 A2 c2 A3 c3) 40)=x:=⟨_,rfl⟩;rw[hW,hg] at hk;rw[hW] at hb;unfold cellsS at hW;have HW:=qq hW;have HK:=qq hk;have HR:=qq (hr.fresh hb);have Hb:=qq (hb1.trans (hb.mono hb1.size));have hKS:∀ W',Below W.heap.size W W'→W'.cell? ⟨g,0,none⟩=some (.int .i64 keepS.types)∧W'.cell? ⟨g,1,none⟩=some (.int .i64 keepS.mults)∧W'.cell? ⟨g,2,none⟩=some (.int .u8 keepS.t.k)∧W'.cell? ⟨g,3,none⟩=some (.int .i64 keepS.t.n)∧W'.cell? ⟨g,4,none⟩=some (.int .i64 keepS.t.v)∧W'.cell? ⟨g,5,none⟩=some (.int .u8 keepS.t.c)∧W'.cell? ⟨g,6,none⟩=some (.slice A m cp)∧W'.cell? ⟨g,7,none⟩=some (.slice A1 keepS.tab.low.length c1)∧W'.cell? ⟨g,8,none⟩=some (.slice A2 keepS.tab.up.length c2)∧W'.cell? ⟨g,9,none⟩=some (.slice A3 keepS.tab.pair.length c3):=fun W' hW'=>box_cells (hk.below hW' hk.lt);have HKS:=qq hKS;clear hk hb hW hr hb1 hKS;unfold cellsS;go_upto_region 2 with fail;rw[HW.out];refine wp_region_noPanic ?_;refine wp_region_T (fun W'=>W'.cell? ⟨g,0,none⟩=some (.int .i64 keepS.types)∧W'.cell? ⟨g,1,none⟩=some (.int .i64 keepS.mults)∧W'.cell? ⟨g,2,none⟩=some (.int .u8 keepS.t.k)∧W'.cell? ⟨g,3,none⟩=some (.int .i64 keepS.t.n)∧W'.cell? ⟨g,4,none⟩=some (.int .i64 keepS.t.v)∧W'.cell? ⟨g,5,none⟩=some (.int .u8 keepS.t.c)∧W'.cell? ⟨g,6,none⟩=some (.slice A m cp)∧W'.cell? ⟨g,7,none⟩=some (.slice A1 keepS.tab.low.length c1)∧W'.cell? ⟨g,8,none⟩=some (.slice A2 keepS.tab.up.length c2)∧W'.cell? ⟨g,9,none⟩=some (.slice A3 keepS.tab.pair.length c3)) 15 (by kernel_rfl) (HKS.out _ (Below.drew (Below.refl _ _))) (fun hHeld=>?_);have hbd:Below W.heap.size W W.drew:=Below.drew (Below.refl _ _);generalize W.drew=W0 at hHeld hbd ⊢
 refine wpAnyT_take (i:=0) (v:=?_) rfl (by kernel_rfl) (by kernel_rfl) (by kernel_rfl) (by kernel_rfl) (fun _ _ _ h=>h) (Or.inl ⟨by rfl,?_⟩) (by assumption) ?_
 rotate_left
 · (intro w hSw; (try dsimp only at hSw); first | (go_simp; done) | (go_simp; with_reducible rfl))
 try simp only[Act.put,qg,qe,qf,qd,qh,qi]
 refine wpAnyT_take (i:=2) (v:=?_) rfl (by kernel_rfl) (by kernel_rfl) (by kernel_rfl) (by kernel_rfl) (fun _ _ _ h=>h) (Or.inl ⟨by rfl,?_⟩) (by assumption) ?_
 rotate_left
 · (intro w hSw; (try dsimp only at hSw); first | (go_simp; done) | (go_simp; with_reducible rfl))
 try simp only[Act.put,qg,qe,qf,qd,qh,qi]
 refine wpAnyT_take (i:=4) (v:=?_) rfl (by kernel_rfl) (by kernel_rfl) (by kernel_rfl) (by kernel_rfl) (fun _ _ _ h=>h) (Or.inl ⟨by rfl,?_⟩) (by assumption) ?_
 rotate_left
 · (intro w hSw; (try dsimp only at hSw); first | (go_simp; done) | (go_simp; with_reducible rfl))
 try simp only[Act.put,qg,qe,qf,qd,qh,qi]
 clear hHeld;refine wpAnyT_step (i:=1) (by kernel_rfl) rfl (fun K hK=>?_)
 (go_simp; refine(whole8_any W0).mono ?_; rintro e W1 ⟨B1,m1,p1,rfl,ht1,hb1⟩; have hbW1:=hbd.trans (hb1.mono hbd.size); clear hb1)
 refine hK.out _ _ (HKS.out _ hbW1) ?_;clear hK K
 try simp only[Act.put,qg,qe,qf,qd,qh,qi]
 refine wpAnyT_step (i:=3) (by kernel_rfl) rfl (fun K hK=>?_)
 (go_simp; refine(text8_any W1).mono ?_; rintro e W2 ⟨B2,m2,p2,rfl,ht2,hb2⟩; have hbW2:=hbW1.trans (hb2.mono hbW1.size); clear hb2)
 refine hK.out _ _ (HKS.out _ hbW2) ?_;clear hK K
 try simp only[Act.put,qg,qe,qf,qd,qh,qi]
 refine wpAnyT_step (i:=5) (by kernel_rfl) rfl (fun K hK=>?_)
 (go_simp; refine(whole8_any W2).mono ?_; rintro e W3 ⟨B3,m3,p3,rfl,ht3,hb3⟩; have hbW3:=hbW2.trans (hb3.mono hbW2.size); clear hb3)
 refine hK.out _ _ (HKS.out _ hbW3) ?_;clear hK K
 try simp only[Act.put,qg,qe,qf,qd,qh,qi]
 refine wpAnyT_step (i:=6) (by kernel_rfl) rfl (fun K hK=>?_)
 (go_simp; refine(fun8_any textD wholeD (by decide +kernel) (by decide +kernel) 0 2 B2 m2 p2 B3 m3 p3 W3 (ht2.empty) (ht3.empty)).mono ?_; rintro e W4 ⟨B4,m4,p4,rfl,ht4,hb4⟩; have hbW4:=hbW3.trans (hb4.mono hbW3.size); clear hb4)
 refine hK.out _ _ (HKS.out _ hbW4) ?_;clear hK K
 try simp only[Act.put,qg,qe,qf,qd,qh,qi]
 refine wpAnyT_step (i:=7) (by kernel_rfl) rfl (fun K hK=>?_)
 (go_simp; refine(fun8_any wholeD workIn (by decide +kernel) (by decide +kernel) 0 1 B1 m1 p1 B4 m4 p4 W4 (ht1.empty) ht4).mono ?_; rintro e W5 ⟨B5,m5,p5,rfl,ht5,hb5⟩; have hbW5:=hbW4.trans (hb5.mono hbW4.size); clear hb5)
 refine hK.out _ _ (HKS.out _ hbW5) ?_;clear hK K
 try simp only[Act.put,qg,qe,qf,qd,qh,qi]
 refine wpAnyT_step (i:=8) (by kernel_rfl) rfl (fun K hK=>?_)
 (go_simp; refine(inst_any keepS keep_ok workT _ B5 m5 p5 W5 ⟨A,m,cp,A1,c1,A2,c2,A3,c3,rfl,HR.out.fresh hbW5⟩ ht5).mono ?_; rintro e W6 ⟨D,nd,cd,ts,D2,nd2,cd2,ms,ok,rfl,hts,hms,hi,hb6⟩; obtain⟨rfl,rfl,rfl⟩:=work_inst hi; have hbW6:=hbW5.trans (hb6.mono hbW5.size); clear hb6 hi)
 refine hK.out _ _ (HKS.out _ hbW6) ?_;clear hK K
 try simp only[Act.put,qg,qe,qf,qd,qh,qi]
 have hHeld:=HKS.out _ hbW6
 refine wpAnyT_take (i:=9) (v:=?_) rfl (by kernel_rfl) (by kernel_rfl) (by kernel_rfl) (by kernel_rfl) (fun _ _ _ h=>h) (Or.inl ⟨by rfl,?_⟩) (by assumption) ?_
 rotate_left
 · (intro w hSw; (try dsimp only at hSw); first | (go_simp; done) | (go_simp; with_reducible rfl))
 try simp only[Act.put,qg,qe,qf,qd,qh,qi]
 refine wpAnyT_take (i:=10) (v:=?_) rfl (by kernel_rfl) (by kernel_rfl) (by kernel_rfl) (by kernel_rfl) (fun _ _ _ h=>h) (Or.inl ⟨by rfl,?_⟩) (by assumption) ?_
 rotate_left
 · (intro w hSw; (try dsimp only at hSw); first | (go_simp; done) | (go_simp; with_reducible rfl))
 try simp only[Act.put,qg,qe,qf,qd,qh,qi]
 refine wpAnyT_take (i:=11) (v:=?_) rfl (by kernel_rfl) (by kernel_rfl) (by kernel_rfl) (by kernel_rfl) (fun _ _ _ h=>h) (Or.inl ⟨by rfl,?_⟩) (by assumption) ?_
 rotate_left
 · (intro w hSw; (try dsimp only at hSw); first | (go_simp; done) | (go_simp; with_reducible rfl))
 try simp only[Act.put,qg,qe,qf,qd,qh,qi]
 refine wpAnyT_take (i:=12) (v:=?_) rfl (by kernel_rfl) (by kernel_rfl) (by kernel_rfl) (by kernel_rfl) (fun _ _ _ h=>h) (Or.inl ⟨by rfl,?_⟩) (by assumption) ?_
 rotate_left
 · (intro w hSw; (try dsimp only at hSw); first | (go_simp; done) | (go_simp; with_reducible rfl))
 try simp only[Act.put,qg,qe,qf,qd,qh,qi]
 refine wpAnyT_take (i:=13) (v:=?_) rfl (by kernel_rfl) (by kernel_rfl) (by kernel_rfl) (by kernel_rfl) (fun _ _ _ h=>h) (Or.inl ⟨by rfl,?_⟩) (by assumption) ?_
 rotate_left
 · (intro w hSw; (try dsimp only at hSw); first | (go_simp; done) | (go_simp; with_reducible rfl))
 try simp only[Act.put,qg,qe,qf,qd,qh,qi]
 refine wpAnyT_take (i:=14) (v:=?_) rfl (by kernel_rfl) (by kernel_rfl) (by kernel_rfl) (by kernel_rfl) (fun _ _ _ h=>h) (Or.inl ⟨by rfl,?_⟩) (by assumption) ?_
 rotate_left
 · (intro w hSw; (try dsimp only at hSw); first | (go_simp; done) | (go_simp; with_reducible rfl))
 try simp only[Act.put,qg,qe,qf,qd,qh,qi]
 clear hHeld;have Hb6:=qq hbW6;have Hts:=qq hts;have Hms:=qq hms;clear ht1 ht2 ht3 ht4 ht5 hbd hbW1 hbW2 hbW3 hbW4 hbW5 hbW6 hts hms;refine wpAnyT_seq 15 (by omega) (by rfl) (by kernel_rfl) ?_;simp only[List.drop_succ_cons,List.drop_zero];go_wp2_with fail;refine NoPanic.normal ?_;obtain rfl:2=nd:=Hts.out.len;obtain⟨b,off,rfl,hlb,hc⟩:=Hts.out.at_ (by omega);have hat:=hc 1 (by decide);rw[tyAt_iff] at hat;obtain⟨a0,a1,a2,a3,At,mt,ct,a4,hT⟩:=hat;have hT0:TysV W6 W6.heap.size At mt ct []:=hT;have HT0:=qq hT0;have hKT:∀ W',Below W6.heap.size W6 W'→(W'.cell? ⟨g,0,none⟩=some (.int .i64 keepS.types)∧W'.cell? ⟨g,1,none⟩=some (.int .i64 keepS.mults)∧W'.cell? ⟨g,2,none⟩=some (.int .u8 keepS.t.k)∧W'.cell? ⟨g,3,none⟩=some (.int .i64 keepS.t.n)∧W'.cell? ⟨g,4,none⟩=some (.int .i64 keepS.t.v)∧W'.cell? ⟨g,5,none⟩=some (.int .u8 keepS.t.c)∧W'.cell? ⟨g,6,none⟩=some (.slice A m cp)∧W'.cell? ⟨g,7,none⟩=some (.slice A1 keepS.tab.low.length c1)∧W'.cell? ⟨g,8,none⟩=some (.slice A2 keepS.tab.up.length c2)∧W'.cell? ⟨g,9,none⟩=some (.slice A3 keepS.tab.pair.length c3))∧W'.cell? ⟨b,off+1 * 5,none⟩=some (.int .u8 textD.k)∧W'.cell? ⟨b,off+1 * 5+1,none⟩=some (.int .i64 textD.n)∧W'.cell? ⟨b,off+1 * 5+2,none⟩=some (.int .i64 textD.v)∧W'.cell? ⟨b,off+1 * 5+3,none⟩=some (.int .u8 textD.c)∧W'.cell? ⟨b,off+1 * 5+4,none⟩=some (.slice At mt ct):=fun W' hW'=>⟨HKS.out _ (Hb6.out.trans (hW'.mono Hb6.out.size)),(hW'.cell (p:=⟨b,off+1 * 5,none⟩) hlb).trans a0,(hW'.cell (p:=⟨b,off+1 * 5+1,none⟩) hlb).trans a1,(hW'.cell (p:=⟨b,off+1 * 5+2,none⟩) hlb).trans a2,(hW'.cell (p:=⟨b,off+1 * 5+3,none⟩) hlb).trans a3,(hW'.cell (p:=⟨b,off+1 * 5+4,none⟩) hlb).trans a4⟩;have HKT:=qq hKT;clear hc a0 a1 a2 a3 a4 hT hKT hT0;have Hhb:Hid (Below w.heap.size w W6):=qq (Hb.out.trans (Hb6.out.mono Hb.out.size));go_upto_region 3 with fail;refine wp_region_noPanic ?_;refine wp_region_T (fun W'=>(W'.cell? ⟨g,0,none⟩=some (.int .i64 keepS.types)∧W'.cell? ⟨g,1,none⟩=some (.int .i64 keepS.mults)∧W'.cell? ⟨g,2,none⟩=some (.int .u8 keepS.t.k)∧W'.cell? ⟨g,3,none⟩=some (.int .i64 keepS.t.n)∧W'.cell? ⟨g,4,none⟩=some (.int .i64 keepS.t.v)∧W'.cell? ⟨g,5,none⟩=some (.int .u8 keepS.t.c)∧W'.cell? ⟨g,6,none⟩=some (.slice A m cp)∧W'.cell? ⟨g,7,none⟩=some (.slice A1 keepS.tab.low.length c1)∧W'.cell? ⟨g,8,none⟩=some (.slice A2 keepS.tab.up.length c2)∧W'.cell? ⟨g,9,none⟩=some (.slice A3 keepS.tab.pair.length c3))∧W'.cell? ⟨b,off+1 * 5,none⟩=some (.int .u8 textD.k)∧W'.cell? ⟨b,off+1 * 5+1,none⟩=some (.int .i64 textD.n)∧W'.cell? ⟨b,off+1 * 5+2,none⟩=some (.int .i64 textD.v)∧W'.cell? ⟨b,off+1 * 5+3,none⟩=some (.int .u8 textD.c)∧W'.cell? ⟨b,off+1 * 5+4,none⟩=some (.slice At mt ct)) 27 (by kernel_rfl) (HKT.out _ (Below.drew (Below.refl _ _))) (fun hHeld=>?_);have hbd:Below W6.heap.size W6 W6.drew:=Below.drew (Below.refl _ _);generalize W6.drew=V0 at hHeld hbd ⊢
 refine wpAnyT_take (i:=0) (v:=?_) rfl (by kernel_rfl) (by kernel_rfl) (by kernel_rfl) (by kernel_rfl) (fun _ _ _ h=>h) (Or.inl ⟨by rfl,?_⟩) (by assumption) ?_
 rotate_left
 · (intro w hSw; (try dsimp only at hSw); first | (go_simp; done) | (go_simp; with_reducible rfl))
 try simp only[Act.put,qg,qe,qf,qd,qh,qi]
 refine wpAnyT_take (i:=1) (v:=?_) rfl (by kernel_rfl) (by kernel_rfl) (by kernel_rfl) (by kernel_rfl) (fun _ _ _ h=>h) (Or.inl ⟨by rfl,?_⟩) (by assumption) ?_
 rotate_left
 · (intro w hSw; (try dsimp only at hSw); first | (go_simp; done) | (go_simp; with_reducible rfl))
 try simp only[Act.put,qg,qe,qf,qd,qh,qi]
 refine wpAnyT_take (i:=2) (v:=?_) rfl (by kernel_rfl) (by kernel_rfl) (by kernel_rfl) (by kernel_rfl) (fun _ _ _ h=>h) (Or.inl ⟨by rfl,?_⟩) (by assumption) ?_
 rotate_left
 · (intro w hSw; (try dsimp only at hSw); first | (go_simp; done) | (go_simp; with_reducible rfl))
 try simp only[Act.put,qg,qe,qf,qd,qh,qi]
 refine wpAnyT_take (i:=3) (v:=?_) rfl (by kernel_rfl) (by kernel_rfl) (by kernel_rfl) (by kernel_rfl) (fun _ _ _ h=>h) (Or.inl ⟨by rfl,?_⟩) (by assumption) ?_
 rotate_left
 · (intro w hSw; (try dsimp only at hSw); first | (go_simp; done) | (go_simp; with_reducible rfl))
 try simp only[Act.put,qg,qe,qf,qd,qh,qi]
 clear hHeld;have hbW:=Hb6.out.trans (hbd.mono Hb6.out.size);refine wpAnyT_step (i:=4) (by kernel_rfl) rfl (fun K hK=>?_)
 (go_simp; refine(schText_any keepS (mayTE_may keep_may) 2 (tabK.ok (by decide)) (by decide) (.inr keep_own) _ rfl (by decide +kernel) _ V0 ((Ht.out.below Hhb.out).below hbd) ⟨A,m,cp,A1,c1,A2,c2,A3,c3,rfl,HR.out.fresh hbW⟩).mono ?_; rintro e V1 ⟨rfl,hb1⟩; rw[keep_text,show(⟨keepTx.data.toList.toArray⟩:ByteArray)=⟨#[97,48,32,45,109,48,62,32,97,49,32,45,109,49,62,32,97,48,32,105,102,32,63,32,60,61,32,109,49]⟩ from rfl]; have hbV1:=hbd.trans (hb1.mono hbd.size); clear hb1 hbW)
 refine hK.out _ _ (HKT.out _ hbV1) ?_;clear hK K
 try simp only[Act.put,qg,qe,qf,qd,qh,qi]
 have hHeld:=HKT.out _ hbV1
 refine wpAnyT_take (i:=5) (v:=?_) rfl (by kernel_rfl) (by kernel_rfl) (by kernel_rfl) (by kernel_rfl) (fun _ _ _ h=>h) (Or.inl ⟨by rfl,?_⟩) (by assumption) ?_
 rotate_left
 · (intro w hSw; (try dsimp only at hSw); first | (go_simp; done) | (go_simp; with_reducible rfl))
 try simp only[Act.put,qg,qe,qf,qd,qh,qi]
 refine wpAnyT_take (i:=6) (v:=?_) rfl (by kernel_rfl) (by kernel_rfl) (by kernel_rfl) (by kernel_rfl) (fun _ _ _ h=>h) (Or.inl ⟨by rfl,?_⟩) (by assumption) ?_
 rotate_left
 · (intro w hSw; (try dsimp only at hSw); first | (go_simp; done) | (go_simp; with_reducible rfl))
 try simp only[Act.put,qg,qe,qf,qd,qh,qi]
 refine wpAnyT_take (i:=7) (v:=?_) rfl (by kernel_rfl) (by kernel_rfl) (by kernel_rfl) (by kernel_rfl) (fun _ _ _ h=>h) (Or.inl ⟨by rfl,?_⟩) (by assumption) ?_
 rotate_left
 · (intro w hSw; (try dsimp only at hSw); first | (go_simp; done) | (go_simp; with_reducible rfl))
 try simp only[Act.put,qg,qe,qf,qd,qh,qi]
 refine wpAnyT_take (i:=8) (v:=?_) rfl (by kernel_rfl) (by kernel_rfl) (by kernel_rfl) (by kernel_rfl) (fun _ _ _ h=>h) (Or.inl ⟨by rfl,?_⟩) (by assumption) ?_
 rotate_left
 · (intro w hSw; (try dsimp only at hSw); first | (go_simp; done) | (go_simp; with_reducible rfl))
 try simp only[Act.put,qg,qe,qf,qd,qh,qi]
 refine wpAnyT_take (i:=9) (v:=?_) rfl (by kernel_rfl) (by kernel_rfl) (by kernel_rfl) (by kernel_rfl) (fun _ _ _ h=>h) (Or.inl ⟨by rfl,?_⟩) (by assumption) ?_
 rotate_left
 · (intro w hSw; (try dsimp only at hSw); first | (go_simp; done) | (go_simp; with_reducible rfl))
 try simp only[Act.put,qg,qe,qf,qd,qh,qi]
 refine wpAnyT_take (i:=10) (v:=?_) rfl (by kernel_rfl) (by kernel_rfl) (by kernel_rfl) (by kernel_rfl) (fun _ _ _ h=>h) (Or.inl ⟨by rfl,?_⟩) (by assumption) ?_
 rotate_left
 · (intro w hSw; (try dsimp only at hSw); first | (go_simp; done) | (go_simp; with_reducible rfl))
 try simp only[Act.put,qg,qe,qf,qd,qh,qi]
 refine wpAnyT_take (i:=11) (v:=?_) rfl (by kernel_rfl) (by kernel_rfl) (by kernel_rfl) (by kernel_rfl) (fun _ _ _ h=>h) (Or.inl ⟨by rfl,?_⟩) (by assumption) ?_
 rotate_left
 · (intro w hSw; (try dsimp only at hSw); first | (go_simp; done) | (go_simp; with_reducible rfl))
 try simp only[Act.put,qg,qe,qf,qd,qh,qi]
 refine wpAnyT_take (i:=12) (v:=?_) rfl (by kernel_rfl) (by kernel_rfl) (by kernel_rfl) (by kernel_rfl) (fun _ _ _ h=>h) (Or.inl ⟨by rfl,?_⟩) (by assumption) ?_
 rotate_left
 · (intro w hSw; (try dsimp only at hSw); first | (go_simp; done) | (go_simp; with_reducible rfl))
 try simp only[Act.put,qg,qe,qf,qd,qh,qi]
 refine wpAnyT_take (i:=13) (v:=?_) rfl (by kernel_rfl) (by kernel_rfl) (by kernel_rfl) (by kernel_rfl) (fun _ _ _ h=>h) (Or.inl ⟨by rfl,?_⟩) (by assumption) ?_
 rotate_left
 · (intro w hSw; (try dsimp only at hSw); first | (go_simp; done) | (go_simp; with_reducible rfl))
 try simp only[Act.put,qg,qe,qf,qd,qh,qi]
 refine wpAnyT_take (i:=14) (v:=?_) rfl (by kernel_rfl) (by kernel_rfl) (by kernel_rfl) (by kernel_rfl) (fun _ _ _ h=>h) (Or.inl ⟨by rfl,?_⟩) (by assumption) ?_
 rotate_left
 · (intro w hSw; (try dsimp only at hSw); first | (go_simp; done) | (go_simp; with_reducible rfl))
 try simp only[Act.put,qg,qe,qf,qd,qh,qi]
 refine wpAnyT_take (i:=15) (v:=?_) rfl (by kernel_rfl) (by kernel_rfl) (by kernel_rfl) (by kernel_rfl) (fun _ _ _ h=>h) (Or.inl ⟨by rfl,?_⟩) (by assumption) ?_
 rotate_left
 · (intro w hSw; (try dsimp only at hSw); first | (go_simp; done) | (go_simp; with_reducible rfl))
 try simp only[Act.put,qg,qe,qf,qd,qh,qi]
 refine wpAnyT_take (i:=16) (v:=?_) rfl (by kernel_rfl) (by kernel_rfl) (by kernel_rfl) (by kernel_rfl) (fun _ _ _ h=>h) (Or.inl ⟨by rfl,?_⟩) (by assumption) ?_
 rotate_left
 · (intro w hSw; (try dsimp only at hSw); first | (go_simp; done) | (go_simp; with_reducible rfl))
 try simp only[Act.put,qg,qe,qf,qd,qh,qi]
 refine wpAnyT_take (i:=17) (v:=?_) rfl (by kernel_rfl) (by kernel_rfl) (by kernel_rfl) (by kernel_rfl) (fun _ _ _ h=>h) (Or.inl ⟨by rfl,?_⟩) (by assumption) ?_
 rotate_left
 · (intro w hSw; (try dsimp only at hSw); first | (go_simp; done) | (go_simp; with_reducible rfl))
 try simp only[Act.put,qg,qe,qf,qd,qh,qi]
 refine wpAnyT_take (i:=18) (v:=?_) rfl (by kernel_rfl) (by kernel_rfl) (by kernel_rfl) (by kernel_rfl) (fun _ _ _ h=>h) (Or.inl ⟨by rfl,?_⟩) (by assumption) ?_
 rotate_left
 · (intro w hSw; (try dsimp only at hSw); first | (go_simp; done) | (go_simp; with_reducible rfl))
 try simp only[Act.put,qg,qe,qf,qd,qh,qi]
 clear hHeld;refine wpAnyT_step (i:=19) (by kernel_rfl) rfl (fun K hK=>?_)
 (go_simp; refine(text8_any V1).mono ?_; rintro e V2 ⟨B2,m2,p2,rfl,ht2,hb2⟩; have hbV2:=hbV1.trans (hb2.mono hbV1.size); clear hb2)
 refine hK.out _ _ (HKT.out _ hbV2) ?_;clear hK K
 try simp only[Act.put,qg,qe,qf,qd,qh,qi]
 have hHeld:=HKT.out _ hbV2;clear hHeld;refine wpAnyT_step (i:=20) (by kernel_rfl) rfl (fun K hK=>?_)
 (go_simp; refine(same_go (nodes textD) textD textD (Nat.le_refl _) At mt ct B2 m2 p2 V2 ((HT0.out.below hbV2).more hbV2.size) ht2).mono ?_; rw[(sameT_iff textD textD).2 rfl]; rintro e V3 ⟨rfl,hb3⟩; have hbV3:=hbV2.trans (hb3.mono hbV2.size); clear hb3)
 refine hK.out _ _ (HKT.out _ hbV3) ?_;clear hK K
 try simp only[Act.put,qg,qe,qf,qd,qh,qi]
 have hHeld:=HKT.out _ hbV3
 refine wpAnyT_take (i:=21) (v:=?_) rfl (by kernel_rfl) (by kernel_rfl) (by kernel_rfl) (by kernel_rfl) (fun _ _ _ h=>h) (Or.inl ⟨by rfl,?_⟩) (by assumption) ?_
 rotate_left
 · (intro w hSw; (try dsimp only at hSw); first | (go_simp; done) | (go_simp; with_reducible rfl))
 try simp only[Act.put,qg,qe,qf,qd,qh,qi]
 refine wpAnyT_take (i:=22) (v:=?_) rfl (by kernel_rfl) (by kernel_rfl) (by kernel_rfl) (by kernel_rfl) (fun _ _ _ h=>h) (Or.inl ⟨by rfl,?_⟩) (by assumption) ?_
 rotate_left
 · (intro w hSw; (try dsimp only at hSw); first | (go_simp; done) | (go_simp; with_reducible rfl))
 try simp only[Act.put,qg,qe,qf,qd,qh,qi]
 refine wpAnyT_take (i:=23) (v:=?_) rfl (by kernel_rfl) (by kernel_rfl) (by kernel_rfl) (by kernel_rfl) (fun _ _ _ h=>h) (Or.inl ⟨by rfl,?_⟩) (by assumption) ?_
 rotate_left
 · (intro w hSw; (try dsimp only at hSw); first | (go_simp; done) | (go_simp; with_reducible rfl))
 try simp only[Act.put,qg,qe,qf,qd,qh,qi]
 clear hHeld;have hbA:Below W6.heap.size W6 (V3.alloc (Obj.cells #[.int .u8 1,.int .u8 2] 22)):=hbV3.trans ((below_box _).mono hbV3.size);have hra:=rd_two V3 .u8 22 1 2;refine wpAnyT_step (i:=24) (by kernel_rfl) rfl (fun K hK=>?_);go_simp;refine hK.out _ _ (HKT.out _ hbA) ?_;clear hK K
 try simp only[Act.put,qg,qe,qf,qd,qh,qi]
 generalize V3.alloc (Obj.cells #[.int .u8 1,.int .u8 2] 22)=V4 at hbA hra ⊢;refine wpAnyT_step (i:=25) (by kernel_rfl) rfl (fun K hK=>?_)
 (go_simp; refine(equalM_any D2 nd2 cd2 [1,2] _ 2 2 [1,2] V4 ((Hms.out.below hbA).more hbA.size) hra).mono ?_; rintro e V5 ⟨rfl,hb5⟩; have hbV5:=hbA.trans (hb5.mono hbA.size); clear hb5)
 refine hK.out _ _ (HKT.out _ hbV5) ?_;clear hK K
 try simp only[Act.put,qg,qe,qf,qd,qh,qi]
 have hHeld:=HKT.out _ hbV5
 refine wpAnyT_take (i:=26) (v:=?_) rfl (by kernel_rfl) (by kernel_rfl) (by kernel_rfl) (by kernel_rfl) (fun _ _ _ h=>h) (Or.inl ⟨by rfl,?_⟩) (by assumption) ?_
 rotate_left
 · (intro w hSw; (try dsimp only at hSw); first | (go_simp; done) | (go_simp; with_reducible rfl))
 try simp only[Act.put,qg,qe,qf,qd,qh,qi]
 have hend:=Hhb.out.trans (hbV5.mono Hhb.out.size);clear hHeld hbV5 hbA hra hbV3 hbV2 hbV1 hbd;refine wpAnyT_seq 27 (by omega) (by rfl) (by kernel_rfl) ?_;simp only[List.drop_succ_cons,List.drop_zero];go_wp2_with fail;refine NoPanic.normal ?_;go_wp2_with fail;go_ret;exact⟨rfl,hend⟩
def rangeI (n:Nat):List Int:=(List.range n).map fun i:Nat=>(i:Int)
theorem OkSch.vars {s:SchD} (h:OkSch s):varsT s.t=rangeI (varsT s.t).length:=by
 have:=canT_vars (mayTE_may h.may);rwa [h.can] at this
theorem OkSch.ms {s:SchD} (h:OkSch s):multsT s.t=rangeI (multsT s.t).length:=by
 have:=canT_mults (mayTE_may h.may);rwa [h.can] at this
theorem OkSch.var {s:SchD} (h:OkSch s) {i:Nat} (hi:i<(varsT s.t).length):(i:Int)∈allV s.t:=by
 rw[← mem_vars,h.vars];exact List.mem_map.2 ⟨i,List.mem_range.2 hi,rfl⟩
theorem OkSch.mu_ {s:SchD} (h:OkSch s) {i:Nat} (hi:i<(multsT s.t).length):(i:Int)∈allM s.t:=by
 rw[← mem_mults,h.ms];exact List.mem_map.2 ⟨i,List.mem_range.2 hi,rfl⟩
theorem OkSch.of_mu {s:SchD} (h:OkSch s) {n:Int} (hn:n∈allM s.t):∃ i:Nat,i<(multsT s.t).length∧n=(i:Int):=by
 rw[← mem_mults,h.ms] at hn;obtain⟨i,hi,rfl⟩:=List.mem_map.1 hn
 exact⟨i,by have:=List.mem_range.1 hi; exact this,rfl⟩
theorem puts_of {s:SchD} {u:TyD} (hs:OkSch s) (hu:mayT u=true) {fv:Int→Option TyD} {fm:Int→Int × Int} (h:turnT fv fm s.t=u):
 (putsE s u).1=true∧typesE (varsT s.t).length (putsE s u).2=(List.range (varsT s.t).length).map (fun i:Nat=>(fv i).getD (plainV i))∧multsE (multsT s.t).length (putsE s u).2=(List.range (multsT s.t).length).map fun i:Nat=>(fm i).2:=by
 have hm:=mayTE_may hs.may;have hp:=match_puts hm hu h;refine⟨(match_iff hm hu).2 ⟨_,_,h⟩,?_,?_⟩
 · unfold typesE putsE
   refine List.map_congr_left fun i hi=>?_;rw[hp.1 i (hs.var (List.mem_range.1 hi))];rfl
 · unfold multsE putsE
   refine List.map_congr_left fun i hi=>?_;rw[hp.2 i (hs.mu_ (List.mem_range.1 hi))];rfl
def putsM (n:Nat) (fm:Int→Int × Int):List Int:=(List.range n).map fun i:Nat=>(fm i).2
theorem inst_iff {s:SchD} {u:TyD} (hs:OkSch s):InstE s u↔mayTE u=0∧∃ fv fm,turnT fv fm s.t=u∧LetsA (multsT s.t).length s.tab (putsM (multsT s.t).length fm):=by
 constructor
 · rintro⟨h1,h2,h3⟩
   have hm:=mayTE_may hs.may;have hu:=mayTE_may h1;have hk:=match_made hm hu h2;obtain⟨_,_,e3⟩:=puts_of hs hu hk.turn;refine⟨h1,_,_,hk.turn,?_⟩;unfold putsM;rw[← e3];exact h3
 · rintro⟨h1,fv,fm,h2,h3⟩
   obtain⟨e1,_,e3⟩:=puts_of hs (mayTE_may h1) h2;refine⟨h1,e1,?_⟩;rw[e3];exact h3
def muL (m:List Int):List (Int × Int):=m.map fun c=>(0,c)
def atM (t:TyD) (m:List Int):TyD:=turnT (fun _=>none) (putM (muL m)) t
theorem putM_mu {m:List Int} {i:Nat} (hi:i<m.length):putM (muL m) (i:Nat)=(0,m.getD i 0):=by
 unfold putM muL
 rw[if_pos (by simp; omega),List.getD_eq_getElem?_getD,List.getElem?_map,Int.toNat_natCast,qj hi,List.getD_eq_getElem?_getD,qj hi]
 rfl
theorem turn_nodes (fm:Int→Int × Int) {t:TyD} (ht:mayT t=true):nodes (turnT (fun _=>none) fm t)=nodes t:=by
 revert ht
 induction t using ty_ind with
 | h t ih=>
   intro ht;have fa:=may_facts ht;rw[turnT_eq]
   by_cases hk:t.k=1
   · rw[if_pos hk]; rfl
   · rw[if_neg hk,nodes_eq t,nodes_eq (.mk _ _ _ _ _)]
     have:=nodesL_map_congr (f:=turnT (fun _=>none) fm) (g:=id) (l:=t.l) (fun x hx=>ih x hx (fa.2.2.2.2.2.2 x hx));rw[List.map_id] at this;show 1+nodes.nodesL (t.l.map (turnT (fun _=>none) fm))=_;rw[this]
theorem mayTE_of {t u:TyD} (h:mayTE t=0) (hu:mayT u=true) (hn:nodes u=nodes t):mayTE u=0:=by
 have hs:sizeW u=sizeW t:=by unfold sizeW; rw[hn]
 unfold mayTE at h ⊢;rw[hs,hu]
 split at h
 · omega
 · rename_i h11
   rw[if_neg h11,if_pos rfl]
theorem isB_lc {c:Int} (h:1≤c∧c≤3):isB c 0=true:=by
 unfold isB oneB;simp only[Bool.or_eq_true,Bool.and_eq_true,decide_eq_true_eq,beq_iff_eq];exact .inr ⟨h,trivial⟩
theorem lets_at {k:Nat} {t:TabD} {m:List Int} (h:LetsA k t m) {i:Nat} (hi:i<k):1≤m.getD i 0∧m.getD i 0≤3:=noneB_rng h.2.1 i (by rw[h.1]; exact hi)
theorem atM_may {s:SchD} (hs:OkSch s) {m:List Int} (hm:LetsA (multsT s.t).length s.tab m):mayTE (atM s.t m)=0:=by
 have ht:=mayTE_may hs.may
 refine mayTE_of hs.may (turn_may ht (fun n _ u h=>by cases h) fun v hv=>?_) (turn_nodes _ ht)
 obtain⟨i,hi,rfl⟩:=hs.of_mu hv
 rw[putM_mu (by rw[hm.1]; exact hi)]
 exact isB_lc (lets_at hm hi)
theorem putsM_mu {m:List Int} {n:Nat} (h:m.length=n):putsM n (putM (muL m))=m:=by
 unfold putsM;refine List.ext_getElem (by simp[h]) fun i h1 h2=>?_;rw[List.getElem_map,List.getElem_range,putM_mu h2,List.getD_eq_getElem?_getD,qj h2];rfl
structure MoreE (a b:SchD):Prop where
 ha:OkSch a
 hb:OkSch b
 all:∀ m,LetsA (multsT b.t).length b.tab m→InstE a (atM b.t m)
theorem turn_isB {fv:Int→Option TyD} {fm:Int→Int × Int} {t:TyD} (ht:mayT t=true) (h:mayT (turnT fv fm t)=true):∀ v∈allM t,isB (fm v).2 (fm v).1=true:=by
 revert ht h
 induction t using ty_ind with
 | h t ih=>
   intro ht h v hv;have ft:=may_facts ht;rw[turnT_eq] at h
   by_cases hk:t.k=1
   · rw[may_var ht hk,allM_plainV] at hv
     cases hv
   · rw[if_neg hk] at h
     rcases allM_mem ht hv with ⟨h7,hc,rfl⟩ | ⟨x,hx,hv⟩
     · have:=may_mu h
       change isB (if t.k=7∧t.c=0 then (fm t.v).2 else t.c) (if t.k=7∧t.c=0 then (fm t.v).1 else t.v)=true at this
       rw[if_pos ⟨h7,hc⟩,if_pos ⟨h7,hc⟩] at this;exact this
     · exact ih x hx (ft.2.2.2.2.2.2 x hx) ((may_facts h).2.2.2.2.2.2 _ (List.mem_map.2 ⟨x,hx,rfl⟩)) v hv
theorem isB_const {c v:Int} (h:isB c v=true) (h1:1≤c):v=0:=by
 unfold isB at h;simp only[Bool.or_eq_true,Bool.and_eq_true,beq_iff_eq,decide_eq_true_eq] at h;omega
theorem puts_lets {s:SchD} {u:TyD} (hs:OkSch s) (hu:mayT u=true) {fv:Int→Option TyD} {fm:Int→Int × Int} (h:turnT fv fm s.t=u) (hl:LetsA (multsT s.t).length s.tab (putsM (multsT s.t).length fm)) {i:Nat} (hi:i<(multsT s.t).length):
 fm (i:Nat)=(0,(putsM (multsT s.t).length fm).getD i 0)∧1≤(fm (i:Nat)).2:=by
 have h1:=lets_at hl hi
 have e1:(putsM (multsT s.t).length fm).getD i 0=(fm (i:Nat)).2:=by
  unfold putsM;rw[List.getD_eq_getElem?_getD,List.getElem?_map,List.getElem?_range hi];rfl
 rw[e1] at h1 ⊢
 have h2:=turn_isB (mayTE_may hs.may) (by rw[h]; exact hu) _ (hs.mu_ hi)
 have h3:=isB_const h2 h1.1;exact⟨Prod.ext h3 rfl,h1.1⟩
theorem MoreE.inst {a b:SchD} (h:MoreE a b) {u:TyD} (hu:InstE b u):InstE a u:=by
 obtain⟨ha,hb,hall⟩:=h;obtain⟨h1,fv,fm,h2,h3⟩:=(inst_iff hb).1 hu;have hum:=mayTE_may h1;have hbm:=mayTE_may hb.may;obtain⟨_,gv,gm,g2,g3⟩:=(inst_iff ha).1 (hall _ h3);have hma:mayT (atM b.t (putsM (multsT b.t).length fm))=true:=mayTE_may (atM_may hb h3)
 have hue:u=turnT fv (fun v=>(v,0)) (atM b.t (putsM (multsT b.t).length fm)):=by
  unfold atM;rw[turn_turn,← h2];refine turn_congr hbm (fun n hn=>rfl) fun v hv=>?_;obtain⟨i,hi,rfl⟩:=hb.of_mu hv
  rw[putM_mu (by rw[h3.1]; exact hi)]
  have:=puts_lets hb hum h2 h3 hi;rw[← this.1];rw[if_neg (by omega)]
 refine(inst_iff ha).2 ⟨h1,_,_,by rw[hue,← g2,turn_turn],?_⟩
 have:putsM (multsT a.t).length (fun v=>if (gm v).2=0 then ((gm v).1,0) else gm v)=putsM (multsT a.t).length gm:=by
  unfold putsM;refine List.map_congr_left fun i hi=>?_;have:=(puts_lets ha hma g2 g3 (List.mem_range.1 hi)).2;show(if (gm (i:Nat)).2=0 then ((gm (i:Nat)).1,0) else gm (i:Nat)).2=_;rw[if_neg (by omega)]
 rw[this];exact g3
theorem MoreE.refl {a:SchD} (h:OkSch a):MoreE a a:=
 ⟨h,h,fun m hm=>(inst_iff h).2 ⟨atM_may h hm,_,_,rfl,by rw[putsM_mu hm.1]; exact hm⟩⟩
theorem MoreE.trans {a b c:SchD} (h:MoreE a b) (h':MoreE b c):MoreE a c:=⟨h.ha,h'.hb,fun m hm=>h.inst (h'.all m hm)⟩
end Go.Proofs.YtdmakpmbknindaaGreatDoor
