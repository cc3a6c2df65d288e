import Derived.Test.YtgpeijkjmkocgaaDoorM12
import Derived.Test.YtgpeijkjmkocgaaDoorM7
set_option linter.unusedVariables false
set_option linter.unusedSimpArgs false
set_option maxHeartbeats 4000000
set_option maxRecDepth 100000
namespace Go.Proofs.YtgpeijkjmkocgaaDoor
open Go.RowKit
def wholeN (ds:List DataD) (ps:Int) (k n c:Int) (m:Nat):Bool:=
 if k=1 then decide (n<ps) else if k=7 then !(c==0) else if k=8 then decide (n<ds.length)&&((m:Int)==((ds[n.toNat]?).map DataD.params).getD 0) else true
def wholeT (ds:List DataD) (ps:Int):TyD→Bool
 | .mk k n _ c l=>wholeN ds ps k n c l.length&&wholeL l
where wholeL:List TyD→Bool
 | []=>true
 | t :: r=>wholeT ds ps t&&wholeL r
theorem wholeL_all (ds:List DataD) (ps:Int) (l:List TyD):wholeT.wholeL ds ps l=l.all (wholeT ds ps):=by
 induction l with
 | nil=>rfl
 | cons t r ih=>rw[wholeT.wholeL,ih,List.all_cons]
theorem wholeT_eq (ds:List DataD) (ps:Int) (t:TyD):wholeT ds ps t=(wholeN ds ps t.k t.n t.c t.l.length&&t.l.all (wholeT ds ps)):=by
 cases t; rw[wholeT,wholeL_all]; rfl
theorem wholeT_no {ds:List DataD} {ps:Int} {t:TyD} (h:wholeN ds ps t.k t.n t.c t.l.length=false):wholeT ds ps t=false:=by rw[wholeT_eq,h]; rfl
theorem wholeT_yes {ds:List DataD} {ps:Int} {t:TyD} (h:wholeN ds ps t.k t.n t.c t.l.length=true):wholeT ds ps t=!(t.l.any fun x=>!wholeT ds ps x):=by
 rw[wholeT_eq,h,Bool.true_and,Bool.eq_iff_iff];simp[List.all_eq_true,List.any_eq_true]
structure WhB (w:World) (Ad:Option Addr) (nd cd:Nat) (A2:Option Addr) (n2 c2:Nat) (k n v c:Int) (A:Option Addr) (m cp:Nat) (ps:Int) (W:World):Prop where
 b0:Blk W w.heap.size 25 #[.slice Ad nd cd,.slice A2 n2 c2]
 b1:Blk W (w.heap.size+1) 63 #[.int .u8 k,.int .i64 n,.int .i64 v,.int .u8 c,.slice A m cp]
 b2:Blk W (w.heap.size+1+1) 3 #[.int .i64 ps]
 bel:Below w.heap.size w W
theorem WhB.make (w:World) (Ad:Option Addr) (nd cd:Nat) (A2:Option Addr) (n2 c2:Nat) (k n v c:Int) (A:Option Addr) (m cp:Nat) (ps:Int):∃ W,((w.alloc (Obj.cells #[.slice Ad nd cd,.slice A2 n2 c2] 25)).alloc (Obj.cells #[.int .u8 k,.int .i64 n,.int .i64 v,.int .u8 c,.slice A m cp] 63)).alloc (Obj.cells #[.int .i64 ps] 3)=W∧WhB w Ad nd cd A2 n2 c2 k n v c A m cp ps W:=by
 obtain⟨W1,h1⟩:∃ x,w.alloc (Obj.cells #[.slice Ad nd cd,.slice A2 n2 c2] 25)=x:=⟨_,rfl⟩
 have s1:W1.heap.size=w.heap.size+1:=by rw[← h1]; simp
 have k1:=blk_new w #[.slice Ad nd cd,.slice A2 n2 c2] 25;have g1:=below_box (w:=w) (Obj.cells #[.slice Ad nd cd,.slice A2 n2 c2] 25);rw[h1] at k1 g1 ⊢;obtain⟨W2,h2⟩:∃ x,W1.alloc (Obj.cells #[.int .u8 k,.int .i64 n,.int .i64 v,.int .u8 c,.slice A m cp] 63)=x:=⟨_,rfl⟩
 have s2:W2.heap.size=w.heap.size+1+1:=by rw[← h2,← s1]; simp
 have k2:=blk_new W1 #[.int .u8 k,.int .i64 n,.int .i64 v,.int .u8 c,.slice A m cp] 63;have g2:=below_box (w:=W1) (Obj.cells #[.int .u8 k,.int .i64 n,.int .i64 v,.int .u8 c,.slice A m cp] 63);rw[h2,s1] at k2;rw[h2] at g2 ⊢;have k3:=blk_new W2 #[.int .i64 ps] 3;have g3:=below_box (w:=W2) (Obj.cells #[.int .i64 ps] 3);rw[s2] at k3
 have k2':=k2.below g3 (by rw[s2]; omega)
 have k1':=(k1.below g2 k1.lt).below g3 (k1.below g2 k1.lt).lt;exact⟨_,rfl,k1',k2',k3,(g1.trans (g2.mono g1.size)).trans (g3.mono (g1.trans (g2.mono g1.size)).size)⟩
theorem WhB.below {w W W':World} {Ad:Option Addr} {nd cd:Nat} {A2:Option Addr} {n2 c2:Nat} {k n v c:Int} {A:Option Addr} {m cp:Nat} {ps:Int} (h:WhB w Ad nd cd A2 n2 c2 k n v c A m cp ps W) (hb:Below W.heap.size W W'):WhB w Ad nd cd A2 n2 c2 k n v c A m cp ps W':=
 ⟨h.b0.below hb h.b0.lt,h.b1.below hb h.b1.lt,h.b2.below hb h.b2.lt,h.bel.trans (hb.mono h.bel.size)⟩
theorem whole1_any (ds:List DataD) (ps:Int) (Ad:Option Addr) (nd cd:Nat) (A2:Option Addr) (n2 c2:Nat) (g0 g2:Nat) (t:TyD) (r:Bool) (A:Option Addr) (m cp:Nat) (w:World) (h0:Blk w g0 25 #[.slice Ad nd cd,.slice A2 n2 c2]) (h2:Blk w g2 3 #[.int .i64 ps])
  (hq:∀ w',Below w.heap.size w w'→Calls Tryd.prog 55 #[.agg #[.slice Ad nd cd,.slice A2 n2 c2],.agg #[.int .u8 t.k,.int .i64 t.n,.int .i64 t.v,.int .u8 t.c,.slice A m cp],.int .i64 ps] w' fun e w''=>e=.returned (.bool r)∧Below w'.heap.size w' w''):
  Calls Tryd.prog 84 (#[.agg #[.int .u8 t.k,.int .i64 t.n,.int .i64 t.v,.int .u8 t.c,.slice A m cp]]++#[.pointer (some ⟨g0,0,none⟩),.pointer (some ⟨g2,0,none⟩)]) w fun e w'=>e=.returned (.bool (!r))∧Below w.heap.size w w':=by
 have hbx:=below_box (w:=w) (Obj.cells #[.int .u8 t.k,.int .i64 t.n,.int .i64 t.v,.int .u8 t.c,.slice A m cp] 63);have hkx:=blk_new w #[.int .u8 t.k,.int .i64 t.n,.int .i64 t.v,.int .u8 t.c,.slice A m cp] 63;obtain⟨W,hW⟩:∃ q,w.alloc (Obj.cells #[.int .u8 t.k,.int .i64 t.n,.int .i64 t.v,.int .u8 t.c,.slice A m cp] 63)=q:=⟨_,rfl⟩;rw[hW] at hbx hkx;have k0:=h0.below hbx h0.lt;have k2:=h2.below hbx h2.lt;have x0:W.cell? ⟨g0,0,none⟩=some (.slice Ad nd cd):=k0.cell 0;have x1:W.cell? ⟨g0,1,none⟩=some (.slice A2 n2 c2):=k0.cell 1;have z0:W.cell? ⟨g2,0,none⟩=some (.int .i64 ps):=k2.cell 0;have y0:W.cell? ⟨w.heap.size,0,none⟩=some (.int .u8 t.k):=hkx.cell 0;have y1:W.cell? ⟨w.heap.size,1,none⟩=some (.int .i64 t.n):=hkx.cell 1;have y2:W.cell? ⟨w.heap.size,2,none⟩=some (.int .i64 t.v):=hkx.cell 2;have y3:W.cell? ⟨w.heap.size,3,none⟩=some (.int .u8 t.c):=hkx.cell 3;have y4:W.cell? ⟨w.heap.size,4,none⟩=some (.slice A m cp):=hkx.cell 4;have Hq:=qq (hq W hbx);have HW:=qq hW;have Hb:=qq hbx;clear hq hW hbx hkx k0 k2 h0 h2
 go_enter Tryd.func84,Tryd.ntmps84
 go_upto_region 1 with fail;rw[HW.out];go_wp2_with fail;clear x0 x1 z0 y0 y1 y2 y3 y4;refine Hq.out.mono ?_;rintro e w1 ⟨rfl,hb1⟩;have Hb2:=qq (Hb.out.trans (hb1.mono Hb.out.size));clear hb1;go_wp2_with fail;go_ret;exact⟨rfl,Hb2.out⟩
theorem whole_go (ds:List DataD) (ps:Int) (Ad:Option Addr) (nd cd:Nat) (A2:Option Addr) (n2 c2:Nat) (N:Nat):∀ (t:TyD),nodes t≤N→mayT t=true→∀ (A:Option Addr) (m cp:Nat) (w:World),TysV w w.heap.size A m cp t.l→Sl w (Lt w.heap.size) encDt 3 ds Ad nd cd →
  Calls Tryd.prog 55 #[.agg #[.slice Ad nd cd,.slice A2 n2 c2],.agg #[.int .u8 t.k,.int .i64 t.n,.int .i64 t.v,.int .u8 t.c,.slice A m cp],.int .i64 ps] w fun e w'=>e=.returned (.bool (wholeT ds ps t))∧Below w.heap.size w w':=by
 induction N with
 | zero=>intro t hN; exact absurd hN (by rw[nodes_eq t]; omega)
 | succ N ih=>
   intro t hN hmay A m cp w hl hd;have hn0:=mayT_n hmay;have hlen:t.l.length=m:=hl.len;have hnd:=hd.len;have d63:=hd.cap;have HMk:Hid (∀ i (h:i<t.l.length),mayT t.l[i]=true):=qq fun i h=>mayT_kid hmay h
   have HNk:Hid (∀ i (h:i<t.l.length),nodes t.l[i]≤N):=qq fun i h=>by have:=nodes_get h; omega
   obtain⟨W,hW,hB⟩:=WhB.make w Ad nd cd A2 n2 c2 t.k t.n t.v t.c A m cp ps;have HW:=qq hW;have HL:=qq hl;have HD:=qq hd;have Ih:=qq ih;have Hlen:=qq hlen;have HB:=qq hB;clear hW hB hl ih hmay hN hlen;obtain⟨x0,x1⟩:W.cell? ⟨w.heap.size,0,none⟩=some (.slice Ad nd cd)∧W.cell? ⟨w.heap.size,1,none⟩=some (.slice A2 n2 c2):=⟨(HB.out).b0.cell 0,(HB.out).b0.cell 1⟩;obtain⟨y0,y1,y2,y3,y4⟩:W.cell? ⟨w.heap.size+1,0,none⟩=some (.int .u8 t.k)∧W.cell? ⟨w.heap.size+1,1,none⟩=some (.int .i64 t.n)∧W.cell? ⟨w.heap.size+1,2,none⟩=some (.int .i64 t.v)∧W.cell? ⟨w.heap.size+1,3,none⟩=some (.int .u8 t.c)∧W.cell? ⟨w.heap.size+1,4,none⟩=some (.slice A m cp):=⟨(HB.out).b1.cell 0,(HB.out).b1.cell 1,(HB.out).b1.cell 2,(HB.out).b1.cell 3,(HB.out).b1.cell 4⟩;have z0:W.cell? ⟨w.heap.size+1+1,0,none⟩=some (.int .i64 ps):=(HB.out).b2.cell 0
   by_cases h1:t.k=1
   · have e1:(t.k==1)=true:=by simp[h1]
     have e7:(t.k==7)=false:=by simp[h1]
     have e8:(t.k==8)=false:=by simp[h1]
     by_cases hn:t.n<ps
     · have b1:decide (t.n≥ps)=false:=by simp; omega
       have HWn:Hid (wholeN ds ps t.k t.n t.c t.l.length=true):=qq (by unfold wholeN; rw[if_pos h1]; simpa using hn)
       clear h1 hn hd
       go_enter Tryd.func55,Tryd.ntmps55
       go_upto_region 1 with fail;rw[HW.out];go_upto_region 5 with fail;refine wp_region_noPanic ?_;refine wp_region_T (fun w'=>w'.cell? ⟨w.heap.size,0,none⟩=some (.slice Ad nd cd)∧w'.cell? ⟨w.heap.size+1,0,none⟩=some (.int .u8 t.k)∧w'.cell? ⟨w.heap.size+1,1,none⟩=some (.int .i64 t.n)∧w'.cell? ⟨w.heap.size+1,4,none⟩=some (.slice A m cp)) 24 (by kernel_rfl) (⟨x0,y0,y1,y4⟩) (fun hHeld=>?_);have hbd:Below W.heap.size W W.drew:=Below.drew (Below.refl _ _);have HB2:=qq (HB.out.below hbd);clear x0 x1 y0 y1 y2 y3 y4 z0;clear hbd;generalize W.drew=W2 at hHeld HB2 ⊢;refine nx0 0 ?_
       iterate 4 (refine nxD (v:=?_) rfl (by kernel_rfl) (fun _ _ _ h=>h) (by kernel_rfl) ?_ (by assumption) ?_; rotate_left; (focus (intro w hSw; (try dsimp only at hSw); first | (go_simp; done) | (go_simp; with_reducible rfl))); try simp only[Act.put,qg,qe,qf,qd,qh,qi,Nat.reduceAdd])
       refine nx9 ?_;refine nx0 4 ?_
       iterate 19 (refine nxkD rfl (by kernel_rfl) (fun _ _ _ h=>h) (by kernel_rfl) (by assumption) ?_; try simp only[Act.put,qg,qe,qf,qd,qh,qi,Nat.reduceAdd])
       refine nx9 ?_;refine nx0 23 ?_
       iterate 1 (refine nxD (v:=?_) rfl (by kernel_rfl) (fun _ _ _ h=>h) (by kernel_rfl) ?_ (by assumption) ?_; rotate_left; (focus (intro w hSw; (try dsimp only at hSw); first | (go_simp; done) | (go_simp; with_reducible rfl))); try simp only[Act.put,qg,qe,qf,qd,qh,qi,Nat.reduceAdd])
       refine nx9 ?_;clear hHeld;refine wpAnyT_seq 24 (by omega) (by rfl) (by kernel_rfl) ?_;simp only[List.drop_succ_cons,List.drop_zero];go_wp2_with fail;refine NoPanic.normal ?_;have hl9:=(HL.out.below (HB2.out).bel).more (HB2.out).bel.size;have hd9:=HD.out.fresh (HB2.out).bel;have y4:(W2).cell? ⟨w.heap.size+1,4,none⟩=some (.slice A m cp):=(HB2.out).b1.cell 4;obtain⟨r,hr⟩:∃ q,(t.l.any fun x=>!wholeT ds ps x)=q:=⟨_,rfl⟩
       have hct:=containsG (fun x=>!wholeT ds ps x) 84 #[.pointer (some ⟨w.heap.size,0,none⟩),.pointer (some ⟨w.heap.size+1+1,0,none⟩)] (fun _ _=>rfl) A m cp t.l (W2) hl9 (fun i hi A' m' c' w' hb' hl'=>by
        have h9:=(HB2.out).below hb'
        exact whole1_any ds ps _ nd cd A2 n2 c2 w.heap.size (w.heap.size+1+1) t.l[i] (wholeT ds ps t.l[i]) A' m' c' w' h9.b0 h9.b2 (fun w'' hb''=>Ih.out t.l[i] (HNk.out i hi) (HMk.out i hi) A' m' c' w'' ((hl'.below hb'').more hb''.size) ((HD.out.fresh h9.bel).fresh hb''))) r hr
       have Hct:=qq hct;have HR:Hid (wholeT ds ps t=!r):=qq (by rw[wholeT_yes HWn.out,hr]);clear hct hl9 hd9 hr;go_wp2_with fail;clear y4;refine Hct.out.mono ?_;rintro e w9 ⟨rfl,hb9⟩;have HbF:=qq ((HB2.out).bel.trans (hb9.mono (HB2.out).bel.size));clear hb9;go_wp2_with fail;go_ret
       exact⟨by rw[HR.out]; rfl,HbF.out⟩
     · have b1:decide (t.n≥ps)=true:=by simp; omega
       have HR:Hid (wholeT ds ps t=false):=qq (wholeT_no (by unfold wholeN; rw[if_pos h1]; simpa using hn))
       clear h1 hn hd
       go_enter Tryd.func55,Tryd.ntmps55
       go_upto_region 1 with fail;rw[HW.out];go_wp2_with fail;clear x0 x1 y0 y1 y2 y3 y4 z0;go_ret
       exact⟨by rw[HR.out]; rfl,HB.out.bel⟩
   · have e1:(t.k==1)=false:=by simpa using h1
     by_cases h7:t.k=7
     · have e7:(t.k==7)=true:=by simp[h7]
       have e8:(t.k==8)=false:=by simp[h7]
       by_cases hc:t.c=0
       · have b1:(t.c==0)=true:=by simp[hc]
         have HR:Hid (wholeT ds ps t=false):=qq (wholeT_no (by unfold wholeN; rw[if_neg h1,if_pos h7,b1]; rfl))
         clear h1 h7 hc hd
         go_enter Tryd.func55,Tryd.ntmps55
         go_upto_region 1 with fail;rw[HW.out];go_wp2_with fail;clear x0 x1 y0 y1 y2 y3 y4 z0;go_ret
         exact⟨by rw[HR.out]; rfl,HB.out.bel⟩
       · have b1:(t.c==0)=false:=by simpa using hc
         have HWn:Hid (wholeN ds ps t.k t.n t.c t.l.length=true):=qq (by unfold wholeN; rw[if_neg h1,if_pos h7,b1]; rfl)
         clear h1 h7 hc hd
         go_enter Tryd.func55,Tryd.ntmps55
         go_upto_region 1 with fail;rw[HW.out];go_upto_region 5 with fail;refine wp_region_noPanic ?_;refine wp_region_T (fun w'=>w'.cell? ⟨w.heap.size,0,none⟩=some (.slice Ad nd cd)∧w'.cell? ⟨w.heap.size+1,0,none⟩=some (.int .u8 t.k)∧w'.cell? ⟨w.heap.size+1,1,none⟩=some (.int .i64 t.n)∧w'.cell? ⟨w.heap.size+1,4,none⟩=some (.slice A m cp)) 24 (by kernel_rfl) (⟨x0,y0,y1,y4⟩) (fun hHeld=>?_);have hbd:Below W.heap.size W W.drew:=Below.drew (Below.refl _ _);have HB2:=qq (HB.out.below hbd);clear x0 x1 y0 y1 y2 y3 y4 z0;clear hbd;generalize W.drew=W2 at hHeld HB2 ⊢;refine nx0 0 ?_
         iterate 4 (refine nxD (v:=?_) rfl (by kernel_rfl) (fun _ _ _ h=>h) (by kernel_rfl) ?_ (by assumption) ?_; rotate_left; (focus (intro w hSw; (try dsimp only at hSw); first | (go_simp; done) | (go_simp; with_reducible rfl))); try simp only[Act.put,qg,qe,qf,qd,qh,qi,Nat.reduceAdd])
         refine nx9 ?_;refine nx0 4 ?_
         iterate 19 (refine nxkD rfl (by kernel_rfl) (fun _ _ _ h=>h) (by kernel_rfl) (by assumption) ?_; try simp only[Act.put,qg,qe,qf,qd,qh,qi,Nat.reduceAdd])
         refine nx9 ?_;refine nx0 23 ?_
         iterate 1 (refine nxD (v:=?_) rfl (by kernel_rfl) (fun _ _ _ h=>h) (by kernel_rfl) ?_ (by assumption) ?_; rotate_left; (focus (intro w hSw; (try dsimp only at hSw); first | (go_simp; done) | (go_simp; with_reducible rfl))); try simp only[Act.put,qg,qe,qf,qd,qh,qi,Nat.reduceAdd])
         refine nx9 ?_;clear hHeld;refine wpAnyT_seq 24 (by omega) (by rfl) (by kernel_rfl) ?_;simp only[List.drop_succ_cons,List.drop_zero];go_wp2_with fail;refine NoPanic.normal ?_;have hl9:=(HL.out.below (HB2.out).bel).more (HB2.out).bel.size;have hd9:=HD.out.fresh (HB2.out).bel;have y4:(W2).cell? ⟨w.heap.size+1,4,none⟩=some (.slice A m cp):=(HB2.out).b1.cell 4;obtain⟨r,hr⟩:∃ q,(t.l.any fun x=>!wholeT ds ps x)=q:=⟨_,rfl⟩
         have hct:=containsG (fun x=>!wholeT ds ps x) 84 #[.pointer (some ⟨w.heap.size,0,none⟩),.pointer (some ⟨w.heap.size+1+1,0,none⟩)] (fun _ _=>rfl) A m cp t.l (W2) hl9 (fun i hi A' m' c' w' hb' hl'=>by
          have h9:=(HB2.out).below hb'
          exact whole1_any ds ps _ nd cd A2 n2 c2 w.heap.size (w.heap.size+1+1) t.l[i] (wholeT ds ps t.l[i]) A' m' c' w' h9.b0 h9.b2 (fun w'' hb''=>Ih.out t.l[i] (HNk.out i hi) (HMk.out i hi) A' m' c' w'' ((hl'.below hb'').more hb''.size) ((HD.out.fresh h9.bel).fresh hb''))) r hr
         have Hct:=qq hct;have HR:Hid (wholeT ds ps t=!r):=qq (by rw[wholeT_yes HWn.out,hr]);clear hct hl9 hd9 hr;go_wp2_with fail;clear y4;refine Hct.out.mono ?_;rintro e w9 ⟨rfl,hb9⟩;have HbF:=qq ((HB2.out).bel.trans (hb9.mono (HB2.out).bel.size));clear hb9;go_wp2_with fail;go_ret
         exact⟨by rw[HR.out]; rfl,HbF.out⟩
     · have e7:(t.k==7)=false:=by simpa using h7
       by_cases h8:t.k=8
       · have e8:(t.k==8)=true:=by simp[h8]
         obtain⟨j,hj⟩:∃ j:Nat,t.n=j:=⟨t.n.toNat,by omega⟩
         by_cases hjn:j<nd
         · have b1:decide (t.n≥(nd:Int))=false:=by simp; omega
           obtain⟨b,off,rfl,hbS,hcs⟩:=datas_at hd (by omega);obtain⟨_,q1,_⟩:=hcs j (by omega);have q2:W.cell? ⟨b,off+j * 3+1,none⟩=some (.int .i64 ds[j].params):=(HB.out.bel.cell (p:=⟨b,off+j * 3+1,none⟩) hbS).trans q1
           have hpr:((ds[t.n.toNat]?).map DataD.params).getD 0=ds[j].params:=by rw[hj,Int.toNat_natCast,qj (by omega)]; rfl
           obtain⟨pv,hpv⟩:∃ q,ds[j].params=q:=⟨_,rfl⟩;rw[hpv] at hpr q2
           have k1:(0:Int)≤(j:Int):=by omega
           have k2:(j:Int)<nd:=by omega
           have hdl:j<ds.length:=by omega
           by_cases hm:(m:Int)=pv
           · have b2:((m:Int) != pv)=false:=by simp[hm]
             have HWn:Hid (wholeN ds ps t.k t.n t.c t.l.length=true):=qq (by unfold wholeN; rw[if_neg h1,if_neg h7,if_pos h8,hpr,Hlen.out]; simp[hm]; omega)
             rw[hj] at y1 b1
             have b1':decide ((nd:Int)≤(j:Int))=false:=by simp; omega
             have b1n:decide (nd≤j)=false:=by simp; omega
             have hWj:=HW.out;rw[hj] at hWj;replace HW:=qq hWj;clear hWj;clear h1 h7 h8 hm hcs q1 hpr hpv hd
             go_enter Tryd.func55,Tryd.ntmps55
             go_upto_region 1 with fail;rw[HW.out];go_upto_region 5 with fail;refine wp_region_noPanic ?_;refine wp_region_T (fun w'=>w'.cell? ⟨w.heap.size,0,none⟩=some (.slice (some ⟨b,off,none⟩) nd cd)∧w'.cell? ⟨w.heap.size+1,0,none⟩=some (.int .u8 t.k)∧w'.cell? ⟨w.heap.size+1,1,none⟩=some (.int .i64 (j:Nat))∧w'.cell? ⟨w.heap.size+1,4,none⟩=some (.slice A m cp)∧w'.cell? ⟨b,off+j * 3+1,none⟩=some (.int .i64 pv)) 24 (by kernel_rfl) (⟨x0,y0,y1,y4,q2⟩) (fun hHeld=>?_);have hbd:Below W.heap.size W W.drew:=Below.drew (Below.refl _ _);have HB2:=qq (HB.out.below hbd);clear x0 x1 y0 y1 y2 y3 y4 z0;clear hbd;generalize W.drew=W2 at hHeld HB2 ⊢;refine nx0 0 ?_
             iterate 24 (refine nxD (v:=?_) rfl (by kernel_rfl) (fun _ _ _ h=>h) (by kernel_rfl) ?_ (by assumption) ?_; rotate_left; (focus (intro w hSw; (try dsimp only at hSw); first | (go_simp; done) | (go_simp; with_reducible rfl))); try simp only[Act.put,qg,qe,qf,qd,qh,qi,Nat.reduceAdd])
             refine nx9 ?_;clear hHeld;refine wpAnyT_seq 24 (by omega) (by rfl) (by kernel_rfl) ?_;simp only[List.drop_succ_cons,List.drop_zero];go_wp2_with fail;refine NoPanic.normal ?_;have hl9:=(HL.out.below (HB2.out).bel).more (HB2.out).bel.size;have hd9:=HD.out.fresh (HB2.out).bel;have y4:(W2).cell? ⟨w.heap.size+1,4,none⟩=some (.slice A m cp):=(HB2.out).b1.cell 4;obtain⟨r,hr⟩:∃ q,(t.l.any fun x=>!wholeT ds ps x)=q:=⟨_,rfl⟩
             have hct:=containsG (fun x=>!wholeT ds ps x) 84 #[.pointer (some ⟨w.heap.size,0,none⟩),.pointer (some ⟨w.heap.size+1+1,0,none⟩)] (fun _ _=>rfl) A m cp t.l (W2) hl9 (fun i hi A' m' c' w' hb' hl'=>by
              have h9:=(HB2.out).below hb'
              exact whole1_any ds ps _ nd cd A2 n2 c2 w.heap.size (w.heap.size+1+1) t.l[i] (wholeT ds ps t.l[i]) A' m' c' w' h9.b0 h9.b2 (fun w'' hb''=>Ih.out t.l[i] (HNk.out i hi) (HMk.out i hi) A' m' c' w'' ((hl'.below hb'').more hb''.size) ((HD.out.fresh h9.bel).fresh hb''))) r hr
             have Hct:=qq hct;have HR:Hid (wholeT ds ps t=!r):=qq (by rw[wholeT_yes HWn.out,hr]);clear hct hl9 hd9 hr;go_wp2_with fail;clear y4;refine Hct.out.mono ?_;rintro e w9 ⟨rfl,hb9⟩;have HbF:=qq ((HB2.out).bel.trans (hb9.mono (HB2.out).bel.size));clear hb9;go_wp2_with fail;go_ret
             exact⟨by rw[HR.out]; rfl,HbF.out⟩
           · have b2:((m:Int) != pv)=true:=by simpa using hm
             have HR:Hid (wholeT ds ps t=false):=qq (wholeT_no (by unfold wholeN; rw[if_neg h1,if_neg h7,if_pos h8,hpr,Hlen.out]; simp[hm]))
             rw[hj] at y1 b1
             have b1':decide ((nd:Int)≤(j:Int))=false:=by simp; omega
             have b1n:decide (nd≤j)=false:=by simp; omega
             have hWj:=HW.out;rw[hj] at hWj;replace HW:=qq hWj;clear hWj;clear h1 h7 h8 hm hcs q1 hpr hpv hd
             go_enter Tryd.func55,Tryd.ntmps55
             go_upto_region 1 with fail;rw[HW.out];go_upto_region 5 with fail;refine wp_region_noPanic ?_;refine wp_region_T (fun w'=>w'.cell? ⟨w.heap.size,0,none⟩=some (.slice (some ⟨b,off,none⟩) nd cd)∧w'.cell? ⟨w.heap.size+1,0,none⟩=some (.int .u8 t.k)∧w'.cell? ⟨w.heap.size+1,1,none⟩=some (.int .i64 (j:Nat))∧w'.cell? ⟨w.heap.size+1,4,none⟩=some (.slice A m cp)∧w'.cell? ⟨b,off+j * 3+1,none⟩=some (.int .i64 pv)) 24 (by kernel_rfl) (⟨x0,y0,y1,y4,q2⟩) (fun hHeld=>?_);have hbd:Below W.heap.size W W.drew:=Below.drew (Below.refl _ _);have HB2:=qq (HB.out.below hbd);clear x0 x1 y0 y1 y2 y3 y4 z0;clear hbd;generalize W.drew=W2 at hHeld HB2 ⊢;refine nx0 0 ?_
             iterate 24 (refine nxD (v:=?_) rfl (by kernel_rfl) (fun _ _ _ h=>h) (by kernel_rfl) ?_ (by assumption) ?_; rotate_left; (focus (intro w hSw; (try dsimp only at hSw); first | (go_simp; done) | (go_simp; with_reducible rfl))); try simp only[Act.put,qg,qe,qf,qd,qh,qi,Nat.reduceAdd])
             refine nx9 ?_;clear hHeld;refine wpAnyT_seq 24 (by omega) (by rfl) (by kernel_rfl) ?_;simp only[List.drop_succ_cons,List.drop_zero];go_wp2_with fail;refine NoPanic.normal ?_;go_wp2_with fail;go_ret
             exact⟨by rw[HR.out]; rfl,HB2.out.bel⟩
         · have b1:decide (t.n≥(nd:Int))=true:=by simp; omega
           have b1':decide ((nd:Int)≤t.n)=true:=by simp; omega
           have HR:Hid (wholeT ds ps t=false):=qq (wholeT_no (by unfold wholeN; rw[if_neg h1,if_neg h7,if_pos h8]; simp; intro h; omega))
           clear h1 h7 h8 hj hjn hd
           go_enter Tryd.func55,Tryd.ntmps55
           go_upto_region 1 with fail;rw[HW.out];go_upto_region 5 with fail;refine wp_region_noPanic ?_;refine wp_region_T (fun w'=>w'.cell? ⟨w.heap.size,0,none⟩=some (.slice Ad nd cd)∧w'.cell? ⟨w.heap.size+1,0,none⟩=some (.int .u8 t.k)∧w'.cell? ⟨w.heap.size+1,1,none⟩=some (.int .i64 t.n)∧w'.cell? ⟨w.heap.size+1,4,none⟩=some (.slice A m cp)) 24 (by kernel_rfl) (⟨x0,y0,y1,y4⟩) (fun hHeld=>?_);have hbd:Below W.heap.size W W.drew:=Below.drew (Below.refl _ _);have HB2:=qq (HB.out.below hbd);clear x0 x1 y0 y1 y2 y3 y4 z0;clear hbd;generalize W.drew=W2 at hHeld HB2 ⊢;refine nx0 0 ?_
           iterate 11 (refine nxD (v:=?_) rfl (by kernel_rfl) (fun _ _ _ h=>h) (by kernel_rfl) ?_ (by assumption) ?_; rotate_left; (focus (intro w hSw; (try dsimp only at hSw); first | (go_simp; done) | (go_simp; with_reducible rfl))); try simp only[Act.put,qg,qe,qf,qd,qh,qi,Nat.reduceAdd])
           refine nx9 ?_;refine nx0 11 ?_
           iterate 11 (refine nxkD rfl (by kernel_rfl) (fun _ _ _ h=>h) (by kernel_rfl) (by assumption) ?_; try simp only[Act.put,qg,qe,qf,qd,qh,qi,Nat.reduceAdd])
           refine nx9 ?_;refine nx0 22 ?_
           iterate 2 (refine nxD (v:=?_) rfl (by kernel_rfl) (fun _ _ _ h=>h) (by kernel_rfl) ?_ (by assumption) ?_; rotate_left; (focus (intro w hSw; (try dsimp only at hSw); first | (go_simp; done) | (go_simp; with_reducible rfl))); try simp only[Act.put,qg,qe,qf,qd,qh,qi,Nat.reduceAdd])
           refine nx9 ?_;clear hHeld;refine wpAnyT_seq 24 (by omega) (by rfl) (by kernel_rfl) ?_;simp only[List.drop_succ_cons,List.drop_zero];go_wp2_with fail;refine NoPanic.normal ?_;go_wp2_with fail;go_ret
           exact⟨by rw[HR.out]; rfl,HB2.out.bel⟩
       · have e8:(t.k==8)=false:=by simpa using h8
         have HWn:Hid (wholeN ds ps t.k t.n t.c t.l.length=true):=qq (by unfold wholeN; rw[if_neg h1,if_neg h7,if_neg h8])
         clear h1 h7 h8 hd
         go_enter Tryd.func55,Tryd.ntmps55
         go_upto_region 1 with fail;rw[HW.out];go_upto_region 5 with fail;refine wp_region_noPanic ?_;refine wp_region_T (fun w'=>w'.cell? ⟨w.heap.size,0,none⟩=some (.slice Ad nd cd)∧w'.cell? ⟨w.heap.size+1,0,none⟩=some (.int .u8 t.k)∧w'.cell? ⟨w.heap.size+1,1,none⟩=some (.int .i64 t.n)∧w'.cell? ⟨w.heap.size+1,4,none⟩=some (.slice A m cp)) 24 (by kernel_rfl) (⟨x0,y0,y1,y4⟩) (fun hHeld=>?_);have hbd:Below W.heap.size W W.drew:=Below.drew (Below.refl _ _);have HB2:=qq (HB.out.below hbd);clear x0 x1 y0 y1 y2 y3 y4 z0;clear hbd;generalize W.drew=W2 at hHeld HB2 ⊢;refine nx0 0 ?_
         iterate 4 (refine nxD (v:=?_) rfl (by kernel_rfl) (fun _ _ _ h=>h) (by kernel_rfl) ?_ (by assumption) ?_; rotate_left; (focus (intro w hSw; (try dsimp only at hSw); first | (go_simp; done) | (go_simp; with_reducible rfl))); try simp only[Act.put,qg,qe,qf,qd,qh,qi,Nat.reduceAdd])
         refine nx9 ?_;refine nx0 4 ?_
         iterate 19 (refine nxkD rfl (by kernel_rfl) (fun _ _ _ h=>h) (by kernel_rfl) (by assumption) ?_; try simp only[Act.put,qg,qe,qf,qd,qh,qi,Nat.reduceAdd])
         refine nx9 ?_;refine nx0 23 ?_
         iterate 1 (refine nxD (v:=?_) rfl (by kernel_rfl) (fun _ _ _ h=>h) (by kernel_rfl) ?_ (by assumption) ?_; rotate_left; (focus (intro w hSw; (try dsimp only at hSw); first | (go_simp; done) | (go_simp; with_reducible rfl))); try simp only[Act.put,qg,qe,qf,qd,qh,qi,Nat.reduceAdd])
         refine nx9 ?_;clear hHeld;refine wpAnyT_seq 24 (by omega) (by rfl) (by kernel_rfl) ?_;simp only[List.drop_succ_cons,List.drop_zero];go_wp2_with fail;refine NoPanic.normal ?_;have hl9:=(HL.out.below (HB2.out).bel).more (HB2.out).bel.size;have hd9:=HD.out.fresh (HB2.out).bel;have y4:(W2).cell? ⟨w.heap.size+1,4,none⟩=some (.slice A m cp):=(HB2.out).b1.cell 4;obtain⟨r,hr⟩:∃ q,(t.l.any fun x=>!wholeT ds ps x)=q:=⟨_,rfl⟩
         have hct:=containsG (fun x=>!wholeT ds ps x) 84 #[.pointer (some ⟨w.heap.size,0,none⟩),.pointer (some ⟨w.heap.size+1+1,0,none⟩)] (fun _ _=>rfl) A m cp t.l (W2) hl9 (fun i hi A' m' c' w' hb' hl'=>by
          have h9:=(HB2.out).below hb'
          exact whole1_any ds ps _ nd cd A2 n2 c2 w.heap.size (w.heap.size+1+1) t.l[i] (wholeT ds ps t.l[i]) A' m' c' w' h9.b0 h9.b2 (fun w'' hb''=>Ih.out t.l[i] (HNk.out i hi) (HMk.out i hi) A' m' c' w'' ((hl'.below hb'').more hb''.size) ((HD.out.fresh h9.bel).fresh hb''))) r hr
         have Hct:=qq hct;have HR:Hid (wholeT ds ps t=!r):=qq (by rw[wholeT_yes HWn.out,hr]);clear hct hl9 hd9 hr;go_wp2_with fail;clear y4;refine Hct.out.mono ?_;rintro e w9 ⟨rfl,hb9⟩;have HbF:=qq ((HB2.out).bel.trans (hb9.mono (HB2.out).bel.size));clear hb9;go_wp2_with fail;go_ret
         exact⟨by rw[HR.out]; rfl,HbF.out⟩
end Go.Proofs.YtgpeijkjmkocgaaDoor
namespace Go.Proofs.YtgpeijkjmkocgaaDoor
open Go.RowKit Go.Maps
def cntN (seen:List ByteArray) (s:ByteArray):Nat:=seen.countP fun x=>decide (x=s)
def cntF (seen:List ByteArray) (s:ByteArray):Option Value:=if cntN seen s=0 then none else some (.int .i64 (cntN seen s))
theorem cntF_get (seen:List ByteArray) (s:ByteArray):(cntF seen s).getD (.int .i64 0)=.int .i64 (cntN seen s:Nat):=by
 unfold cntF
 split
 · rename_i h; rw[h]; rfl
 · rfl
theorem cntN_same (seen:List ByteArray) (s:ByteArray):cntN (s :: seen) s=cntN seen s+1:=by
 unfold cntN;rw[List.countP_cons_of_pos (by simp)]
theorem cntN_other (seen:List ByteArray) {s x:ByteArray} (h:x≠s):cntN (s :: seen) x=cntN seen x:=by
 unfold cntN;rw[List.countP_cons_of_neg (by simpa using fun e=>h e.symm)]
theorem cntF_upd (seen:List ByteArray) (s:ByteArray):updS (cntF seen) s (.int .i64 ((cntN seen s:Nat)+1:Int))=cntF (s :: seen):=by
 funext x
 unfold updS cntF
 by_cases h:x=s
 · subst h
   rw[if_pos rfl,cntN_same,if_neg (by omega)];rfl
 · rw[if_neg h,cntN_other _ h]
theorem zeroInt13 (w:World):(zeroValue 3).run Tryd.prog w=.ok (.int .i64 0) w:=Tryd.zeroValue3 w
theorem twice_any (p b n:Nat) (seen:List ByteArray) (s:ByteArray) (r:Bool) (hr:(seen.any fun x=>decide (x=s))=r) (w:World) (hp:Blk w p 124 #[.map (some b)]) (hm:MapS w Tryd.prog 9 b n (.int .i64 0) (cntF seen)) (hn:n<1000000) (hs:s.size≤maxLen) (hc:seen.length≤1000000) (hpb:p≠b):
  Calls Tryd.prog 53 (#[.string s]++#[.pointer (some ⟨p,0,none⟩)]) w fun e w'=>e=.returned (.bool r)∧MapS w' Tryd.prog 9 b (n+1) (.int .i64 0) (cntF (s :: seen))∧w.grownBy w' (some b):=by
 have x0:w.cell? ⟨p,0,none⟩=some (.map (some b)):=hp.cell 0;have Hm:=qq hm;have Hp:=qq hp;have hcl:cntN seen s≤seen.length:=List.countP_le_length;obtain⟨k,hk⟩:∃ q,cntN seen s=q:=⟨_,rfl⟩;have Hv:Hid ((cntF seen s).getD (.int .i64 0)=.int .i64 (k:Nat)):=qq (by rw[cntF_get,hk])
 have Hu:Hid (updS (cntF seen) s (.int .i64 ((k:Int)+1))=cntF (s :: seen)):=qq (by rw[← hk]; exact cntF_upd seen s)
 have Hv2:Hid ((cntF (s :: seen) s).getD (.int .i64 0)=.int .i64 ((k:Int)+1)):=qq (by rw[cntF_get,cntN_same,hk]; rfl)
 have hkr:decide ((k:Int)+1>1)=r:=by
  rw[← hr,Bool.eq_iff_iff];simp only[decide_eq_true_eq]
  have h1:0<cntN seen s↔(seen.any fun x=>decide (x=s))=true:=by
   unfold cntN;rw[List.countP_pos_iff,List.any_eq_true]
  rw[← h1,hk];omega
 have hk6:k≤1000000:=by omega
 clear hm hp hr hk hcl
 go_enter Tryd.func53,Tryd.ntmps53
 go_upto_region 2 with (first | (at_lookup; refine wpList_look_S _ rfl _ _ 124 rfl 9 3 Tryd.underlying9 Tryd.underlying124 (zeroInt13 _) b n _ rfl Hm.out s rfl hs _ Hv.out ?_) | (at_mapUpdate; refine wpList_update_S _ rfl _ _ _ 124 rfl 9 3 Tryd.underlying9 Tryd.underlying124 (.int .i64 0) b n (cntF seen) rfl Hm.out (by unfold maxLen; omega) s rfl hs _ rfl ?_; intro W1 hm3 hg3))
 replace hm3:MapS W1 Tryd.prog 9 b (n+1) (.int .i64 0) (cntF (s :: seen)):=by
  rw[← Hu.out];exact hm3
 have Hm3:=qq hm3;have Hg3:=qq hg3;have x1:W1.cell? ⟨p,0,none⟩=some (.map (some b)):=(World.cell?_of_block (hg3.block p Hp.out.lt (by simpa using hpb))).trans x0;clear hm3 hg3 x0;have hkr2:decide (1<(k:Int)+1)=r:=hkr
 go_wp2_with (at_lookup; refine wpList_look_S _ rfl _ _ 124 rfl 9 3 Tryd.underlying9 Tryd.underlying124 (zeroInt13 _) b (n+1) _ rfl Hm3.out s rfl hs _ Hv2.out ?_)
 go_ret;exact⟨rfl,Hm3.out,Hg3.out⟩
end Go.Proofs.YtgpeijkjmkocgaaDoor
namespace Go.Proofs.YtgpeijkjmkocgaaDoor
open Go.RowKit
def fldOk (s:SigD) (c:ConD) (k:Nat):Bool:=match c.fields[k]?,c.mults[k]? with
 | some t,some m=>decide (1≤m)&&decide (m≤3)&&(mayTE t==0)&&wholeT s.datas (((s.datas[c.data.toNat]?).map DataD.params).getD 0) t
 | _,_=>false
def conOk (s:SigD) (i:Nat):Bool:=match s.cons[i]? with
 | none=>false
 | some c=>decide (0≤c.data)&&decide (c.data<s.datas.length)&&decide (c.fields.length≤8)&&decide (c.mults.length=c.fields.length)&&!((s.cons.take i).any fun x=>decide (x.name=c.name))&&(List.range c.fields.length).all (fldOk s c)
def isOf (s:SigD) (n i:Nat):Bool:=match s.cons[i]? with
 | some c=>decide (c.data=(n:Int))
 | none=>false
def ofN (s:SigD) (n k:Nat):List Int:=((List.range k).filter (isOf s n)).map fun i:Nat=>(i:Int)
def datOk (s:SigD) (i:Nat):Bool:=match s.datas[i]? with
 | none=>false
 | some d=>decide (0≤d.params)&&decide (d.params≤4)&&!(ofN s i s.cons.length).isEmpty&&decide (ofN s i s.cons.length=d.cons)&&!((s.datas.take i).any fun x=>decide (x.name=d.name))
def mayS (s:SigD):Bool:=decide (s.datas.length≤40)&&decide (s.cons.length≤100)&&(List.range s.cons.length).all (conOk s)&&(List.range s.datas.length).all (datOk s)
theorem ofN_succ (s:SigD) (n k:Nat) (hk:k<s.cons.length):ofN s n (k+1)=ofN s n k++if s.cons[k].data=n then [(k:Int)] else []:=by
 unfold ofN;rw[List.range_succ,List.filter_append,List.map_append]
 congr 1
 unfold isOf;rw[List.filter_cons,qj hk]
 by_cases h:s.cons[k].data=n <;> simp[h]
theorem range_all {n:Nat} {p:Nat→Bool}:(List.range n).all p=true↔∀ i,i<n→p i=true:=by
 rw[List.all_eq_true];exact⟨fun h i hi=>h i (List.mem_range.2 hi),fun h i hi=>h i (List.mem_range.1 hi)⟩
def namesC (s:SigD) (i:Nat):List ByteArray:=(s.cons.take i).map fun c=>(⟨#[99]⟩:ByteArray)++c.name
def namesD (s:SigD) (i:Nat):List ByteArray:=(s.datas.take i).map fun d=>(⟨#[100]⟩:ByteArray)++d.name
theorem app_inj {a x y:ByteArray}:a++x=a++y↔x=y:=by
 refine⟨fun h=>?_,fun h=>by rw[h]⟩
 have h1:(a++x).data.toList=(a++y).data.toList:=by rw[h]
 rw[ByteArray.data_append,ByteArray.data_append,Array.toList_append,Array.toList_append] at h1;have h2:=List.append_cancel_left h1
 cases x; cases y
 congr 1
 exact Array.toList_inj.1 h2
theorem namesC_any (s:SigD) (i:Nat) (nm:ByteArray):((namesC s i).any fun x=>decide (x=(⟨#[99]⟩:ByteArray)++nm))=(s.cons.take i).any fun x=>decide (x.name=nm):=by
 unfold namesC;rw[List.any_map]
 congr 1
 funext c
 simp only[Function.comp,app_inj]
theorem fields1_any (t:TyD) (r:Bool) (hr:(mayTE t != 0)=r) (A:Option Addr) (m cp:Nat) (w:World) (hl:TysV w w.heap.size A m cp t.l):
  Calls Tryd.prog 61 #[.agg #[.int .u8 t.k,.int .i64 t.n,.int .i64 t.v,.int .u8 t.c,.slice A m cp]] w fun e w'=>e=.returned (.bool r)∧Below w.heap.size w w':=by
 have hbx:=below_box (w:=w) (Obj.cells #[.int .u8 t.k,.int .i64 t.n,.int .i64 t.v,.int .u8 t.c,.slice A m cp] 63);have hkx:=blk_new w #[.int .u8 t.k,.int .i64 t.n,.int .i64 t.v,.int .u8 t.c,.slice A m cp] 63;obtain⟨W,hW⟩:∃ q,w.alloc (Obj.cells #[.int .u8 t.k,.int .i64 t.n,.int .i64 t.v,.int .u8 t.c,.slice A m cp] 63)=q:=⟨_,rfl⟩;rw[hW] at hbx hkx;have y0:W.cell? ⟨w.heap.size,0,none⟩=some (.int .u8 t.k):=hkx.cell 0;have y1:W.cell? ⟨w.heap.size,1,none⟩=some (.int .i64 t.n):=hkx.cell 1;have y2:W.cell? ⟨w.heap.size,2,none⟩=some (.int .i64 t.v):=hkx.cell 2;have y3:W.cell? ⟨w.heap.size,3,none⟩=some (.int .u8 t.c):=hkx.cell 3;have y4:W.cell? ⟨w.heap.size,4,none⟩=some (.slice A m cp):=hkx.cell 4;obtain⟨z,hz⟩:∃ q,mayTE t=q:=⟨_,rfl⟩;have hq:=tyMay_any t (.agg #[.int .u8 t.k,.int .i64 t.n,.int .i64 t.v,.int .u8 t.c,.slice A m cp]) W ⟨A,m,cp,rfl,(hl.below hbx).more hbx.size⟩;rw[hz] at hq hr;have Hq:=qq hq;have HW:=qq hW;have Hb:=qq hbx;clear hq hW hbx hkx hz hl
 go_enter Tryd.func61,Tryd.ntmps61
 go_upto_region 1 with fail;rw[HW.out];go_wp2_with fail;clear y0 y1 y2 y3 y4;refine Hq.out.mono ?_;rintro e w1 ⟨rfl,hb1⟩;have Hb2:=qq (Hb.out.trans (hb1.mono Hb.out.size));clear hb1;go_wp2_with fail;go_ret;exact⟨rfl,Hb2.out⟩
theorem kind_any (s:ByteArray) (w:World):Calls Tryd.prog 103 #[.string s] w fun e w'=>e=.returned (.int .u8 (baseK s).1)∧Below w.heap.size w w':=by
 have hbx:=below_box (w:=w) (Obj.cells #[.string ⟨#[73,110,116]⟩,.string ⟨#[83,116,114]⟩,.string ⟨#[73,111]⟩,.string ⟨#[70,105,108,101]⟩,.string ⟨#[65,114,114]⟩] 179);have hkx:=blk_new w #[.string ⟨#[73,110,116]⟩,.string ⟨#[83,116,114]⟩,.string ⟨#[73,111]⟩,.string ⟨#[70,105,108,101]⟩,.string ⟨#[65,114,114]⟩] 179;obtain⟨W,hW⟩:∃ q,w.alloc (Obj.cells #[.string ⟨#[73,110,116]⟩,.string ⟨#[83,116,114]⟩,.string ⟨#[73,111]⟩,.string ⟨#[70,105,108,101]⟩,.string ⟨#[65,114,114]⟩] 179)=q:=⟨_,rfl⟩;rw[hW] at hbx hkx;have y0:W.cell? ⟨w.heap.size,0,none⟩=some (.string ⟨#[73,110,116]⟩):=hkx.cell 0;have y1:W.cell? ⟨w.heap.size,1,none⟩=some (.string ⟨#[83,116,114]⟩):=hkx.cell 1;have y2:W.cell? ⟨w.heap.size,2,none⟩=some (.string ⟨#[73,111]⟩):=hkx.cell 2;have y3:W.cell? ⟨w.heap.size,3,none⟩=some (.string ⟨#[70,105,108,101]⟩):=hkx.cell 3;have y4:W.cell? ⟨w.heap.size,4,none⟩=some (.string ⟨#[65,114,114]⟩):=hkx.cell 4;obtain⟨b1,hb1⟩:∃ q,decide (s=nInt)=q:=⟨_,rfl⟩;obtain⟨b2,hb2⟩:∃ q,decide (s=nStr)=q:=⟨_,rfl⟩;obtain⟨b3,hb3⟩:∃ q,decide (s=nIo)=q:=⟨_,rfl⟩;obtain⟨b4,hb4⟩:∃ q,decide (s=nFile)=q:=⟨_,rfl⟩;obtain⟨b5,hb5⟩:∃ q,decide (s=nArr)=q:=⟨_,rfl⟩
 have HR:Hid ((baseK s).1=if b1 then 2 else if b2 then 3 else if b3 then 4 else if b4 then 5 else if b5 then 6 else 0):=qq (by
  unfold baseK
  subst hb1; subst hb2; subst hb3; subst hb4; subst hb5
  by_cases h1:s=nInt
  · rw[if_pos h1,decide_eq_true h1]
    rfl
  · skip
    by_cases h2:s=nStr
    · rw[if_neg h1,if_pos h2,decide_eq_false h1,decide_eq_true h2]
      rfl
    · skip
      by_cases h3:s=nIo
      · rw[if_neg h1,if_neg h2,if_pos h3,decide_eq_false h1,decide_eq_false h2,decide_eq_true h3]
        rfl
      · skip
        by_cases h4:s=nFile
        · rw[if_neg h1,if_neg h2,if_neg h3,if_pos h4,decide_eq_false h1,decide_eq_false h2,decide_eq_false h3,decide_eq_true h4]
          rfl
        · skip
          by_cases h5:s=nArr
          · rw[if_neg h1,if_neg h2,if_neg h3,if_neg h4,if_pos h5,decide_eq_false h1,decide_eq_false h2,decide_eq_false h3,decide_eq_false h4,decide_eq_true h5]
            rfl
          · skip
            rw[if_neg h1,if_neg h2,if_neg h3,if_neg h4,if_neg h5,decide_eq_false h1,decide_eq_false h2,decide_eq_false h3,decide_eq_false h4,decide_eq_false h5]
            rfl)
 have q1:=nm_eq s nInt _ nInt_l;rw[hb1] at q1
 have q1':(([73,110,116]:List UInt8)==s.toList)=b1:=by rw[← q1]; exact BEq.comm
 have q2:=nm_eq s nStr _ nStr_l;rw[hb2] at q2
 have q2':(([83,116,114]:List UInt8)==s.toList)=b2:=by rw[← q2]; exact BEq.comm
 have q3:=nm_eq s nIo _ nIo_l;rw[hb3] at q3
 have q3':(([73,111]:List UInt8)==s.toList)=b3:=by rw[← q3]; exact BEq.comm
 have q4:=nm_eq s nFile _ nFile_l;rw[hb4] at q4
 have q4':(([70,105,108,101]:List UInt8)==s.toList)=b4:=by rw[← q4]; exact BEq.comm
 have q5:=nm_eq s nArr _ nArr_l;rw[hb5] at q5
 have q5':(([65,114,114]:List UInt8)==s.toList)=b5:=by rw[← q5]; exact BEq.comm
 have HW:=qq hW;have Hb:=qq hbx;clear hW hbx hkx hb1 hb2 hb3 hb4 hb5;rw[HR.out];clear HR
 go_enter Tryd.func103,Tryd.ntmps103
 go_upto_region 2 with fail;rw[HW.out];go_wp2_with fail
 go_loopg [4] 5 (fun gh i wr=>∃ k:Nat,k≤5∧gh=5 - k∧i=.int .i64 (k:Nat)∧wr=W∧(1≤k→b1=false)∧(2≤k→b2=false)∧(3≤k→b3=false)∧(4≤k→b4=false)∧(5≤k→b5=false))
 case atStart=>exact⟨0,by omega,rfl,rfl,rfl,by omega,by omega,by omega,by omega,by omega⟩
 case round=>
  obtain⟨k,hk,rfl,rfl,rfl,p1,p2,p3,p4,p5⟩:=hrel
  obtain rfl | rfl | rfl | rfl | rfl | rfl:k=0∨k=1∨k=2∨k=3∨k=4∨k=5:=by omega
  · cases b1 with
    | true=>
      go_wp2_with fail;go_ret;exact⟨rfl,Hb.out⟩
    | false=>
      go_wp2_with fail;go_roundg 4
      case measure=>omega
      case rel=>exact⟨1,by omega,rfl,by go_num,rfl,(by first | trivial | (intro _; rfl) | (intro h; omega)),(by first | trivial | (intro _; rfl) | (intro h; omega)),(by first | trivial | (intro _; rfl) | (intro h; omega)),(by first | trivial | (intro _; rfl) | (intro h; omega)),(by first | trivial | (intro _; rfl) | (intro h; omega))⟩
  · obtain rfl:=p1 (by omega)
    cases b2 with
    | true=>
      go_wp2_with fail;go_ret;exact⟨rfl,Hb.out⟩
    | false=>
      go_wp2_with fail;go_roundg 3
      case measure=>omega
      case rel=>exact⟨2,by omega,rfl,by go_num,rfl,(by first | trivial | (intro _; rfl) | (intro h; omega)),(by first | trivial | (intro _; rfl) | (intro h; omega)),(by first | trivial | (intro _; rfl) | (intro h; omega)),(by first | trivial | (intro _; rfl) | (intro h; omega)),(by first | trivial | (intro _; rfl) | (intro h; omega))⟩
  · obtain rfl:=p1 (by omega)
    obtain rfl:=p2 (by omega)
    cases b3 with
    | true=>
      go_wp2_with fail;go_ret;exact⟨rfl,Hb.out⟩
    | false=>
      go_wp2_with fail;go_roundg 2
      case measure=>omega
      case rel=>exact⟨3,by omega,rfl,by go_num,rfl,(by first | trivial | (intro _; rfl) | (intro h; omega)),(by first | trivial | (intro _; rfl) | (intro h; omega)),(by first | trivial | (intro _; rfl) | (intro h; omega)),(by first | trivial | (intro _; rfl) | (intro h; omega)),(by first | trivial | (intro _; rfl) | (intro h; omega))⟩
  · obtain rfl:=p1 (by omega)
    obtain rfl:=p2 (by omega);obtain rfl:=p3 (by omega)
    cases b4 with
    | true=>
      go_wp2_with fail;go_ret;exact⟨rfl,Hb.out⟩
    | false=>
      go_wp2_with fail;go_roundg 1
      case measure=>omega
      case rel=>exact⟨4,by omega,rfl,by go_num,rfl,(by first | trivial | (intro _; rfl) | (intro h; omega)),(by first | trivial | (intro _; rfl) | (intro h; omega)),(by first | trivial | (intro _; rfl) | (intro h; omega)),(by first | trivial | (intro _; rfl) | (intro h; omega)),(by first | trivial | (intro _; rfl) | (intro h; omega))⟩
  · obtain rfl:=p1 (by omega)
    obtain rfl:=p2 (by omega);obtain rfl:=p3 (by omega);obtain rfl:=p4 (by omega)
    cases b5 with
    | true=>
      go_wp2_with fail;go_ret;exact⟨rfl,Hb.out⟩
    | false=>
      go_wp2_with fail;go_roundg 0
      case measure=>omega
      case rel=>exact⟨5,by omega,rfl,by go_num,rfl,(by first | trivial | (intro _; rfl) | (intro h; omega)),(by first | trivial | (intro _; rfl) | (intro h; omega)),(by first | trivial | (intro _; rfl) | (intro h; omega)),(by first | trivial | (intro _; rfl) | (intro h; omega)),(by first | trivial | (intro _; rfl) | (intro h; omega))⟩
  · obtain rfl:=p1 (by omega)
    obtain rfl:=p2 (by omega);obtain rfl:=p3 (by omega);obtain rfl:=p4 (by omega);obtain rfl:=p5 (by omega);go_wp2_with fail;go_ret;exact⟨rfl,Hb.out⟩
end Go.Proofs.YtgpeijkjmkocgaaDoor
