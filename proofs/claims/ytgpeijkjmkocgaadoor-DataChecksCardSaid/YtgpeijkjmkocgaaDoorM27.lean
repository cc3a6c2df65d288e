import Derived.Test.YtgpeijkjmkocgaaDoorM25
import Derived.Test.YtgpeijkjmkocgaaDoorM19
set_option linter.unusedVariables false
set_option linter.unusedSimpArgs false
set_option maxHeartbeats 8000000
set_option maxRecDepth 100000
namespace Go.Proofs.YtgpeijkjmkocgaaDoor
open Go.RowKit
theorem tysW_at {w:World} {S:Nat→Prop} {A:Option Addr} {n c:Nat} {l:List TyW} (h:Sl w S encW 7 l A n c) (hn:0<n):∃ b off,A=some ⟨b,off,none⟩∧S b∧∀ i (h:i<l.length),w.cell? ⟨b,off+i * 7,none⟩=some (.int .u8 l[i].k)∧w.cell? ⟨b,off+i * 7+1,none⟩=some (.string l[i].s)∧w.cell? ⟨b,off+i * 7+2,none⟩=some (.int .u8 l[i].m) ∧
  w.cell? ⟨b,off+i * 7+3,none⟩=some (.int .i64 l[i].p.at_)∧w.cell? ⟨b,off+i * 7+4,none⟩=some (.int .i64 l[i].p.line)∧w.cell? ⟨b,off+i * 7+5,none⟩=some (.int .i64 l[i].p.col) ∧
  ∃ A' m' c',w.cell? ⟨b,off+i * 7+6,none⟩=some (.slice A' m' c')∧Sl w S encW 7 l[i].l A' m' c':=by
 obtain⟨b,off,e,hb,hr⟩:=h.at_ encW_len hn;refine⟨b,off,e,hb,fun i hi=>?_⟩;have:=hr i hi;rw[encW_eq] at this;simp only[celsIn_cons,celIn_v,sl_iff (enc:=encW) (k:=7) encW_len (by omega)] at this;obtain⟨⟨u0,h0,rfl⟩,⟨u1,h1,rfl⟩,⟨u2,h2,rfl⟩,⟨u3,h3,rfl⟩,⟨u4,h4,rfl⟩,⟨u5,h5,rfl⟩,⟨u6,h6,A',m',c',rfl,h7⟩,_⟩:=this;exact⟨h0,h1,h2,h3,h4,h5,A',m',c',h6,h7⟩
section
variable {w:World} {g:Nat} {t:TyW} {A:Option Addr} {m cp:Nat} {vd a1:Value} {d:DiagD} {k n v c:Int} {wx wy:World}
theorem TyBx.b (h:TyBx w g t A m cp vd a1 d k n v c wx):wx.cell? ⟨w.heap.size,0,none⟩=some (.int .u8 t.k)∧wx.cell? ⟨w.heap.size,1,none⟩=some (.string t.s)∧wx.cell? ⟨w.heap.size,2,none⟩=some (.int .u8 t.m)∧wx.cell? ⟨w.heap.size,3,none⟩=some (.int .i64 t.p.at_)∧wx.cell? ⟨w.heap.size,4,none⟩=some (.int .i64 t.p.line)∧wx.cell? ⟨w.heap.size,5,none⟩=some (.int .i64 t.p.col)∧wx.cell? ⟨w.heap.size,6,none⟩=some (.slice A m cp):=
 ⟨h.bt.cell 0,h.bt.cell 1,h.bt.cell 2,h.bt.cell 3,h.bt.cell 4,h.bt.cell 5,h.bt.cell 6⟩
theorem TyBx.o (h:TyBx w g t A m cp vd a1 d k n v c wx):wx.cell? ⟨w.heap.size+1+1,0,none⟩=some (.int .u8 k)∧wx.cell? ⟨w.heap.size+1+1,1,none⟩=some (.int .i64 n)∧wx.cell? ⟨w.heap.size+1+1,2,none⟩=some (.int .i64 v)∧wx.cell? ⟨w.heap.size+1+1,3,none⟩=some (.int .u8 c)∧wx.cell? ⟨w.heap.size+1+1,4,none⟩=some (.slice none 0 0):=
 ⟨h.bo.cell 0,h.bo.cell 1,h.bo.cell 2,h.bo.cell 3,h.bo.cell 4⟩
end
def TyPost (g:Nat) (vd a1:Value) (ds:List DataD) (ps:List ByteArray) (t:TyW) (d:DiagD) (w:World) (e:Ending) (w':World):Prop:=
 ∃ (x:TyD) (A':Option Addr) (m' c':Nat) (d':DiagD),e=.returned (.agg #[.int .u8 x.k,.int .i64 x.n,.int .i64 x.v,.int .u8 x.c,.slice A' m' c'])∧TysS w' (fun b=>w.heap.size≤b∧b<w'.heap.size) A' m' c' x.l∧Blk w' g 91 (mkC vd a1 d') ∧
  d'=d.then_ (tyE ds ps t)∧(∀ y,d.e=0→tyE ds ps t=.ok y→x=y)∧But g w w'
def SwP (w:World) (g:Nat) (t:TyW) (A:Option Addr) (m cp:Nat) (vd a1:Value) (d:DiagD) (ds:List DataD) (ps:List ByteArray) (z:Value) (wx:World):Prop:=
 ∃ (k n c want:Int) (d1:DiagD),z=.int .i64 want∧TyBx w g t A m cp vd a1 d1 k n 0 c wx∧d1=d.then_ (nodeD ds ps t)∧∀ r,d.e=0→nodeD ds ps t=.ok r→r=((k,n,c),want)
theorem ty_go (ds:List DataD) (ps:List ByteArray) (Ap:Option Addr) (np cp':Nat) (Ad:Option Addr) (nd cd:Nat) (a1:Value) (g:Nat) (hpar:∀ x∈ds,x.params≤1000000) (N:Nat):∀ (t:TyW),nodesW t≤N→∀ (A:Option Addr) (m cp:Nat) (d:DiagD) (w:World),Sl w (Off g w) encW 7 t.l A m cp→Sl w (Off g w) encDt 3 ds Ad nd cd→Sl w (Off g w) encS 1 ps Ap np cp'→Blk w g 91 (mkC (.slice Ad nd cd) a1 d) →
  Calls Tryd.prog 71 #[.pointer (some ⟨g,0,none⟩),.agg #[.int .u8 t.k,.string t.s,.int .u8 t.m,.int .i64 t.p.at_,.int .i64 t.p.line,.int .i64 t.p.col,.slice A m cp],.slice Ap np cp'] w (TyPost g (.slice Ad nd cd) a1 ds ps t d w):=by
 induction N with
 | zero=>intro t hN; exact absurd hN (by rw[nodesW_eq t]; omega)
 | succ N ih=>
   intro t hN A m cp d w hl hd hs hk;have hgw:=hk.lt;have hlen:=hl.len;have m63:m≤9223372036854775807:=hl.cap
   have HN:Hid (∀ i (h:i<t.l.length),nodesW t.l[i]≤N):=qq fun i h=>by have:=nodesW_get h; omega
   have Ih:=qq ih;have HPar:=qq hpar
   obtain⟨W,hW,hbx⟩:∃ W,((w.alloc (Obj.cells #[.int .u8 t.k,.string t.s,.int .u8 t.m,.int .i64 t.p.at_,.int .i64 t.p.line,.int .i64 t.p.col,.slice A m cp] 47)).alloc (Obj.cells #[.int .u8 0,.int .i64 0,.int .i64 0,.int .u8 0,.slice none 0 0] 63)).alloc (Obj.cells #[.int .u8 0,.int .i64 0,.int .i64 0,.int .u8 0,.slice none 0 0] 63)=W∧TyBx w g t A m cp (.slice Ad nd cd) a1 d 0 0 0 0 W:=by
    obtain⟨W1,h1⟩:∃ x,w.alloc (Obj.cells #[.int .u8 t.k,.string t.s,.int .u8 t.m,.int .i64 t.p.at_,.int .i64 t.p.line,.int .i64 t.p.col,.slice A m cp] 47)=x:=⟨_,rfl⟩
    have s1:W1.heap.size=w.heap.size+1:=by rw[← h1]; simp
    have k1:=blk_new w #[.int .u8 t.k,.string t.s,.int .u8 t.m,.int .i64 t.p.at_,.int .i64 t.p.line,.int .i64 t.p.col,.slice A m cp] 47;have g1:=below_box (w:=w) (Obj.cells #[.int .u8 t.k,.string t.s,.int .u8 t.m,.int .i64 t.p.at_,.int .i64 t.p.line,.int .i64 t.p.col,.slice A m cp] 47);rw[h1] at k1 g1;obtain⟨W2,h2⟩:∃ x,W1.alloc (Obj.cells #[.int .u8 0,.int .i64 0,.int .i64 0,.int .u8 0,.slice none 0 0] 63)=x:=⟨_,rfl⟩
    have s2:W2.heap.size=w.heap.size+1+1:=by rw[← h2,← s1]; simp
    have k2:=blk_new W1 #[.int .u8 0,.int .i64 0,.int .i64 0,.int .u8 0,.slice none 0 0] 63;have g2:=below_box (w:=W1) (Obj.cells #[.int .u8 0,.int .i64 0,.int .i64 0,.int .u8 0,.slice none 0 0] 63);rw[h2,s1] at k2 g2;obtain⟨W3,h3⟩:∃ x,W2.alloc (Obj.cells #[.int .u8 0,.int .i64 0,.int .i64 0,.int .u8 0,.slice none 0 0] 63)=x:=⟨_,rfl⟩;have k3:=blk_new W2 #[.int .u8 0,.int .i64 0,.int .i64 0,.int .u8 0,.slice none 0 0] 63;have g3:=below_box (w:=W2) (Obj.cells #[.int .u8 0,.int .i64 0,.int .i64 0,.int .u8 0,.slice none 0 0] 63);rw[h3,s2] at k3 g3;have G2:Below (w.heap.size+1) W1 W3:=g2.trans (g3.mono (by omega));have G1:Below w.heap.size w W3:=g1.trans (G2.mono (by omega))
    exact⟨W3,by rw[h1,h2,h3],⟨k1.below G2 (by omega),k2.below g3 (by omega),k3,hk.below G1 hgw,But.of G1,hgw⟩⟩
   have HW:=qq hW;have HB:=qq hbx;have HL:=qq hl;have HD:=qq hd;have HS:=qq hs;clear hW hbx hl hd hs hk hN ih hpar
   go_enter Tryd.func71,Tryd.ntmps71
   go_upto_block 0 with fail
   rw[HW.out]
   go_cut [8] (fun z wx=>SwP w g t A m cp (.slice Ad nd cd) a1 d ds ps z wx)
   case first=>
    obtain⟨b0,b1,b2,b3,b4,b5,b6⟩:=(HB.out).b;obtain⟨o0,o1,o2,o3,o4⟩:=(HB.out).o;have f0:=(HB.out).bo.frozen 0;have f1:=(HB.out).bo.frozen 1;have f2:=(HB.out).bo.frozen 2;have f3:=(HB.out).bo.frozen 3;have f4:=(HB.out).bo.frozen 4
    by_cases h1:t.k=1
    · have d1:(t.k==1)=true:=by simp[h1]
      obtain⟨q,hq⟩:∃ q,idxS ps t.s=q:=⟨_,rfl⟩;have hqi:=indexS_any Ap np cp' ps t.s W _ (HS.out.but HB.out.bu);rw[hq] at hqi;have Hq:=qq hqi;have hnd:=nodeD1 (ds:=ds) (ps:=ps) h1;rw[hq] at hnd
      have HNd:Hid (failD d (decide (q<0)) 131 t.p=d.then_ (nodeD ds ps t)):=qq (failD_then d _ 131 t.p _ (by
       rw[hnd]
       by_cases h:q<0
       · exact Or.inl ⟨by rw[if_pos h],by simpa using h⟩
       · exact Or.inr ⟨⟨_,by rw[if_neg h]⟩,by simpa using h⟩))
      have HRd:Hid (∀ r,d.e=0→nodeD ds ps t=.ok r→r=((1,q,0),0)):=qq fun r _ hr=>by
       rw[hnd] at hr
       split at hr
       · cases hr
       · injection hr with hr; exact hr.symm
      clear h1 hq hqi hnd;go_wp2_with fail
      refine Hq.out.mono ?_; rintro e w1 ⟨rfl,rfl⟩
      go_upto_region 6 with fail;clear o0 o1 o2 o3 o4 f0 f1 f2 f3 f4;clear b0 b1 b2 b3 b4 b5 b6;have hp:=(HB.out).put (1) (q) 0 (0);obtain⟨w2,hwn⟩:∃ x,set5 w1 (w.heap.size+1+1) (1) (q) 0 (0) (.slice none 0 0)=x:=⟨_,rfl⟩;rw[hwn] at hp;unfold set5 at hwn;rw[hwn];have HP:=qq hp;clear hp hwn;obtain⟨b0,b1,b2,b3,b4,b5,b6⟩:=(HP.out).b;obtain⟨o0,o1,o2,o3,o4⟩:=(HP.out).o;have f0:=(HP.out).bo.frozen 0;have f1:=(HP.out).bo.frozen 1;have f2:=(HP.out).bo.frozen 2;have f3:=(HP.out).bo.frozen 3;have f4:=(HP.out).bo.frozen 4;go_wp2_with fail;refine(fail_any g _ a1 d (decide (q<0)) (131) t.p w2 (HP.out).bk).mono ?_;rintro e w9 ⟨rfl,hk9,hu9⟩;have H9:=qq ((HP.out).diag hk9 hu9);clear hk9 hu9;clear o0 o1 o2 o3 o4 f0 f1 f2 f3 f4;clear b0 b1 b2 b3 b4 b5 b6;go_wp2_with fail;go_meet;exact⟨1,q,0,0,_,rfl,H9.out,HNd.out,HRd.out⟩
    · have d1:(t.k==1)=false:=by simpa using h1
      by_cases h2:t.k=2
      · have d2:(t.k==2)=true:=by simp[h2]
        have hnd:=nodeD2 (ds:=ds) (ps:=ps) h2;obtain⟨kd,hkd⟩:∃ x,(baseK t.s).1=x:=⟨_,rfl⟩;obtain⟨wn,hwn⟩:∃ x,(baseK t.s).2=x:=⟨_,rfl⟩;have hqb:=base_any t.s W;rw[hkd,hwn] at hqb hnd;have Hq:=qq hqb;have Hnd:=qq hnd;clear h1 h2 hnd hkd hwn hqb;go_wp2_with fail
        refine Hq.out.mono ?_; rintro e w1 ⟨rfl,rfl⟩
        go_upto_region 9 with fail;clear o0 o1 o2 o3 o4 f0 f1 f2 f3 f4;clear b0 b1 b2 b3 b4 b5 b6;have hp2:=HB.out.kind kd;obtain⟨w2,hw2⟩:∃ x,w1.setCell ⟨w.heap.size+1+1,0,none⟩ (.int .u8 kd)=x:=⟨_,rfl⟩;rw[hw2] at hp2 ⊢;have H2:=qq hp2;clear hp2 hw2
        by_cases hw:wn<0
        · have e0:decide (wn<0)=true:=by simpa using hw
          have hnd:=Hnd.out;rw[if_pos hw] at hnd;obtain⟨q,hq⟩:∃ q,idxD ds t.s=q:=⟨_,rfl⟩;have hqf:=find_any g Ad nd cd a1 d ds t.s w2 (Off g w2) (fun b h=>h.1) (HD.out.but H2.out.bu) H2.out.bk;rw[hq] at hqf hnd;have Hqf:=qq hqf;have Hqe:=qq hq;have Hnd2:=qq hnd;obtain⟨b0,b1,b2,b3,b4,b5,b6⟩:=(H2.out).b;clear hw hnd hq hqf;go_wp2_with fail
          refine Hqf.out.mono ?_; rintro e w3 ⟨rfl,hb3⟩
          have H3:=qq (H2.out.below hb3);clear b0 b1 b2 b3 b4 b5 b6;clear hb3;obtain⟨o0,o1,o2,o3,o4⟩:=(H3.out).o;have f0:=(H3.out).bo.frozen 0;have f1:=(H3.out).bo.frozen 1;have f2:=(H3.out).bo.frozen 2;have f3:=(H3.out).bo.frozen 3;have f4:=(H3.out).bo.frozen 4;go_upto_region 11 with fail;clear o0 o1 o2 o3 o4 f0 f1 f2 f3 f4;have hp:=(H3.out).put (8) (q) 0 (0);obtain⟨w4,hwn⟩:∃ x,set5 w3 (w.heap.size+1+1) (8) (q) 0 (0) (.slice none 0 0)=x:=⟨_,rfl⟩;rw[hwn] at hp;unfold set5 at hwn;rw[hwn];have HP:=qq hp;clear hp hwn;obtain⟨b0,b1,b2,b3,b4,b5,b6⟩:=(HP.out).b;obtain⟨o0,o1,o2,o3,o4⟩:=(HP.out).o;have f0:=(HP.out).bo.frozen 0;have f1:=(HP.out).bo.frozen 1;have f2:=(HP.out).bo.frozen 2;have f3:=(HP.out).bo.frozen 3;have f4:=(HP.out).bo.frozen 4;go_wp2_with fail;refine(fail_any g _ a1 d (decide (q<0)) (131) t.p w4 (HP.out).bk).mono ?_;rintro e w9 ⟨rfl,hk9,hu9⟩;have H9:=qq ((HP.out).diag hk9 hu9);clear hk9 hu9;clear o0 o1 o2 o3 o4 f0 f1 f2 f3 f4;clear b0 b1 b2 b3 b4 b5 b6;obtain⟨o0,o1,o2,o3,o4⟩:=(H9.out).o;have f0:=(H9.out).bo.frozen 0;have f1:=(H9.out).bo.frozen 1;have f2:=(H9.out).bo.frozen 2;have f3:=(H9.out).bo.frozen 3;have f4:=(H9.out).bo.frozen 4
          by_cases hz:q<0
          · have e1:decide (q≥0)=false:=by simpa using hz
            have hnd:=Hnd2.out;rw[if_pos hz] at hnd
            have HNd:Hid (failD d (decide (q<0)) 131 t.p=d.then_ (nodeD ds ps t)):=qq (failD_then d _ 131 t.p _ (Or.inl ⟨hnd,by simpa using hz⟩))
            have HRd:Hid (∀ r,d.e=0→nodeD ds ps t=.ok r→r=((8,q,0),wn)):=qq fun r _ hr=>by rw[hnd] at hr; cases hr
            clear hz hnd;go_wp2_with fail;go_meet;exact⟨8,q,0,wn,_,rfl,H9.out,HNd.out,HRd.out⟩
          · have e1:decide (q≥0)=true:=by simp; omega
            have hnd:=Hnd2.out;rw[if_neg hz] at hnd
            have HNd:Hid (failD d (decide (q<0)) 131 t.p=d.then_ (nodeD ds ps t)):=qq (failD_then d _ 131 t.p _ (Or.inr ⟨⟨_,hnd⟩,by simpa using hz⟩))
            obtain⟨i,hi,hil,_⟩:∃ i:Nat,q=i∧∃ h:i<ds.length,True:=by
             rcases idxP_cases (fun x:DataD=>decide (x.name=t.s)) ds with ⟨h,_⟩ | ⟨i,h,h2,_⟩
             · have h0:idxD ds t.s = -1:=h
               have:=Hqe.out;omega
             · exact⟨i,Hqe.out.symm.trans h,h2,trivial⟩
            subst hi
            have hpr:((ds[((i:Int)).toNat]?).map DataD.params).getD 0=ds[i].params:=by rw[Int.toNat_natCast,qj hil]; rfl
            rw[hpr] at hnd
            have HRd:Hid (∀ r,d.e=0→nodeD ds ps t=.ok r→r=((8,(i:Int),0),ds[i].params)):=qq fun r _ hr=>by
             rw[hnd] at hr
             injection hr with hr
             exact hr.symm
            have hdl:=HD.out.len;obtain⟨b',off,rfl,hbo,hcs⟩:=datas_at (HD.out.but H9.out.bu) (by omega);obtain⟨_,hc1,_⟩:=hcs i hil;obtain⟨pv,hpv⟩:∃ x,ds[i].params=x:=⟨_,rfl⟩;rw[hpv] at hc1 HRd;have hkc:=H9.out.bk.cell 0;have hkc0:w9.cell? ⟨g,0,none⟩=some (.slice (some ⟨b',off,none⟩) nd cd):=hkc
            have j1:(0:Int)≤(i:Int):=by omega
            have j2:(i:Int)<nd:=by omega
            clear hz hnd hpr hkc hcs hpv;go_upto_region 13 with fail;refine wp_region_noPanic ?_;refine wp_region_T (fun w'=>w'.cell? ⟨g,0,none⟩=some (.slice (some ⟨b',off,none⟩) nd cd)∧w'.cell? ⟨w.heap.size+1+1,1,none⟩=some (.int .i64 (i:Nat))∧w'.cell? ⟨b',off+i * 3+1,none⟩=some (.int .i64 pv)) 10 (by kernel_rfl) ⟨hkc0,o1,hc1⟩ (fun hHeld=>?_);have H10:=qq (H9.out.below (Below.drew (Below.refl w9.heap.size w9)));clear o0 o1 o2 o3 o4 f0 f1 f2 f3 f4;clear hkc0 hc1;generalize w9.drew=w10 at hHeld H10 ⊢;refine nx0 0 ?_
            iterate 10 (refine nx (v:=?_) rfl (by kernel_rfl) (fun _ _ _ h=>h) (by kernel_rfl) ?_ (by assumption) ?_; rotate_left; (focus (intro w hSw; (try dsimp only at hSw); first | (go_simp; done) | (go_simp; with_reducible rfl))); try simp only[Act.put,qg,qe,qf,qd,qh,qi,Nat.reduceAdd])
            refine nx9 ?_;clear hHeld;refine wpAnyT_seq 10 (by omega) (by rfl) (by kernel_rfl) ?_;simp only[List.drop_succ_cons,List.drop_zero];go_wp2_with fail;refine NoPanic.normal ?_;go_wp2_with fail;go_meet;exact⟨8,(i:Int),0,pv,_,rfl,H10.out,HNd.out,HRd.out⟩
        · have e0:decide (wn<0)=false:=by simpa using hw
          have hnd:=Hnd.out;rw[if_neg hw] at hnd;have HNd:Hid (d=d.then_ (nodeD ds ps t)):=qq (then_ok hnd)
          have HRd:Hid (∀ r,d.e=0→nodeD ds ps t=.ok r→r=((kd,0,0),wn)):=qq fun r _ hr=>by
           rw[hnd] at hr
           injection hr with hr
           exact hr.symm
          clear hw hnd;go_wp2_with fail;go_meet;exact⟨kd,0,0,wn,_,rfl,H2.out,HNd.out,HRd.out⟩
      · have d2:(t.k==2)=false:=by simpa using h2
        by_cases h3:t.k=3
        · have d3:(t.k==3)=true:=by simp[h3]
          have hnd:=nodeD3 (ds:=ds) (ps:=ps) h3
          have HRd:Hid (∀ r,d.e=0→nodeD ds ps t=.ok r→r=((7,0,t.m),2)):=qq fun r _ hr=>by
           rw[hnd] at hr
           split at hr
           · cases hr
           · injection hr with hr; exact hr.symm
          clear h1 h2 h3
          by_cases q1:(m:Int)=2
          · have e1:((m:Int) != 2)=false:=by simp[q1]
            by_cases q2:t.m<1
            · have e2:decide (t.m<1)=true:=by simpa using q2
              have HNd:Hid (failD d true 2 t.p=d.then_ (nodeD ds ps t)):=qq (failD_then d true 2 t.p _ (by rw[hnd]; exact Or.inl ⟨if_pos (Or.inr (Or.inl q2)),rfl⟩))
              clear hnd;go_upto_region 16 with fail;clear o0 o1 o2 o3 o4 f0 f1 f2 f3 f4;clear b0 b1 b2 b3 b4 b5 b6;have hp:=(HB.out).put (7) (0) 0 (t.m);obtain⟨w2,hwn⟩:∃ x,set5 W (w.heap.size+1+1) (7) (0) 0 (t.m) (.slice none 0 0)=x:=⟨_,rfl⟩;rw[hwn] at hp;unfold set5 at hwn;rw[hwn];have HP:=qq hp;clear hp hwn;obtain⟨b0,b1,b2,b3,b4,b5,b6⟩:=(HP.out).b;go_wp2_with fail;refine(fail_any g _ a1 d (true) (2) t.p w2 (HP.out).bk).mono ?_;rintro e w9 ⟨rfl,hk9,hu9⟩;have H9:=qq ((HP.out).diag hk9 hu9);clear hk9 hu9;clear b0 b1 b2 b3 b4 b5 b6;go_wp2_with fail;go_meet;exact⟨7,0,t.m,2,_,rfl,H9.out,HNd.out,HRd.out⟩
            · have e2:decide (t.m<1)=false:=by simpa using q2
              by_cases q3:t.m>3
              · have e3:decide (t.m>3)=true:=by simpa using q3
                have HNd:Hid (failD d true 2 t.p=d.then_ (nodeD ds ps t)):=qq (failD_then d true 2 t.p _ (by rw[hnd]; exact Or.inl ⟨if_pos (Or.inr (Or.inr q3)),rfl⟩))
                clear hnd;go_upto_region 16 with fail;clear o0 o1 o2 o3 o4 f0 f1 f2 f3 f4;clear b0 b1 b2 b3 b4 b5 b6;have hp:=(HB.out).put (7) (0) 0 (t.m);obtain⟨w2,hwn⟩:∃ x,set5 W (w.heap.size+1+1) (7) (0) 0 (t.m) (.slice none 0 0)=x:=⟨_,rfl⟩;rw[hwn] at hp;unfold set5 at hwn;rw[hwn];have HP:=qq hp;clear hp hwn;obtain⟨b0,b1,b2,b3,b4,b5,b6⟩:=(HP.out).b;go_wp2_with fail;refine(fail_any g _ a1 d (true) (2) t.p w2 (HP.out).bk).mono ?_;rintro e w9 ⟨rfl,hk9,hu9⟩;have H9:=qq ((HP.out).diag hk9 hu9);clear hk9 hu9;clear b0 b1 b2 b3 b4 b5 b6;go_wp2_with fail;go_meet;exact⟨7,0,t.m,2,_,rfl,H9.out,HNd.out,HRd.out⟩
              · have e3:decide (t.m>3)=false:=by simpa using q3
                have HNd:Hid (failD d false 2 t.p=d.then_ (nodeD ds ps t)):=qq (failD_then d false 2 t.p _ (by rw[hnd]; exact Or.inr ⟨⟨_,if_neg (by omega)⟩,rfl⟩))
                clear hnd;go_upto_region 16 with fail;clear o0 o1 o2 o3 o4 f0 f1 f2 f3 f4;clear b0 b1 b2 b3 b4 b5 b6;have hp:=(HB.out).put (7) (0) 0 (t.m);obtain⟨w2,hwn⟩:∃ x,set5 W (w.heap.size+1+1) (7) (0) 0 (t.m) (.slice none 0 0)=x:=⟨_,rfl⟩;rw[hwn] at hp;unfold set5 at hwn;rw[hwn];have HP:=qq hp;clear hp hwn;obtain⟨b0,b1,b2,b3,b4,b5,b6⟩:=(HP.out).b;go_wp2_with fail;refine(fail_any g _ a1 d (false) (2) t.p w2 (HP.out).bk).mono ?_;rintro e w9 ⟨rfl,hk9,hu9⟩;have H9:=qq ((HP.out).diag hk9 hu9);clear hk9 hu9;clear b0 b1 b2 b3 b4 b5 b6;go_wp2_with fail;go_meet;exact⟨7,0,t.m,2,_,rfl,H9.out,HNd.out,HRd.out⟩
          · have e1:((m:Int) != 2)=true:=by simpa using q1
            have HNd:Hid (failD d true 2 t.p=d.then_ (nodeD ds ps t)):=qq (failD_then d true 2 t.p _ (by rw[hnd]; exact Or.inl ⟨if_pos (Or.inl (by omega)),rfl⟩))
            clear hnd;go_upto_region 16 with fail;clear o0 o1 o2 o3 o4 f0 f1 f2 f3 f4;clear b0 b1 b2 b3 b4 b5 b6;have hp:=(HB.out).put (7) (0) 0 (t.m);obtain⟨w2,hwn⟩:∃ x,set5 W (w.heap.size+1+1) (7) (0) 0 (t.m) (.slice none 0 0)=x:=⟨_,rfl⟩;rw[hwn] at hp;unfold set5 at hwn;rw[hwn];have HP:=qq hp;clear hp hwn;obtain⟨b0,b1,b2,b3,b4,b5,b6⟩:=(HP.out).b;go_wp2_with fail;refine(fail_any g _ a1 d (true) (2) t.p w2 (HP.out).bk).mono ?_;rintro e w9 ⟨rfl,hk9,hu9⟩;have H9:=qq ((HP.out).diag hk9 hu9);clear hk9 hu9;clear b0 b1 b2 b3 b4 b5 b6;go_wp2_with fail;go_meet;exact⟨7,0,t.m,2,_,rfl,H9.out,HNd.out,HRd.out⟩
        · have d3:(t.k==3)=false:=by simpa using h3
          have hnd:=nodeDx (ds:=ds) (ps:=ps) h1 h2 h3;have HNd:Hid (failD d true 2 t.p=d.then_ (nodeD ds ps t)):=qq (failD_then d true 2 t.p _ (Or.inl ⟨hnd,rfl⟩))
          have HRd:Hid (∀ r,d.e=0→nodeD ds ps t=.ok r→r=((0,0,0),0)):=qq fun r _ hr=>by rw[hnd] at hr; cases hr
          clear h1 h2 h3 hnd;go_wp2_with fail;refine(fail_any g _ a1 d (true) (2) t.p W (HB.out).bk).mono ?_;rintro e w9 ⟨rfl,hk9,hu9⟩;have H9:=qq ((HB.out).diag hk9 hu9);clear hk9 hu9;clear o0 o1 o2 o3 o4 f0 f1 f2 f3 f4;clear b0 b1 b2 b3 b4 b5 b6;go_wp2_with fail;go_meet;exact⟨0,0,0,0,_,rfl,H9.out,HNd.out,HRd.out⟩
   case rest=>
    obtain⟨k,n,c,want,d1,rfl,hbx,hd1,hpin⟩:=hcut;obtain⟨W8,hW8⟩:∃ x,x=wc:=⟨_,rfl⟩;subst hW8;have HX:=qq hbx;have Hd1:=qq hd1;have Hpin:=qq hpin;clear hbx hd1 hpin HB HW;obtain⟨b0,b1,b2,b3,b4,b5,b6⟩:=(HX.out).b;obtain⟨bad,hbad⟩:∃ b,((m:Int) != want)=b:=⟨_,rfl⟩
    have hd2:failD d1 bad 132 t.p=d1.then_ (lenD t want ()):=failD_then d1 bad 132 t.p _ (by
     unfold lenD;rw[hlen,← hbad]
     by_cases q:(m:Int)=want
     · exact Or.inr ⟨⟨(),if_neg (by simpa using q)⟩,by simpa using q⟩
     · exact Or.inl ⟨if_pos q,by simpa using q⟩)
    have Hd:=qq hd2;clear hd2;go_wp2_with fail;refine(fail_any g _ a1 d1 bad 132 t.p W8 HX.out.bk).mono ?_;rintro e w9 ⟨rfl,hk9,hu9⟩;have hmk:=TyMk.start (HX.out.diag hk9 hu9);obtain⟨d2,hd2⟩:∃ x,failD d1 bad 132 t.p=x:=⟨_,rfl⟩;rw[hd2] at hmk;have Hd2:Hid (d2=d1.then_ (lenD t want ())):=qq (hd2.symm.trans Hd.out);have Hmk:=qq hmk;clear b0 b1 b2 b3 b4 b5 b6;clear hk9 hu9 hmk hd2 hbad Hd HX;obtain⟨b0,b1,b2,b3,b4,b5,b6⟩:=(Hmk.out).b;go_wp2_with fail;clear b0 b1 b2 b3 b4 b5 b6
    go_loopg [104] m (fun gh i wr=>∃ (xs:List TyD) (A5:Option Addr) (c5:Nat) (d3:DiagD),xs.length≤m∧gh=m - xs.length∧i=.int .i64 (xs.length:Nat)∧TyMk w g t A m cp (.slice Ad nd cd) a1 d3 k n c xs A5 c5 wr∧Kids ds ps d2 (t.l.take xs.length) d3 xs)
    case atStart=>exact⟨[],none,0,d2,Nat.zero_le _,rfl,rfl,Hmk.out,Kids.nil⟩
    case round=>
     obtain⟨xs,A5,c5,d3,hj,rfl,rfl,hmk,hkd⟩:=hrel
     by_cases hjm:xs.length<m
     · have d0:decide (xs.length<m)=true:=by simpa using hjm
       obtain⟨b,off,rfl,hb,hc⟩:=tysW_at (HL.out.but hmk.bu) (by omega)
       have hj':xs.length<t.l.length:=by omega
       obtain⟨e0,e1,e2,e3,e4,e5,Ax,mx,cx,e6,hx⟩:=hc _ hj';have hnx:=HN.out _ hj';have hst:t.l.take (xs.length+1)=t.l.take xs.length++[t.l[xs.length]]:=List.take_succ_eq_append_getElem hj';have hrs:t.l.take xs.length++t.l.drop xs.length=t.l:=List.take_append_drop _ _;obtain⟨x,hxk⟩:∃ x,t.l[xs.length]=x:=⟨_,rfl⟩;rw[hxk] at e0 e1 e2 e3 e4 e5 hx hnx hst;obtain⟨j,hjx⟩:∃ j,xs.length=j:=⟨_,rfl⟩;have Hjx:=qq hjx;rw[hjx] at e0 e1 e2 e3 e4 e5 e6 hst hrs hjm d0 hj
       have k1:(0:Int)≤(j:Int):=by omega
       have k2:(j:Int)<m:=by omega
       have HM:=qq hmk;have HK:=qq hkd;have Hx:=qq hx;have Hst:=qq hst;have Hrs:=qq hrs;rw[hjx];clear hmk hkd hx hst hrs hc hxk hj' hjx;go_upto_region 21 with fail;have hbx:=below_box (w:=wr) (Obj.cells (wCells x Ax mx cx) 47);have hkx:=blk_new wr (wCells x Ax mx cx) 47;unfold wCells at hbx hkx;have hwr:w.heap.size+1+1<wr.heap.size:=HM.out.bo.1.lt
       have hgr:g≠wr.heap.size:=by have:=HM.out.gw; omega
       have hob:some wr.heap.size≠(Value.slice A5 xs.length c5).ownBlock:=fun e=>by have:=(HM.out.bo.2.1.lt _ e.symm).2; omega
       obtain⟨w1,hw1⟩:∃ q,wr.alloc (Obj.cells #[.int .u8 x.k,.string x.s,.int .u8 x.m,.int .i64 x.p.at_,.int .i64 x.p.line,.int .i64 x.p.col,.slice Ax mx cx] 47)=q:=⟨_,rfl⟩;rw[hw1] at hbx hkx ⊢;have hm1:=HM.out.below hbx;have hx1:=Hx.out.but (But.of hbx);have hde:=hm1.de;have Hm1:=qq hm1;have Hx1:=qq hx1;have Hk1:=qq hkx;clear hbx hkx hw1 hm1 hx1 HM Hx e0 e1 e2 e3 e4 e5 e6
       by_cases hz:d3.e=0
       · have dz:(d3.e != 0)=false:=by simp[hz]
         have hfew:=fewD HPar.out Hd1.out Hpin.out Hd2.out HK.out hz;rw[hlen] at hfew
         have hm6:xs.length≤1000000:=by have:=Hjx.out; omega
         have Hz:=qq hz;have hheld:HeldU (w.heap.size+1+1) (.slice A5 xs.length c5) wr.heap.size x Ax mx cx w1:=⟨Hm1.out.o.2.2.2.2,Hk1.out.cell 0,Hk1.out.cell 1,Hk1.out.cell 2,Hk1.out.cell 3,Hk1.out.cell 4,Hk1.out.cell 5,Hk1.out.cell 6⟩;have Hheld:=qq hheld;have hl1:=Hk1.out.lt;clear hz hfew hheld;obtain⟨i0,hi0,hz0,hz1,hz2⟩:=info_parts typeInfo;go_wp2_with fail;refine wp_region_noPanic ?_;refine wp_region_T (fun w'=>w'.cell? ⟨w.heap.size+1+1,4,none⟩=some (.slice A5 xs.length c5)∧w'.cell? ⟨wr.heap.size,0,none⟩=some (.int .u8 x.k)∧w'.cell? ⟨wr.heap.size,1,none⟩=some (.string x.s)∧w'.cell? ⟨wr.heap.size,2,none⟩=some (.int .u8 x.m)∧w'.cell? ⟨wr.heap.size,3,none⟩=some (.int .i64 x.p.at_)∧w'.cell? ⟨wr.heap.size,4,none⟩=some (.int .i64 x.p.line)∧w'.cell? ⟨wr.heap.size,5,none⟩=some (.int .i64 x.p.col)∧w'.cell? ⟨wr.heap.size,6,none⟩=some (.slice Ax mx cx)) 8 (by kernel_rfl) Hheld.out (fun hHeld=>?_);have hbd:Below w1.heap.size w1 w1.drew:=Below.drew (Below.refl _ _);have hmd:=Hm1.out.below hbd;have hxd:=Hx1.out.but (But.of hbd);have hq:=Ih.out x hnx Ax mx cx d3 w1.drew hxd (HD.out.but hmd.bu) (HS.out.but hmd.bu) hmd.bk;have hsd:w1.drew.heap.size=w1.heap.size:=rfl;have hheld:HeldU (w.heap.size+1+1) (.slice A5 xs.length c5) wr.heap.size x Ax mx cx w1.drew:=Hheld.out.keep (hbd.block _ (by omega)) (hbd.block _ hl1);generalize w1.drew=W0 at hHeld hmd hq hsd hheld ⊢;clear hbd hxd Hheld;have Hq:=qq hq;have Hmd:=qq hmd;have Hheld:=qq hheld;clear hq hmd hheld;refine nx0 0 ?_
         iterate 5 (refine nx (v:=?_) rfl (by kernel_rfl) (fun _ _ _ h=>h) (by kernel_rfl) ?_ (by assumption) ?_; rotate_left; (focus (intro w hSw; (try dsimp only at hSw); first | (go_simp; done) | (go_simp; with_reducible rfl))); try simp only[Act.put,qg,qe,qf,qd,qh,qi,Nat.reduceAdd])
         refine nx9 ?_;refine wpAnyT_step (i:=5) (by kernel_rfl) rfl (fun K hK=>?_)
         (go_simp; refine Hq.out.mono ?_; rintro e w2 ⟨y,A7,m7,c7,d4,rfl,h7,hk7,hd7,hp7,hu7⟩; have H2:=qq (Hmd.out.diag hk7 hu7); have hl2:wr.heap.size<w2.heap.size:=(by have:=hu7.size; omega); have hs2:w.heap.size+1+1+1≤w2.heap.size:=H2.out.bo.1.lt; have hh2:HeldU (w.heap.size+1+1) (.slice A5 xs.length c5) wr.heap.size x Ax mx cx w2:=Hheld.out.keep (hu7.block _ (by omega) (by have:=Hmd.out.gw; omega)) (hu7.block _ (by omega) (fun e=>hgr e.symm)); have Hh2:=qq hh2; clear hh2)
         refine hK.out _ _ Hh2.out ?_;clear hK K
         try simp only[Act.put,qg,qe,qf,qd,qh,qi]
         have hh3:HeldU (w.heap.size+1+1) (.slice A5 xs.length c5) wr.heap.size x Ax mx cx (w2.alloc (Obj.cells #[.int .u8 y.k,.int .i64 y.n,.int .i64 y.v,.int .u8 y.c,.slice A7 m7 c7] 63)):=Hh2.out.keep (Below.heap_alloc _ _ _ (by omega)) (Below.heap_alloc _ _ _ (by omega));have Hh3:=qq hh3
         have hcV:CelsV w2 (fun b=>b<w2.heap.size∧some b≠(Value.slice A5 xs.length c5).ownBlock∧¬ (0≤b∧b<w.heap.size+1+1+1)) (encT y) [.int .u8 y.k,.int .i64 y.n,.int .i64 y.v,.int .u8 y.c,.slice A7 m7 c7]:=tyC (h7.mono fun q hq=>by
          have hq1:W0.heap.size≤q:=hq.1
          refine⟨hq.2,fun e=>?_,by omega⟩
          have:=(Hmd.out.bo.2.1.lt q e.symm).2
          omega)
         have HcV:=qq hcV;have Hk7:=qq hk7;have Hd7:=qq hd7;have Hp7:=qq hp7;clear hh3 hcV h7 hk7 hd7 hp7 hu7;refine wpAnyT_step (i:=6) (by kernel_rfl) rfl (fun K hK=>?_);go_simp;refine hK.out _ _ Hh3.out ?_;clear hK K
         try simp only[Act.put,qg,qe,qf,qd,qh,qi]
         refine wpAnyT_step (i:=7) (by kernel_rfl) rfl (fun K hK=>?_)
         (refine step_append_cel (B0:=w.heap.size+1+1+1) w2 w2 (by rfl) (.tmp 115) (.tmp 120) 56 (by rfl) (w.heap.size+1+1+1) 63 i0 _ 5 56 Tryd.underlying56 hi0 hz0 hz1 hz2 rfl (by omega) (fun b=>0≤b∧b<w.heap.size+1+1+1) (.slice A5 xs.length c5) xs.length _ (by rfl) [.int .u8 y.k,.int .i64 y.n,.int .i64 y.v,.int .u8 y.c,.slice A7 m7 c7] (encT y) rfl (by intro u hu; simp at hu; rcases hu with rfl | rfl | rfl | rfl | rfl <;> rfl) (by rfl) H2.out.bo.2.1 HcV.out (by unfold maxLen; omega) (by omega) (Below.refl _ _) (Nat.le_refl _) (by omega) ?_; intro A8 c8 w8 ho8 hbel8 hg8 hsz8 _)
         refine hK.out _ _ (Hh2.out.keep (hg8.block (w.heap.size+1+1) (by omega) (H2.out.own (by omega))) (hg8.block _ hl2 hob)) ?_;clear hK K
         try simp only[Act.put,qg,qe,qf,qd,qh,qi]
         have q4:w8.cell? ⟨w.heap.size+1+1,4,none⟩=some (.slice A5 xs.length c5):=(World.cell?_of_block (hg8.block (w.heap.size+1+1) (by omega) (H2.out.own (by omega)))).trans H2.out.o.2.2.2.2;have fq:w8.frozen? ⟨w.heap.size+1+1,4,none⟩=false:=(H2.out.bo.1.grown hg8 (H2.out.own (by omega))).frozen 4;have hp:=H2.out.push y ho8 hg8;have Hp:=qq hp;clear hp ho8 hbel8 hg8 hsz8;refine wpAnyT_seq 8 (by omega) (by rfl) (by kernel_rfl) ?_;simp only[List.drop_succ_cons,List.drop_zero];go_wp2_with fail;refine NoPanic.normal ?_;clear q4 fq
         have hxl:(xs++[y]).length=j+1:=by rw[List.length_append,Hjx.out]; rfl
         have hkd:Kids ds ps d2 (t.l.take (j+1)) d4 (xs++[y]):=by
          rw[Hst.out];have h:=HK.out;rw[Hjx.out] at h;exact h.go Hz.out Hd7.out Hp7.out
         have Hkd:=qq hkd;clear hkd;go_wp2_with fail;go_roundg (m - (j+1))
         case measure=>have:=Hjx.out; omega
         case rel=>exact⟨xs++[y],A8,c8,d4,by omega,by rw[hxl],by rw[hxl]; go_num,Hp.out,by rw[hxl]; exact Hkd.out⟩
       · have dz:(d3.e != 0)=true:=by simpa using hz
         have HKx:Hid (Kids ds ps d2 t.l d3 xs):=qq (by
          have h:=Kids.stop (r:=t.l.drop j) (by have h2:=HK.out; rw[Hjx.out] at h2; exact h2) hz
          rw[Hrs.out] at h
          exact h)
         obtain⟨o0,o1,o2,o3,o4⟩:=(Hm1.out).o;obtain⟨r0,r1,r2,r3,r4⟩:=(Hm1.out).r;have s0:=(Hm1.out).br.frozen 0;have s1:=(Hm1.out).br.frozen 1;have s2:=(Hm1.out).br.frozen 2;have s3:=(Hm1.out).br.frozen 3;have s4:=(Hm1.out).br.frozen 4;go_wp2_with fail;obtain⟨wz,hwz⟩:∃ x,set5 (w1) (w.heap.size+1) k n 0 c (.slice A5 xs.length c5)=x:=⟨_,rfl⟩;obtain⟨z1,z2,z3,z4⟩:=(Hm1.out).done hwz;unfold set5 at hwz;rw[hwz];have d0':=z1.cell 0;have d1':=z1.cell 1;have d2':=z1.cell 2;have d3':=z1.cell 3;have d4':=z1.cell 4;unfold tCells at d0' d1' d2' d3' d4';simp only[qc,qb,qa] at d0' d1' d2' d3' d4';obtain⟨y1,y2⟩:=tyE_whole Hd1.out Hpin.out Hd2.out (HKx.out);exact bodyPost_ret (v:=.agg #[.int .u8 k,.int .i64 n,.int .i64 0,.int .u8 c,.slice A5 xs.length c5]) (by simp[results,Tryd.results71,go_sem,d0',d1',d2',d3',d4']) rfl ⟨⟨k,n,0,c,xs⟩,A5,xs.length,c5,d3,rfl,z2,z3,y1,y2,z4⟩
     · have d0:decide (xs.length<m)=false:=by simpa using hjm
       have hall:t.l.take xs.length=t.l:=List.take_of_length_le (by omega);rw[hall] at hkd;have HM:=qq hmk;have HK:=qq hkd;clear hmk hkd hall;obtain⟨o0,o1,o2,o3,o4⟩:=(HM.out).o;obtain⟨r0,r1,r2,r3,r4⟩:=(HM.out).r;have s0:=(HM.out).br.frozen 0;have s1:=(HM.out).br.frozen 1;have s2:=(HM.out).br.frozen 2;have s3:=(HM.out).br.frozen 3;have s4:=(HM.out).br.frozen 4;go_wp2_with fail;obtain⟨wz,hwz⟩:∃ x,set5 (wr) (w.heap.size+1) k n 0 c (.slice A5 xs.length c5)=x:=⟨_,rfl⟩;obtain⟨z1,z2,z3,z4⟩:=(HM.out).done hwz;unfold set5 at hwz;rw[hwz];have d0':=z1.cell 0;have d1':=z1.cell 1;have d2':=z1.cell 2;have d3':=z1.cell 3;have d4':=z1.cell 4;unfold tCells at d0' d1' d2' d3' d4';simp only[qc,qb,qa] at d0' d1' d2' d3' d4';obtain⟨y1,y2⟩:=tyE_whole Hd1.out Hpin.out Hd2.out (HK.out);exact bodyPost_ret (v:=.agg #[.int .u8 k,.int .i64 n,.int .i64 0,.int .u8 c,.slice A5 xs.length c5]) (by simp[results,Tryd.results71,go_sem,d0',d1',d2',d3',d4']) rfl ⟨⟨k,n,0,c,xs⟩,A5,xs.length,c5,d3,rfl,z2,z3,y1,y2,z4⟩
theorem consW_at {w:World} {S:Nat→Prop} {A:Option Addr} {n c:Nat} {l:List ConW} (h:Sl w S encC 5 l A n c) (hn:0<n):∃ b off,A=some ⟨b,off,none⟩∧S b∧∀ i (h:i<l.length),w.cell? ⟨b,off+i * 5,none⟩=some (.string l[i].name)∧w.cell? ⟨b,off+i * 5+1,none⟩=some (.int .i64 l[i].p.at_)∧w.cell? ⟨b,off+i * 5+2,none⟩=some (.int .i64 l[i].p.line)∧w.cell? ⟨b,off+i * 5+3,none⟩=some (.int .i64 l[i].p.col) ∧
  ∃ A' m' c',w.cell? ⟨b,off+i * 5+4,none⟩=some (.slice A' m' c')∧Sl w S encF 8 l[i].fields A' m' c':=by
 obtain⟨b,off,e,hb,hr⟩:=h.at_ encC_len hn;refine⟨b,off,e,hb,fun i hi=>?_⟩;have:=hr i hi;unfold encC at this;simp only[celsIn_cons,celIn_v,sl_iff (enc:=encF) (k:=8) encF_len (by omega)] at this;obtain⟨⟨u0,h0,rfl⟩,⟨u1,h1,rfl⟩,⟨u2,h2,rfl⟩,⟨u3,h3,rfl⟩,⟨u4,h4,A',m',c',rfl,h5⟩,_⟩:=this;exact⟨h0,h1,h2,h3,A',m',c',h4,h5⟩
theorem fieldsW_at {w:World} {S:Nat→Prop} {A:Option Addr} {n c:Nat} {l:List FieldD} (h:Sl w S encF 8 l A n c) (hn:0<n):∃ b off,A=some ⟨b,off,none⟩∧S b∧∀ i (h:i<l.length),w.cell? ⟨b,off+i * 8,none⟩=some (.int .u8 l[i].m)∧w.cell? ⟨b,off+i * 8+1,none⟩=some (.int .u8 l[i].t.k)∧w.cell? ⟨b,off+i * 8+2,none⟩=some (.string l[i].t.s)∧w.cell? ⟨b,off+i * 8+3,none⟩=some (.int .u8 l[i].t.m) ∧
  w.cell? ⟨b,off+i * 8+4,none⟩=some (.int .i64 l[i].t.p.at_)∧w.cell? ⟨b,off+i * 8+5,none⟩=some (.int .i64 l[i].t.p.line)∧w.cell? ⟨b,off+i * 8+6,none⟩=some (.int .i64 l[i].t.p.col)∧∃ A' m' c',w.cell? ⟨b,off+i * 8+7,none⟩=some (.slice A' m' c')∧Sl w S encW 7 l[i].t.l A' m' c':=by
 obtain⟨b,off,e,hb,hr⟩:=h.at_ encF_len hn;refine⟨b,off,e,hb,fun i hi=>?_⟩;have:=hr i hi;unfold encF at this;rw[encW_eq] at this;simp only[celsIn_cons,celIn_v,sl_iff (enc:=encW) (k:=7) encW_len (by omega)] at this;obtain⟨⟨u0,h0,rfl⟩,⟨u1,h1,rfl⟩,⟨u2,h2,rfl⟩,⟨u3,h3,rfl⟩,⟨u4,h4,rfl⟩,⟨u5,h5,rfl⟩,⟨u6,h6,rfl⟩,⟨u7,h7,A',m',c',rfl,h8⟩,_⟩:=this;exact⟨h0,h1,h2,h3,h4,h5,h6,A',m',c',h7,h8⟩
theorem fieldInfo:(Tryd.prog.info? 109).map (fun i=>(i.zero,i.size,i.bytes))=some (some (.agg #[.int .u8 0,.int .u8 0,.int .i64 0,.int .i64 0,.int .u8 0,.slice none 0 0]),6,64):=by kernel_rfl
structure SigB (s:SigD):Prop where
 ln:s.cons.length≤100
 nm:∀ y∈s.datas,y.cons.length≤s.cons.length
 pr:∀ y∈s.datas,y.params≤1000000
 dl:s.datas.length≤1000000
theorem SigB.add {s:SigD} (h:SigB s) (n:Nat) (c:ConD) (hl:s.cons.length<100):SigB (addCon s n c):=by
 have hmem:∀ y∈(addCon s n c).datas,∃ z∈s.datas,y.params=z.params∧y.cons.length≤z.cons.length+1:=by
  intro y hy
  obtain⟨i,hi,rfl⟩:=List.getElem_of_mem (show y∈s.datas.modify n (fun d => { d with cons:=d.cons++[(s.cons.length:Int)] }) from hy)
  have hi':i<s.datas.length:=by simpa using hi
  refine⟨s.datas[i],List.getElem_mem hi',?_⟩;rw[List.getElem_modify]
  split
  · refine⟨rfl,?_⟩
    show(s.datas[i].cons++[_]).length≤_;rw[List.length_append,List.length_singleton];omega
  · exact⟨rfl,by omega⟩
 have hcl:(addCon s n c).cons.length=s.cons.length+1:=by
  show(s.cons++[c]).length=_;rw[List.length_append,List.length_singleton]
 refine⟨by omega,fun y hy=>?_,fun y hy=>?_,?_⟩
 · obtain⟨z,hz,_,h2⟩:=hmem y hy
   have:=h.nm z hz;omega
 · obtain⟨z,hz,h1,_⟩:=hmem y hy
   rw[h1];exact h.pr z hz
 · show(s.datas.modify n _).length≤_
   rw[List.length_modify];exact h.dl
theorem addCon_datas (s:SigD) (n:Nat) (c:ConD):(addCon s n c).datas.length=s.datas.length:=by
 show(s.datas.modify n _).length=_;rw[List.length_modify]
theorem con_end {s:SigD} {n:Nat} {ps:List ByteArray} {c:ConW} {d d4:DiagD} {fs:List (Int × TyD)} (h0:d.e=0) (hc:conE s n ps c=match fieldsE s.datas ps c.p c.fields with
  | .error g=>.error g
  | .ok fs=>.ok (addCon s n ⟨c.name,n,fs.map (·.2),fs.map (·.1)⟩)) (hF:FoldP (fieldS s.datas ps c.p) [] d c.fields fs d4):
  d4=d.then_ (conE s n ps c)∧∀ s',conE s n ps c=.ok s'→addCon s n ⟨c.name,n,fs.map Prod.snd,fs.map Prod.fst⟩=s':=by
 obtain⟨h1,h2⟩:=hF;rw[← fieldsE_eq] at h1 h2;rw[hc];rw[then_z h0] at h1 ⊢;generalize fieldsE s.datas ps c.p c.fields=E at h1 h2 ⊢
 cases E with
 | error g=>exact⟨h1,fun s' q=>by cases q⟩
 | ok z=>
   have:=h2 z h0 rfl;subst this
   exact⟨h1,fun s' q=>by injection q⟩
theorem body_end {n:Nat} {s s':SigD} {x:DeclD} {d d':DiagD} {b:Bool} (h0:d.e=0) (hb:b=true↔x.cons=[]) (hF:FoldP (fun s c=>conE s n x.params c) s (failD d b 2 x.p) x.cons s' d'):d'=d.then_ (bodyE n s x)∧∀ z,bodyE n s x=.ok z→s'=z:=by
 obtain⟨h1,h2⟩:=hF;rw[← consE_eq] at h1 h2;unfold bodyE
 cases b with
 | true=>
   have hx:=hb.1 rfl;rw[failD_hit h0] at h1
   rw[then_ne (show(⟨2,x.p⟩:DiagD).e≠0 from(by decide:(2:Int)≠0))] at h1
   rw[if_pos hx,then_z h0]
   exact⟨h1,fun z q=>by cases q⟩
 | false=>
   have hx:x.cons≠[]:=fun q=>by have:=hb.2 q; cases this
   rw[failD_no'] at h1 h2;rw[if_neg hx];exact⟨h1,fun z q=>h2 z h0 q⟩
theorem con_stop {s:SigD} {n:Nat} {ps:List ByteArray} {c:ConW} {d d3:DiagD} {s0:SigD} {d0:DiagD} {l r:List ConW} {b1 b2 b3:Bool} (hF:FoldP (fun s c=>conE s n ps c) s0 d0 l s d) (h1:b1=true↔100≤s.cons.length) (h2:b2=true↔0≤idxC s.cons c.name) (h3:b3=true↔8<c.fields.length)
  (hd:d3=failD (failD (failD d b1 3 c.p) b2 130 c.p) b3 3 c.p) (hne:d3.e≠0):FoldP (fun s c=>conE s n ps c) s0 d0 (l++[c]++r) s d3:=by
 by_cases h0:d.e=0
 · rcases con_law s n ps c d b1 b2 b3 h0 h1 h2 h3 with ⟨_,q2,q3⟩ | ⟨q1,_⟩
   · rw[← hd] at q2
     exact(hF.go (s1:=s) (fun _ _ _=>conE_ne) h0 q2 fun s' q=>absurd q (q3 s')).stop hne s
   · rw[hd,q1] at hne
     exact absurd h0 hne
 · rw[failD_ne h0,failD_ne h0,failD_ne h0] at hd
   rw[hd];rw[List.append_assoc];exact hF.stop h0 s
theorem failD_zero {d:DiagD} {b:Bool} {x:Int} {p:PosD} (h:(failD d b x p).e=0) (hx:x≠0):d.e=0∧b=false:=by
 unfold failD at h
 cases b
 · exact⟨by simpa using h,rfl⟩
 · by_cases q:d.e=0
   · simp[q] at h
     exact absurd h hx
   · simp[q] at h
structure CnS (w:World) (g base:Nat) (R:Nat→Prop) (x:DeclD) (Ap:Option Addr) (np cp:Nat) (Ac:Option Addr) (nc cc:Nat) (vd vc0:Value) (vs0:List Value) (s:SigD) (vc:Value) (vs:List Value) (d:DiagD) (wx:World):Prop where
 bk:Blk wx g 91 (mkC vd vc d)
 bb:Blk wx w.heap.size 40 (dlCells x Ap np cp Ac nc cc)
 sm:SigM wx base R s vd vc vs
 bu:ButS g (RowB vd vc0 vs0) w wx
 rw_:∀ b,RowB vd vc vs b→RowB vd vc0 vs0 b∨w.heap.size<b
 no:¬ RowB vd vc vs g
 gw:g<w.heap.size
 sb:SigB s
section
variable {w wx wy:World} {g base:Nat} {R:Nat→Prop} {x:DeclD} {Ap:Option Addr} {np cp:Nat} {Ac:Option Addr} {nc cc:Nat} {vd vc0:Value} {vs0:List Value} {s:SigD} {vc:Value} {vs:List Value} {d d':DiagD}
theorem ButS.but {rows:Nat→Prop} (h:ButS g rows w wx) (hb:But g wx wy):ButS g rows w wy:=
 ⟨hb.os.trans h.os,hb.tape.trans h.tape,hb.output.trans h.output,Nat.le_trans h.size hb.size,fun k hk h1 h2=>(hb.block k (Nat.lt_of_lt_of_le hk h.size) h1).trans (h.block k hk h1 h2)⟩
theorem CnS.below (h:CnS w g base R x Ap np cp Ac nc cc vd vc0 vs0 s vc vs d wx) (hb:Below wx.heap.size wx wy):CnS w g base R x Ap np cp Ac nc cc vd vc0 vs0 s vc vs d wy:=
 ⟨h.bk.below hb h.bk.lt,h.bb.below hb h.bb.lt,h.sm.below hb,h.bu.below hb,h.rw_,h.no,h.gw,h.sb⟩
theorem CnS.diag (h:CnS w g base R x Ap np cp Ac nc cc vd vc0 vs0 s vc vs d wx) (hR:R g) (hk:Blk wy g 91 (mkC vd vc d')) (hb:But g wx wy):CnS w g base R x Ap np cp Ac nc cc vd vc0 vs0 s vc vs d' wy:=
 ⟨hk,h.bb.but hb (by have:=h.gw; omega),h.sm.but hb h.no hR,h.bu.but hb,h.rw_,h.no,h.gw,h.sb⟩
theorem CnS.c (h:CnS w g base R x Ap np cp Ac nc cc vd vc0 vs0 s vc vs d wx):wx.cell? ⟨w.heap.size,2,none⟩=some (.int .i64 x.p.at_)∧wx.cell? ⟨w.heap.size,3,none⟩=some (.int .i64 x.p.line)∧wx.cell? ⟨w.heap.size,4,none⟩=some (.int .i64 x.p.col)∧wx.cell? ⟨w.heap.size,5,none⟩=some (.slice Ap np cp)∧wx.cell? ⟨w.heap.size,6,none⟩=some (.slice Ac nc cc)∧wx.cell? ⟨g,0,none⟩=some vd∧wx.cell? ⟨g,1,none⟩=some vc∧wx.cell? ⟨g,2,none⟩=some (.int .i64 d.e):=
 ⟨h.bb.cell 2,h.bb.cell 3,h.bb.cell 4,h.bb.cell 5,h.bb.cell 6,h.bk.cell 0,h.bk.cell 1,h.bk.cell 2⟩
theorem CnS.low {B:Nat} (h:CnS w g base R x Ap np cp Ac nc cc vd vc0 vs0 s vc vs d wx) (hg:B≤g) (hw:B≤w.heap.size) (hr:∀ b,RowB vd vc0 vs0 b→B≤b):Below B w wx:=
 ⟨h.bu.os,h.bu.tape,h.bu.output,h.bu.size,fun k hk=>h.bu.block k (by omega) (by omega) fun e=>by have:=hr k e; omega⟩
theorem CnS.con (h:CnS w g base R x Ap np cp Ac nc cc vd vc0 vs0 s vc vs d wx) (hw:w.heap.size<wx.heap.size) {n:Nat} {c:ConD} {vc' vn:Value} (hl:s.cons.length<100) (hk:Blk wy g 91 (mkC vd vc' d')) (hs:SigM wy base R (addCon s n c) vd vc' (vs.set n vn)) (hb:ButS g (RowB vd vc vs) wx wy) (hr:∀ b,RowB vd vc' (vs.set n vn) b→RowB vd vc vs b∨wx.heap.size≤b) (hg:g<wx.heap.size) (h0:∀ b,RowB vd vc0 vs0 b→b<w.heap.size):
  CnS w g base R x Ap np cp Ac nc cc vd vc0 vs0 (addCon s n c) vc' (vs.set n vn) d' wy:=by
 have hne:¬ RowB vd vc vs w.heap.size:=fun e=>by
  rcases h.rw_ _ e with q | q
  · have:=h0 _ q; omega
  · omega
 refine⟨hk,(hb.block _ h.bb.lt (by have:=h.gw; omega) hne).trans h.bb,hs,⟨hb.os.trans h.bu.os,hb.tape.trans h.bu.tape,hb.output.trans h.bu.output,Nat.le_trans h.bu.size hb.size,fun k hk h1 h2=>(hb.block k (Nat.lt_of_lt_of_le hk h.bu.size) h1 fun e=>?_).trans (h.bu.block k hk h1 h2)⟩,fun b hb'=>?_,fun e=>?_,h.gw,h.sb.add n c hl⟩
 · rcases h.rw_ _ e with q | q
   · exact h2 q
   · omega
 · rcases hr b hb' with q | q
   · exact h.rw_ b q
   · exact Or.inr (by omega)
 · rcases hr g e with q | q
   · exact h.no q
   · omega
end
structure FdS (wi:World) (g:Nat) (vd vc:Value) (fs:List (Int × TyD)) (A5:Option Addr) (c5:Nat) (d:DiagD) (wr:World):Prop where
 bk:Blk wr g 91 (mkC vd vc d)
 bu:But g wi wr
 ow:OwnC wr wi.heap.size 109 6 (fun b=>b<wi.heap.size) (.slice A5 fs.length c5) fs.length (fs.flatMap encFt)
 gw:g<wi.heap.size
section
variable {wi wr wy:World} {g:Nat} {vd vc:Value} {fs:List (Int × TyD)} {A5:Option Addr} {c5:Nat} {d d':DiagD}
theorem FdS.start (h:Blk wi g 91 (mkC vd vc d)):FdS wi g vd vc [] none 0 d wi:=⟨h,But.refl _ _,OwnC.nil,h.lt⟩
theorem FdS.below (h:FdS wi g vd vc fs A5 c5 d wr) (hb:Below wr.heap.size wr wy):FdS wi g vd vc fs A5 c5 d wy:=⟨h.bk.below hb h.bk.lt,h.bu.then hb,h.ow.beyond hb,h.gw⟩
theorem FdS.diag (h:FdS wi g vd vc fs A5 c5 d wr) (hk:Blk wy g 91 (mkC vd vc d')) (hb:But g wr wy):FdS wi g vd vc fs A5 c5 d' wy:=⟨hk,h.bu.trans hb,h.ow.but hb h.gw h.gw,h.gw⟩
theorem FdS.push (h:FdS wi g vd vc fs A5 c5 d wr) (u:Int × TyD) {A6:Option Addr} {c6:Nat} (ho:OwnC wy wi.heap.size 109 6 (fun b=>b<wi.heap.size) (.slice A6 (fs.length+1) c6) (fs.length+1) (fs.flatMap encFt++encFt u)) (hg:wr.grownBy wy (Value.slice A5 fs.length c5).ownBlock):FdS wi g vd vc (fs++[u]) A6 c6 d wy:=by
 have hno:∀ b,b<wi.heap.size→some b≠(Value.slice A5 fs.length c5).ownBlock:=fun b hb e=>by
  have:=(h.ow.lt' e.symm).1;omega
 refine⟨h.bk.grown hg (hno g h.gw),⟨hg.os.trans h.bu.os,hg.tape.trans h.bu.tape,hg.output.trans h.bu.output,Nat.le_trans h.bu.size hg.size,fun k hk hne=>(hg.block k (Nat.lt_of_lt_of_le hk h.bu.size) (hno k hk)).trans (h.bu.block k hk hne)⟩,?_,h.gw⟩;rw[List.length_append,List.flatMap_append,List.flatMap_cons,List.flatMap_nil,List.append_nil];exact ho
end
end Go.Proofs.YtgpeijkjmkocgaaDoor
