import Derived.Test.YtgpeijkjmkocgaaDoorM29
set_option linter.unusedVariables false
set_option linter.unusedSimpArgs false
set_option maxHeartbeats 8000000
set_option maxRecDepth 100000
namespace Go.Proofs.YtgpeijkjmkocgaaDoor
open Go.RowKit
theorem encW_info:(Tryd.prog.info? 63).map (·.size)=some (tCells 0 0 0 0 (.slice none 0 0)).size:=by kernel_rfl
theorem dg_info:(Tryd.prog.info? 30).map (·.size)=some (dgC diagZ).size:=by kernel_rfl
theorem refTy_go (s:SigD) (ps:List ByteArray) (Ap:Option Addr) (np cp':Nat) (A1:Option Addr) (n1 c1:Nat) (A2:Option Addr) (n2 c2:Nat) (hpar:∀ x∈s.datas,x.params≤1000000) (N:Nat):∀ (t:TyW),nodesW t≤N→∀ (A:Option Addr) (m cp:Nat) (w:World),Sl w (Lt w.heap.size) encW 7 t.l A m cp→SigR w (Lt w.heap.size) s A1 n1 c1 A2 n2 c2→Sl w (Lt w.heap.size) encS 1 ps Ap np cp' →
  Calls Tryd.prog 80 #[.agg #[.slice A1 n1 c1,.slice A2 n2 c2],.agg #[.int .u8 t.k,.string t.s,.int .u8 t.m,.int .i64 t.p.at_,.int .i64 t.p.line,.int .i64 t.p.col,.slice A m cp],.slice Ap np cp'] w (RTyPost s.datas ps t w):=by
 induction N with
 | zero=>intro t hN; exact absurd hN (by rw[nodesW_eq t]; omega)
 | succ N ih=>
   intro t hN A m cp w hl hg hs;have hlen:=hl.len;have m63:m≤9223372036854775807:=hl.cap
   have HN:Hid (∀ i (h:i<t.l.length),nodesW t.l[i]≤N):=qq fun i h=>by have:=nodesW_get h; omega
   have Ih:=qq ih;have HPar:=qq hpar
   obtain⟨W,hW,hbx⟩:∃ W,((((w.alloc (Obj.cells #[.slice A1 n1 c1,.slice A2 n2 c2] 25)).alloc (Obj.cells #[.int .u8 t.k,.string t.s,.int .u8 t.m,.int .i64 t.p.at_,.int .i64 t.p.line,.int .i64 t.p.col,.slice A m cp] 47)).alloc (Obj.cells #[.int .u8 0,.int .i64 0,.int .i64 0,.int .u8 0,.slice none 0 0] 63)).alloc (Obj.cells #[.int .i64 0,.int .i64 0,.int .i64 0,.int .i64 0] 30)).alloc (Obj.cells #[.int .u8 0,.int .i64 0,.int .i64 0,.int .u8 0,.slice none 0 0] 63)=W∧RTy w t A m cp (.slice A1 n1 c1) (.slice A2 n2 c2) 0 0 0 [] none 0 W:=by
    obtain⟨W1,h1⟩:∃ x,w.alloc (Obj.cells #[.slice A1 n1 c1,.slice A2 n2 c2] 25)=x:=⟨_,rfl⟩
    have s1:W1.heap.size=w.heap.size+1:=by rw[← h1]; simp
    have k1:=blk_new w #[.slice A1 n1 c1,.slice A2 n2 c2] 25;have g1:=below_box (w:=w) (Obj.cells #[.slice A1 n1 c1,.slice A2 n2 c2] 25);rw[h1] at k1 g1;obtain⟨W2,h2⟩:∃ x,W1.alloc (Obj.cells (wCells t A m cp) 47)=x:=⟨_,rfl⟩
    have s2:W2.heap.size=w.heap.size+1+1:=by rw[← h2,← s1]; simp
    have k2:=blk_new W1 (wCells t A m cp) 47;have g2:=below_box (w:=W1) (Obj.cells (wCells t A m cp) 47);rw[h2,s1] at k2 g2;obtain⟨W3,h3⟩:∃ x,W2.alloc (Obj.cells (tCells 0 0 0 0 (.slice none 0 0)) 63)=x:=⟨_,rfl⟩
    have s3:W3.heap.size=w.heap.size+1+1+1:=by rw[← h3,← s2]; simp
    have k3:=blk_new W2 (tCells 0 0 0 0 (.slice none 0 0)) 63;have g3:=below_box (w:=W2) (Obj.cells (tCells 0 0 0 0 (.slice none 0 0)) 63);rw[h3,s2] at k3 g3;obtain⟨W4,h4⟩:∃ x,W3.alloc (Obj.cells (dgC diagZ) 30)=x:=⟨_,rfl⟩
    have s4:W4.heap.size=w.heap.size+1+1+1+1:=by rw[← h4,← s3]; simp
    have k4:=blk_new W3 (dgC diagZ) 30;have g4:=below_box (w:=W3) (Obj.cells (dgC diagZ) 30);rw[h4,s3] at k4 g4;obtain⟨W5,h5⟩:∃ x,W4.alloc (Obj.cells (tCells 0 0 0 0 (.slice none 0 0)) 63)=x:=⟨_,rfl⟩;have k5:=blk_new W4 (tCells 0 0 0 0 (.slice none 0 0)) 63;have g5:=below_box (w:=W4) (Obj.cells (tCells 0 0 0 0 (.slice none 0 0)) 63);rw[h5,s4] at k5 g5;have G4:Below (w.heap.size+1+1+1) W3 W5:=g4.trans (g5.mono (by omega));have G3:Below (w.heap.size+1+1) W2 W5:=g3.trans (G4.mono (by omega));have G2:Below (w.heap.size+1) W1 W5:=g2.trans (G3.mono (by omega));have G1:Below w.heap.size w W5:=g1.trans (G2.mono (by omega))
    refine⟨W5,?_,⟨k1.below G2 (by omega),k2.below G3 (by omega),k3.below G4 (by omega),k4.below g5 (by omega),⟨k5,OwnC.nil,⟨by omega,by omega⟩,by omega⟩,G1⟩⟩
    unfold wCells at h2;unfold tCells at h3 h5;unfold dgC diagZ posZ at h4;rw[h1,h2,h3,h4,h5]
   have HW:=qq hW;have HB:=qq hbx;have HL:=qq hl;have HG:=qq hg;have HS:=qq hs;clear hW hbx hl hg hs hN ih hpar
   go_enter Tryd.func80,Tryd.ntmps80
   go_upto_block 0 with fail
   rw[HW.out]
   go_cut [9,10] (fun z ez wx=>SwR w t A m cp (.slice A1 n1 c1) (.slice A2 n2 c2) s.datas ps z ez wx)
   case first=>
    obtain⟨b0,b1,b2,b3,b4,b5,b6⟩:=(HB.out).b;obtain⟨o0,o1,o2,o3,o4⟩:=(HB.out).o;have f0:=(HB.out).out.1.frozen 0;have f1:=(HB.out).out.1.frozen 1;have f2:=(HB.out).out.1.frozen 2;have f3:=(HB.out).out.1.frozen 3;have f4:=(HB.out).out.1.frozen 4
    by_cases h1:t.k=1
    · have d1:(t.k==1)=true:=by simp[h1]
      obtain⟨q,hq⟩:∃ q,idxS ps t.s=q:=⟨_,rfl⟩;have hqi:=refAt13_any Ap np cp' ps t.s W _ (HS.out.fresh HB.out.bel);rw[hq] at hqi;have Hq:=qq hqi;have hnd:=nodeD1 (ds:=s.datas) (ps:=ps) h1;rw[hq] at hnd;have Hnd:=qq hnd;clear h1 hq hqi hnd;go_wp2_with fail
      refine Hq.out.mono ?_; rintro e w1 ⟨rfl,rfl⟩
      go_upto_region 8 with fail;clear o0 o1 o2 o3 o4 f0 f1 f2 f3 f4;clear b0 b1 b2 b3 b4 b5 b6;have hp:=(HB.out).put (1) (q) (0);obtain⟨w2,hwn⟩:∃ x,set5 w1 (w.heap.size+1+1+1+1) (1) (q) 0 (0) (.slice none 0 0)=x:=⟨_,rfl⟩;rw[hwn] at hp;unfold set5 at hwn;rw[hwn];have HP:=qq hp;clear hp hwn;obtain⟨b0,b1,b2,b3,b4,b5,b6⟩:=(HP.out).b;obtain⟨o0,o1,o2,o3,o4⟩:=(HP.out).o;have f0:=(HP.out).out.1.frozen 0;have f1:=(HP.out).out.1.frozen 1;have f2:=(HP.out).out.1.frozen 2;have f3:=(HP.out).out.1.frozen 3;have f4:=(HP.out).out.1.frozen 4
      by_cases hz:q<0
      · have e1:decide (q<0)=true:=by simpa using hz
        have HX0:Hid (nodeD s.datas ps t=.error ⟨131,t.p⟩):=qq (by rw[Hnd.out,if_pos hz]);clear hz;go_wp2_with fail;go_meet;exact⟨1,q,0,0,131,rfl,rfl,HP.out,(fun _=>HX0.out),(fun h=>absurd h (by decide))⟩
      · have e1:decide (q<0)=false:=by simpa using hz
        have HX1:Hid (nodeD s.datas ps t=.ok ((1,q,0),0)):=qq (by rw[Hnd.out,if_neg hz]);clear hz;go_wp2_with fail;go_meet;exact⟨1,q,0,0,0,rfl,rfl,HP.out,(fun h=>absurd rfl h),(fun _=>HX1.out)⟩
    · have d1:(t.k==1)=false:=by simpa using h1
      by_cases h2:t.k=2
      · have d2:(t.k==2)=true:=by simp[h2]
        have hnd:=nodeD2 (ds:=s.datas) (ps:=ps) h2;obtain⟨kd,hkd⟩:∃ x,(baseK t.s).1=x:=⟨_,rfl⟩;obtain⟨wn,hwn⟩:∃ x,(baseK t.s).2=x:=⟨_,rfl⟩;have hqb:=builtin_any t.s W;have hqk:=kind_any t.s W;rw[hkd] at hqk;rw[hwn] at hqb;rw[hkd,hwn] at hnd;have Hq:=qq hqb;have Hq2:=qq hqk;have Hnd:=qq hnd;clear h1 h2 hnd hkd hwn hqb hqk;go_wp2_with fail
        refine Hq.out.mono ?_; rintro e w1 ⟨rfl,rfl⟩
        go_wp2_with fail
        refine Hq2.out.mono ?_; rintro e w2 ⟨rfl,hb2⟩
        have H2:=qq (HB.out.below hb2);clear o0 o1 o2 o3 o4 f0 f1 f2 f3 f4;clear b0 b1 b2 b3 b4 b5 b6;clear hb2;obtain⟨o0,o1,o2,o3,o4⟩:=(H2.out).o;have f0:=(H2.out).out.1.frozen 0;have f1:=(H2.out).out.1.frozen 1;have f2:=(H2.out).out.1.frozen 2;have f3:=(H2.out).out.1.frozen 3;have f4:=(H2.out).out.1.frozen 4;go_upto_region 13 with fail;clear o0 o1 o2 o3 o4 f0 f1 f2 f3 f4;have hp2:=H2.out.kind kd;obtain⟨w3,hw3⟩:∃ x,w2.setCell ⟨w.heap.size+1+1+1+1,0,none⟩ (.int .u8 kd)=x:=⟨_,rfl⟩;rw[hw3] at hp2 ⊢;have H3:=qq hp2;clear hp2 hw3
        by_cases hw:wn<0
        · have e0:decide (wn<0)=true:=by simpa using hw
          have hnd:=Hnd.out;rw[if_pos hw] at hnd;obtain⟨q,hq⟩:∃ q,idxD s.datas t.s=q:=⟨_,rfl⟩;have hqf:=refData_any A1 n1 c1 A2 n2 c2 s.datas t.s w3 (Lt w3.heap.size) (fun _ h=>h) (HG.out.fresh H3.out.bel).datas
          rw[show idxP (fun x:DataD=>decide (x.name=t.s)) s.datas=q from hq] at hqf
          rw[hq] at hnd;have Hqf:=qq hqf;have Hqe:=qq hq;have Hnd2:=qq hnd;obtain⟨b0,b1,b2,b3,b4,b5,b6⟩:=(H3.out).b;obtain⟨y0,y1⟩:=H3.out.s;clear hw hnd hq hqf;go_wp2_with fail
          refine Hqf.out.mono ?_; rintro e w4 ⟨rfl,hb4⟩
          have H4:=qq (H3.out.below hb4);clear b0 b1 b2 b3 b4 b5 b6;clear hb4 y0 y1;obtain⟨o0,o1,o2,o3,o4⟩:=(H4.out).o;have f0:=(H4.out).out.1.frozen 0;have f1:=(H4.out).out.1.frozen 1;have f2:=(H4.out).out.1.frozen 2;have f3:=(H4.out).out.1.frozen 3;have f4:=(H4.out).out.1.frozen 4;go_upto_region 15 with fail;clear o0 o1 o2 o3 o4 f0 f1 f2 f3 f4;have hp:=(H4.out).put (8) (q) (0);obtain⟨w5,hwn⟩:∃ x,set5 w4 (w.heap.size+1+1+1+1) (8) (q) 0 (0) (.slice none 0 0)=x:=⟨_,rfl⟩;rw[hwn] at hp;unfold set5 at hwn;rw[hwn];have HP:=qq hp;clear hp hwn;obtain⟨b0,b1,b2,b3,b4,b5,b6⟩:=(HP.out).b;obtain⟨o0,o1,o2,o3,o4⟩:=(HP.out).o;have f0:=(HP.out).out.1.frozen 0;have f1:=(HP.out).out.1.frozen 1;have f2:=(HP.out).out.1.frozen 2;have f3:=(HP.out).out.1.frozen 3;have f4:=(HP.out).out.1.frozen 4
          by_cases hz:q<0
          · have e1:decide (q<0)=true:=by simpa using hz
            have HX0:Hid (nodeD s.datas ps t=.error ⟨131,t.p⟩):=qq (by rw[Hnd2.out,if_pos hz]);clear hz;go_wp2_with fail;go_meet;exact⟨8,q,0,wn,131,rfl,rfl,HP.out,(fun _=>HX0.out),(fun h=>absurd h (by decide))⟩
          · have e1:decide (q<0)=false:=by simpa using hz
            have hnd:=Hnd2.out;rw[if_neg hz] at hnd
            obtain⟨i,hi,hil,_⟩:∃ i:Nat,q=i∧∃ h:i<s.datas.length,True:=by
             rcases idxP_cases (fun x:DataD=>decide (x.name=t.s)) s.datas with ⟨h,_⟩ | ⟨i,h,h2,_⟩
             · have h0:idxD s.datas t.s = -1:=h
               have:=Hqe.out;omega
             · exact⟨i,Hqe.out.symm.trans h,h2,trivial⟩
            subst hi
            have hpr:((s.datas[((i:Int)).toNat]?).map DataD.params).getD 0=s.datas[i].params:=by rw[Int.toNat_natCast,qj hil]; rfl
            rw[hpr] at hnd;have hdl:=HG.out.datas.len;obtain⟨b',off,rfl,hbo,hcs⟩:=datas_at (HG.out.fresh HP.out.bel).datas (by omega);obtain⟨_,hc1,_⟩:=hcs i hil;obtain⟨pv,hpv⟩:∃ x,s.datas[i].params=x:=⟨_,rfl⟩;rw[hpv] at hc1 hnd;have HX1:Hid (nodeD s.datas ps t=.ok ((8,(i:Int),0),pv)):=qq hnd;obtain⟨y0,y1⟩:=HP.out.s
            have j1:(0:Int)≤(i:Int):=by omega
            have j2:(i:Int)<n1:=by omega
            clear hz hnd hpr hcs hpv;go_wp2_with fail;go_meet;exact⟨8,(i:Int),0,pv,0,rfl,rfl,HP.out,(fun h=>absurd rfl h),(fun _=>HX1.out)⟩
        · have e0:decide (wn<0)=false:=by simpa using hw
          have hnd:=Hnd.out;rw[if_neg hw] at hnd;have HX1:Hid (nodeD s.datas ps t=.ok ((kd,0,0),wn)):=qq hnd;clear hw hnd;go_wp2_with fail;go_meet;exact⟨kd,0,0,wn,0,rfl,rfl,H3.out,(fun h=>absurd rfl h),(fun _=>HX1.out)⟩
      · have d2:(t.k==2)=false:=by simpa using h2
        by_cases h3:t.k=3
        · have d3:(t.k==3)=true:=by simp[h3]
          have hnd:=nodeD3 (ds:=s.datas) (ps:=ps) h3;have Hnd:=qq hnd;clear h1 h2 h3 hnd
          by_cases q1:(m:Int)=2
          · have e1:((m:Int) != 2)=false:=by simp[q1]
            by_cases q2:t.m<1
            · have e2:decide (t.m<1)=true:=by simpa using q2
              go_upto_region 21 with fail;clear o0 o1 o2 o3 o4 f0 f1 f2 f3 f4;clear b0 b1 b2 b3 b4 b5 b6;have hp:=(HB.out).put (7) (0) (t.m);obtain⟨w2,hwn⟩:∃ x,set5 W (w.heap.size+1+1+1+1) (7) (0) 0 (t.m) (.slice none 0 0)=x:=⟨_,rfl⟩;rw[hwn] at hp;unfold set5 at hwn;rw[hwn];have HP:=qq hp;clear hp hwn;obtain⟨b0,b1,b2,b3,b4,b5,b6⟩:=(HP.out).b;go_wp2_with fail;go_meet
              exact⟨7,0,t.m,2,2,rfl,rfl,HP.out,(fun _=>by rw[Hnd.out,if_pos (Or.inr (Or.inl q2))]),(fun h=>absurd h (by decide))⟩
            · have e2:decide (t.m<1)=false:=by simpa using q2
              by_cases q3:t.m>3
              · have e3:decide (t.m>3)=true:=by simpa using q3
                go_upto_region 21 with fail;clear o0 o1 o2 o3 o4 f0 f1 f2 f3 f4;clear b0 b1 b2 b3 b4 b5 b6;have hp:=(HB.out).put (7) (0) (t.m);obtain⟨w2,hwn⟩:∃ x,set5 W (w.heap.size+1+1+1+1) (7) (0) 0 (t.m) (.slice none 0 0)=x:=⟨_,rfl⟩;rw[hwn] at hp;unfold set5 at hwn;rw[hwn];have HP:=qq hp;clear hp hwn;obtain⟨b0,b1,b2,b3,b4,b5,b6⟩:=(HP.out).b;go_wp2_with fail;go_meet
                exact⟨7,0,t.m,2,2,rfl,rfl,HP.out,(fun _=>by rw[Hnd.out,if_pos (Or.inr (Or.inr q3))]),(fun h=>absurd h (by decide))⟩
              · have e3:decide (t.m>3)=false:=by simpa using q3
                go_upto_region 21 with fail;clear o0 o1 o2 o3 o4 f0 f1 f2 f3 f4;clear b0 b1 b2 b3 b4 b5 b6;have hp:=(HB.out).put (7) (0) (t.m);obtain⟨w2,hwn⟩:∃ x,set5 W (w.heap.size+1+1+1+1) (7) (0) 0 (t.m) (.slice none 0 0)=x:=⟨_,rfl⟩;rw[hwn] at hp;unfold set5 at hwn;rw[hwn];have HP:=qq hp;clear hp hwn;obtain⟨b0,b1,b2,b3,b4,b5,b6⟩:=(HP.out).b;go_wp2_with fail;go_meet
                exact⟨7,0,t.m,2,0,rfl,rfl,HP.out,(fun h=>absurd rfl h),(fun _=>by rw[Hnd.out,if_neg (by omega)])⟩
          · have e1:((m:Int) != 2)=true:=by simpa using q1
            go_upto_region 21 with fail;clear o0 o1 o2 o3 o4 f0 f1 f2 f3 f4;clear b0 b1 b2 b3 b4 b5 b6;have hp:=(HB.out).put (7) (0) (t.m);obtain⟨w2,hwn⟩:∃ x,set5 W (w.heap.size+1+1+1+1) (7) (0) 0 (t.m) (.slice none 0 0)=x:=⟨_,rfl⟩;rw[hwn] at hp;unfold set5 at hwn;rw[hwn];have HP:=qq hp;clear hp hwn;obtain⟨b0,b1,b2,b3,b4,b5,b6⟩:=(HP.out).b;go_wp2_with fail;go_meet
            exact⟨7,0,t.m,2,2,rfl,rfl,HP.out,(fun _=>by rw[Hnd.out,if_pos (Or.inl (by omega))]),(fun h=>absurd h (by decide))⟩
        · have d3:(t.k==3)=false:=by simpa using h3
          have hnd:=nodeDx (ds:=s.datas) (ps:=ps) h1 h2 h3;have HX0:Hid (nodeD s.datas ps t=.error ⟨2,t.p⟩):=qq hnd;clear h1 h2 h3 hnd;go_wp2_with fail;go_meet;exact⟨0,0,0,0,2,rfl,rfl,HB.out,(fun _=>HX0.out),(fun h=>absurd h (by decide))⟩
   case rest=>
    obtain⟨k,n,c,want,er,rfl,rfl,hbx,he0,he1⟩:=hcut;obtain⟨W8,hW8⟩:∃ x,x=wc:=⟨_,rfl⟩;subst hW8;have HX:=qq hbx;have He0:=qq he0;have He1:=qq he1;clear hbx he0 he1 HB HW;obtain⟨b0,b1,b2,b3,b4,b5,b6⟩:=(HX.out).b
    by_cases q0:er=0
    · subst q0
      have hn1:=He1.out rfl
      by_cases q1:(m:Int)=want
      · have e1:((m:Int) != want)=false:=by simp[q1]
        have hm6:(m:Int)≤1000000:=by rw[q1]; exact wantD HPar.out hn1
        have Hgo:=qq (tyE_go hn1 (by rw[hlen]; exact q1))
        clear hn1 q1;go_wp2_with fail;clear b0 b1 b2 b3 b4 b5 b6;have H0:Hid (RTy w t A m cp (.slice A1 n1 c1) (.slice A2 n2 c2) k n c [] none 0 W8):=HX;clear HX
        go_loopg [11] m (fun gh i wr=>∃ (xs:List TyD) (A5:Option Addr) (c5:Nat),xs.length≤m∧gh=m - xs.length∧i=.int .i64 (xs.length:Nat)∧RTy w t A m cp (.slice A1 n1 c1) (.slice A2 n2 c2) k n c xs A5 c5 wr∧tyE.tyEL s.datas ps (t.l.take xs.length)=.ok xs)
        case atStart=>exact⟨[],none,0,Nat.zero_le _,rfl,rfl,H0.out,rfl⟩
        case round=>
         obtain⟨xs,A5,c5,hj,rfl,rfl,hmk,hkd⟩:=hrel;obtain⟨wo,hwo⟩:∃ q,q=wr:=⟨_,rfl⟩;subst hwo;obtain⟨b0,b1,b2,b3,b4,b5,b6⟩:=hmk.b
         by_cases hjm:xs.length<m
         · have d0:decide (xs.length<m)=true:=by simpa using hjm
           have hj':xs.length<t.l.length:=by omega
           obtain⟨b,off,rfl,hb,hc⟩:=tysW_at (HL.out.fresh hmk.bel) (by omega);obtain⟨e0,e1,e2,e3,e4,e5,Ax,mx,cx,e6,hx⟩:=hc _ hj';have hnx:=HN.out _ hj';have hst:t.l.take (xs.length+1)=t.l.take xs.length++[t.l[xs.length]]:=List.take_succ_eq_append_getElem hj'
           have hrs:t.l=t.l.take xs.length++t.l[xs.length] :: t.l.drop (xs.length+1):=by rw[List.getElem_cons_drop]; exact(List.take_append_drop _ _).symm
           obtain⟨x,hxk⟩:∃ x,t.l[xs.length]=x:=⟨_,rfl⟩;rw[hxk] at e0 e1 e2 e3 e4 e5 hx hnx hst hrs;obtain⟨j,hjx⟩:∃ j,xs.length=j:=⟨_,rfl⟩;have Hjx:=qq hjx;obtain⟨y0,y1⟩:=hmk.s;rw[hjx] at e0 e1 e2 e3 e4 e5 e6 hst hrs hjm d0 hj hkd
           have k1:(0:Int)≤(j:Int):=by omega
           have k2:(j:Int)<m:=by omega
           have HM:=qq hmk;have HK:=qq hkd;have Hx:=qq hx;have Hst:=qq hst;have Hrs:=qq hrs;rw[hjx];clear hmk hkd hx hst hrs hc hxk hj' hjx;go_upto_region 30 with fail;refine wp_region_noPanic ?_;refine wp_region_T (fun w'=>w'.cell? ⟨w.heap.size,0,none⟩=some (.slice A1 n1 c1)∧w'.cell? ⟨w.heap.size,1,none⟩=some (.slice A2 n2 c2)∧w'.cell? ⟨w.heap.size+1,6,none⟩=some (.slice (some ⟨b,off,none⟩) m cp)∧w'.cell? ⟨b,off+j * 7,none⟩=some (.int .u8 x.k)∧w'.cell? ⟨b,off+j * 7+1,none⟩=some (.string x.s)∧w'.cell? ⟨b,off+j * 7+2,none⟩=some (.int .u8 x.m)∧w'.cell? ⟨b,off+j * 7+3,none⟩=some (.int .i64 x.p.at_)∧w'.cell? ⟨b,off+j * 7+4,none⟩=some (.int .i64 x.p.line)∧w'.cell? ⟨b,off+j * 7+5,none⟩=some (.int .i64 x.p.col)∧w'.cell? ⟨b,off+j * 7+6,none⟩=some (.slice Ax mx cx)) 15 (by kernel_rfl) ⟨y0,y1,b6,e0,e1,e2,e3,e4,e5,e6⟩ (fun hHeld=>?_);have hbd:Below wo.heap.size wo wo.drew:=Below.drew (Below.refl _ _);have HM9:=qq (HM.out.below hbd)
           have HM9o:Hid (∀ b,(Value.slice A5 j c5).ownBlock=some b→b<wo.drew.heap.size):=qq fun b e=>(HM9.out.out.2.1.lt b (by rw[Hjx.out]; exact e)).2
           have Hx9:=qq (Hx.out.fresh hbd);clear HM Hx y0 y1 e0 e1 e2 e3 e4 e5 e6 hb hbd;clear b0 b1 b2 b3 b4 b5 b6;generalize wo.drew=w9 at hHeld HM9 HM9o Hx9 ⊢;refine nx0 0 ?_
           iterate 7 (refine nx (v:=?_) rfl (by kernel_rfl) (fun _ _ _ h=>h) (by kernel_rfl) ?_ (by assumption) ?_; rotate_left; (focus (intro w hSw; (try dsimp only at hSw); first | (go_simp; done) | (go_simp; with_reducible rfl))); try simp only[Act.put,qg,qe,qf,qd,qh,qi,Nat.reduceAdd])
           refine nx9 ?_;have HZ:Hid (HeldZ w.heap.size b (off+j * 7) (.slice A1 n1 c1) (.slice A2 n2 c2) (.slice (some ⟨b,off,none⟩) m cp) x Ax mx cx w9):=qq hHeld;clear hHeld
           refine wpAnyT_call2 (c:=7) (sc:=104) (sm:=96) (s0:=105) (s1:=106) (sx:=12) (sy:=13) (T0:=63) (T1:=30) (tCells 0 0 0 0 (.slice none 0 0)) (dgC diagZ) #[.agg #[.slice A1 n1 c1,.slice A2 n2 c2],.agg #[.int .u8 x.k,.string x.s,.int .u8 x.m,.int .i64 x.p.at_,.int .i64 x.p.line,.int .i64 x.p.col,.slice Ax mx cx],.slice Ap np cp'] rfl (by kernel_rfl) ⟨_,rfl,rfl,rfl,rfl⟩ rfl (fun _ _=>rfl) (by kernel_rfl) (by kernel_rfl) ⟨_,rfl,rfl,rfl,rfl⟩ (Or.inl rfl) ⟨_,rfl,rfl,rfl,rfl⟩ ⟨_,rfl,rfl,rfl,rfl⟩ ⟨_,rfl,rfl,rfl,rfl⟩ ⟨_,rfl,rfl,rfl,rfl⟩ ⟨_,rfl,rfl,rfl,rfl⟩ ⟨_,rfl,rfl,rfl,rfl⟩
            (by kernel_rfl) (by kernel_rfl) (by kernel_rfl) (by kernel_rfl) (by kernel_rfl) (by decide) (by kernel_rfl) (fun w'=>by first | rfl | (go_simp; rfl)) (fun w'=>by first | rfl | (go_simp; rfl)) encW_info dg_info (KidR s.datas ps x) (fun R u0 u1 w w' h1 _ h3 _ _=>h1.keep h3) ?_ (fun w' hb=>HZ.out.below hb) (by kernel_rfl) (by decide +kernel) (by decide +kernel) ?_
           · intro w1 hb1
             have HM1:=HM9.out.below hb1;refine(Ih.out x hnx Ax mx cx w1 (Hx9.out.fresh hb1) (HG.out.fresh HM1.bel) (HS.out.fresh HM1.bel)).mono ?_;rintro e w2 ⟨y,A',m',c',d',rfl,hT,hsp,hb2⟩;exact⟨fun q=>w1.heap.size≤q∧q<w2.heap.size,_,_,rfl,rfl,rfl,tCells_one _ _ _ _ _ _ _,dgC_one _,fun q h=>h,⟨y,A',m',c',d',rfl,rfl,hT,hsp⟩,hb2⟩
           · rintro R u0 u1 X Y w10 hXY hX hY kX kY hb10 ⟨y,A',m',c',d',rfl,rfl,hT,hsp⟩ hR
             have HM10:=qq (HM9.out.below hb10);have z0:w10.cell? ⟨Y,0,none⟩=some (.int .i64 d'.e):=kY.cell 0;have HkX:=qq kX;have HkY:=qq kY;have HT:=qq hT;have Hsp:=qq hsp;have HR:=qq hR;have Hlo:=qq (And.intro HM9.out.out.1.lt (And.intro hX hY));have hb10s:=hb10.size;clear hXY hX hY kX kY hb10 hT hsp hR HM9 Hx9 HZ;simp only[Act.put,qd,qh,qi];refine NoPanic.normal ?_
             by_cases hz:d'.e=0
             · have dz:(d'.e != 0)=false:=by simp[hz]
               have hy:tyE s.datas ps x=.ok y:=by
                cases hq:tyE s.datas ps x with
                | error g=>exact absurd ((Hsp.out.1 g hq) ▸ hz) (tyE_ne _ _ _ g hq)
                | ok y'=>rw[(Hsp.out.2 y' hq).1]
               have Hkd:Hid (tyE.tyEL s.datas ps (t.l.take (j+1))=.ok (xs++[y])):=qq (by rw[Hst.out]; exact tyEL_step _ _ _ _ HK.out hy)
               have Hxl:Hid ((xs++[y]).length=j+1):=qq (by rw[List.length_append,Hjx.out]; rfl)
               obtain⟨o0,o1,o2,o3,o4⟩:=HM10.out.o;have f4:=HM10.out.out.1.frozen 4;have x0:w10.cell? ⟨X,0,none⟩=some (.int .u8 y.k):=HkX.out.cell 0;have x1:w10.cell? ⟨X,1,none⟩=some (.int .i64 y.n):=HkX.out.cell 1;have x2:w10.cell? ⟨X,2,none⟩=some (.int .i64 y.v):=HkX.out.cell 2;have x3:w10.cell? ⟨X,3,none⟩=some (.int .u8 y.c):=HkX.out.cell 3;have x4:w10.cell? ⟨X,4,none⟩=some (.slice A' m' c'):=HkX.out.cell 4;have hO:=HM10.out.out.2.1;rw[Hjx.out] at hO o4;have hlo:=HM10.out.out.1.lt;have hw9s:=Hlo.out.1
               have hcV:CelsV w10 (fun b=>b<w10.heap.size∧some b≠(Value.slice A5 j c5).ownBlock∧¬ (0≤b∧b<w.heap.size+1+1+1+1+1)) (encT y) [.int .u8 y.k,.int .i64 y.n,.int .i64 y.v,.int .u8 y.c,.slice A' m' c']:=tyC (HT.out.mono fun q hq=>by
                have hq1:=HR.out q hq
                refine⟨hq1.2.1,fun e=>?_,by omega⟩
                have:=HM9o.out q e.symm
                omega)
               have HO:=qq hO;have HcV:=qq hcV;clear hz hy hO hcV;obtain⟨i0,hi0,hz0,hz1,hz2⟩:=info_parts typeInfo;go_upto_region 33 with fail
               go_wp2_with (at_builtin; refine wpList_append_cel (B0:=w.heap.size+1+1+1+1+1) w10 w10 rfl (.tmp 113) (.tmp 115) 56 rfl (w.heap.size+1+1+1+1+1) 63 i0 _ 5 56 Tryd.underlying56 hi0 hz0 hz1 hz2 rfl (by omega) (fun b=>0≤b∧b<w.heap.size+1+1+1+1+1) (.slice A5 j c5) j _ rfl [.int .u8 y.k,.int .i64 y.n,.int .i64 y.v,.int .u8 y.c,.slice A' m' c'] (encT y) rfl (by intro u hu; simp at hu; rcases hu with rfl | rfl | rfl | rfl | rfl <;> rfl) rfl HO.out HcV.out (by unfold maxLen; omega) (by omega) (Below.refl _ _) (Nat.le_refl _) (by omega) ?_; intro A8 c8 w8 ho8 hbel8 hg8 hz8 _; have q4:w8.cell? ⟨w.heap.size+1+1+1+1,4,none⟩=some (.slice A5 j c5):=(World.cell?_of_block (hg8.block (w.heap.size+1+1+1+1) (by omega) (by rw[← Hjx.out]; exact HM10.out.own (by omega)))).trans o4; have fq:w8.frozen? ⟨w.heap.size+1+1+1+1,4,none⟩=false:=(HM10.out.out.1.grown hg8 (by rw[← Hjx.out]; exact HM10.out.own (by omega))).frozen 4)
               have hp:=HM10.out.push (A6:=A8) (c6:=c8) (wy:=w8) y (by rw[Hjx.out]; exact ho8) (by rw[Hjx.out]; exact hg8)
               rw[Hjx.out] at hp;have Hp:=qq hp;clear hp ho8 hbel8 hg8 hz8 q4 fq;go_roundg (m - (j+1))
               case measure=>have:=Hjx.out; omega
               case rel=>exact⟨xs++[y],A8,c8,by have:=Hxl.out; omega,by rw[Hxl.out],by rw[Hxl.out]; go_num,Hp.out,by rw[Hxl.out]; exact Hkd.out⟩
             · have dz:(d'.e != 0)=true:=by simpa using hz
               have hy:tyE s.datas ps x=.error d':=by
                cases hq:tyE s.datas ps x with
                | error g=>rw[Hsp.out.1 g hq]
                | ok y'=>exact absurd (by rw[(Hsp.out.2 y' hq).2]; rfl) hz
               have HE:Hid (tyE s.datas ps t=.error d'):=qq (by rw[Hgo.out,Hrs.out,tyEL_stop _ _ _ _ HK.out hy]);clear hz hy;obtain⟨o0,o1,o2,o3,o4⟩:=HM10.out.o;have z1:w10.cell? ⟨Y,1,none⟩=some (.int .i64 d'.p.at_):=HkY.out.cell 1;have z2:w10.cell? ⟨Y,2,none⟩=some (.int .i64 d'.p.line):=HkY.out.cell 2;have z3:w10.cell? ⟨Y,3,none⟩=some (.int .i64 d'.p.col):=HkY.out.cell 3
               have hYs:Y≠w.heap.size+1+1:=by have:=Hlo.out; omega
               go_upto_region 32 with fail;refine wp_region_noPanic ?_;refine wp_region_T (fun w'=>w'.cell? ⟨w.heap.size+1+1+1+1,0,none⟩=some (.int .u8 k)∧w'.cell? ⟨w.heap.size+1+1+1+1,1,none⟩=some (.int .i64 n)∧w'.cell? ⟨w.heap.size+1+1+1+1,2,none⟩=some (.int .i64 0)∧w'.cell? ⟨w.heap.size+1+1+1+1,3,none⟩=some (.int .u8 c)∧w'.cell? ⟨w.heap.size+1+1+1+1,4,none⟩=some (.slice A5 xs.length c5)∧w'.cell? ⟨Y,0,none⟩=some (.int .i64 d'.e)∧w'.cell? ⟨Y,1,none⟩=some (.int .i64 d'.p.at_)∧w'.cell? ⟨Y,2,none⟩=some (.int .i64 d'.p.line)∧w'.cell? ⟨Y,3,none⟩=some (.int .i64 d'.p.col)) 3 (by kernel_rfl) ⟨o0,o1,o2,o3,o4,z0,z1,z2,z3⟩ (fun hHeld=>?_);have H11:=qq (HM10.out.below (Below.drew (Below.refl w10.heap.size w10)));clear o0 o1 o2 o3 o4 z0 z1 z2 z3;generalize w10.drew=w11 at hHeld H11 ⊢;refine nx0 0 ?_
               iterate 2 (refine nx (v:=?_) rfl (by kernel_rfl) (fun _ _ _ h=>h) (by kernel_rfl) ?_ (by assumption) ?_; rotate_left; (focus (intro w hSw; (try dsimp only at hSw); first | (go_simp; done) | (go_simp; with_reducible rfl))); try simp only[Act.put,qg,qe,qf,qd,qh,qi,Nat.reduceAdd])
               refine nx9 ?_;have HQ:Hid (HeldE w.heap.size k n c (.slice A5 xs.length c5) Y d' w11):=qq hHeld;obtain⟨⟨r0,r1,r2,r3,r4⟩,u0,u1,u2,u3⟩:=(H11.out).r;have s0:=(H11.out).r0.frozen 0;have s1:=(H11.out).r0.frozen 1;have s2:=(H11.out).r0.frozen 2;have s3:=(H11.out).r0.frozen 3;have s4:=(H11.out).r0.frozen 4;have t0:=(H11.out).r1.frozen 0;have t1:=(H11.out).r1.frozen 1;have t2:=(H11.out).r1.frozen 2;have t3:=(H11.out).r1.frozen 3;refine wpAnyT_step (i:=2) (by kernel_rfl) rfl (fun K hK=>?_);go_simp;refine hK.out _ _ (HQ.out.set5 hYs k n 0 c (.slice A5 xs.length c5)) ?_;clear hK K
               try simp only[Act.put,qg,qe,qf,qd,qh,qi]
               refine wpAnyT_seq 3 (by omega) (by rfl) (by kernel_rfl) ?_;simp only[List.drop_succ_cons,List.drop_zero];go_wp2_with fail;refine NoPanic.normal ?_;go_wp2_with fail;clear r0 r1 r2 r3 r4 u0 u1 u2 u3 s0 s1 s2 s3 s4 t0 t1 t2 t3;obtain⟨wz,hwz⟩:∃ x,set4 (set5 w11 (w.heap.size+1+1) k n 0 c (.slice A5 (xs:List TyD).length c5)) (w.heap.size+1+1+1) (d')=x:=⟨_,rfl⟩;obtain⟨z1,z2,z3,z4⟩:=(H11.out).fin (d') hwz;unfold set4 set5 at hwz
               try simp only[diagZ,posZ,List.length_nil] at hwz
               rw[hwz];have d0':=z1.cell 0;have d1':=z1.cell 1;have d2':=z1.cell 2;have d3':=z1.cell 3;have d4':=z1.cell 4;have e0':=z2.cell 0;have e1':=z2.cell 1;have e2':=z2.cell 2;have e3':=z2.cell 3;unfold tCells at d0' d1' d2' d3' d4';unfold dgC at e0' e1' e2' e3';simp only[qc,qb,qa] at d0' d1' d2' d3' d4' e0' e1' e2' e3'
               exact bodyPost_ret (v:=.tuple #[.agg (tCells k n 0 c (.slice A5 (xs:List TyD).length c5)),.agg (dgC (d'))]) (by simp[results,Tryd.results80,go_sem,d0',d1',d2',d3',d4',e0',e1',e2',e3',tCells,dgC]) rfl ⟨⟨k,n,0,c,xs⟩,A5,(xs:List TyD).length,c5,d',rfl,z3,⟨fun g hg=>(by rw[HE.out] at hg; injection hg),fun y hy=>(by rw[HE.out] at hy; cases hy)⟩,z4⟩
         · have d0:decide (xs.length<m)=false:=by simpa using hjm
           have hall:t.l.take xs.length=t.l:=List.take_of_length_le (by omega);rw[hall] at hkd;have HE:Hid (tyE s.datas ps t=.ok (.mk k n 0 c xs)):=qq (by rw[Hgo.out,hkd]);have HM:=qq hmk;obtain⟨o0,o1,o2,o3,o4⟩:=hmk.o;clear hmk hkd hall;obtain⟨⟨r0,r1,r2,r3,r4⟩,u0,u1,u2,u3⟩:=(HM.out).r;have s0:=(HM.out).r0.frozen 0;have s1:=(HM.out).r0.frozen 1;have s2:=(HM.out).r0.frozen 2;have s3:=(HM.out).r0.frozen 3;have s4:=(HM.out).r0.frozen 4;have t0:=(HM.out).r1.frozen 0;have t1:=(HM.out).r1.frozen 1;have t2:=(HM.out).r1.frozen 2;have t3:=(HM.out).r1.frozen 3;go_wp2_with fail;clear r0 r1 r2 r3 r4 u0 u1 u2 u3 s0 s1 s2 s3 s4 t0 t1 t2 t3;obtain⟨wz,hwz⟩:∃ x,set4 (set5 wo (w.heap.size+1+1) k n 0 c (.slice A5 (xs:List TyD).length c5)) (w.heap.size+1+1+1) (diagZ)=x:=⟨_,rfl⟩;obtain⟨z1,z2,z3,z4⟩:=(HM.out).fin (diagZ) hwz;unfold set4 set5 at hwz
           try simp only[diagZ,posZ,List.length_nil] at hwz
           rw[hwz];have d0':=z1.cell 0;have d1':=z1.cell 1;have d2':=z1.cell 2;have d3':=z1.cell 3;have d4':=z1.cell 4;have e0':=z2.cell 0;have e1':=z2.cell 1;have e2':=z2.cell 2;have e3':=z2.cell 3;unfold tCells at d0' d1' d2' d3' d4';unfold dgC at e0' e1' e2' e3';simp only[qc,qb,qa] at d0' d1' d2' d3' d4' e0' e1' e2' e3'
           exact bodyPost_ret (v:=.tuple #[.agg (tCells k n 0 c (.slice A5 (xs:List TyD).length c5)),.agg (dgC (diagZ))]) (by simp[results,Tryd.results80,go_sem,d0',d1',d2',d3',d4',e0',e1',e2',e3',tCells,dgC]) rfl ⟨⟨k,n,0,c,xs⟩,A5,(xs:List TyD).length,c5,diagZ,rfl,z3,⟨fun g hg=>(by rw[HE.out] at hg; cases hg),fun y hy=>(by rw[HE.out] at hy; injection hy with hy; exact⟨hy,rfl⟩)⟩,z4⟩
      · have e1:((m:Int) != want)=true:=by simpa using q1
        have HE:=qq (tyE_len hn1 (by rw[hlen]; exact q1))
        clear hn1 q1;go_upto_region 26 with fail;clear b0 b1 b2 b3 b4 b5 b6;obtain⟨b0,b1,b2,b3,b4,b5,b6⟩:=(HX.out).b;obtain⟨o0,o1,o2,o3,o4⟩:=(HX.out).o;have f0:=(HX.out).out.1.frozen 0;have f1:=(HX.out).out.1.frozen 1;have f2:=(HX.out).out.1.frozen 2;have f3:=(HX.out).out.1.frozen 3;have f4:=(HX.out).out.1.frozen 4;refine wp_region_noPanic ?_;refine wp_region_T (fun w'=>w'.cell? ⟨w.heap.size+1+1+1+1,0,none⟩=some (.int .u8 k)∧w'.cell? ⟨w.heap.size+1+1+1+1,1,none⟩=some (.int .i64 n)∧w'.cell? ⟨w.heap.size+1+1+1+1,2,none⟩=some (.int .i64 0)∧w'.cell? ⟨w.heap.size+1+1+1+1,3,none⟩=some (.int .u8 c)∧w'.cell? ⟨w.heap.size+1+1+1+1,4,none⟩=some (.slice none 0 0)∧w'.cell? ⟨w.heap.size+1,3,none⟩=some (.int .i64 t.p.at_)∧w'.cell? ⟨w.heap.size+1,4,none⟩=some (.int .i64 t.p.line)∧w'.cell? ⟨w.heap.size+1,5,none⟩=some (.int .i64 t.p.col)) 6 (by kernel_rfl) ⟨o0,o1,o2,o3,o4,b3,b4,b5⟩ (fun hHeld=>?_);have H9:=qq (HX.out.below (Below.drew (Below.refl W8.heap.size W8)));clear o0 o1 o2 o3 o4 f0 f1 f2 f3 f4;clear b0 b1 b2 b3 b4 b5 b6;generalize W8.drew=w9 at hHeld H9 ⊢;refine nx0 0 ?_
        iterate 5 (refine nx (v:=?_) rfl (by kernel_rfl) (fun _ _ _ h=>h) (by kernel_rfl) ?_ (by assumption) ?_; rotate_left; (focus (intro w hSw; (try dsimp only at hSw); first | (go_simp; done) | (go_simp; with_reducible rfl))); try simp only[Act.put,qg,qe,qf,qd,qh,qi,Nat.reduceAdd])
        refine nx9 ?_;have HQ:Hid (HeldR w.heap.size k n c (.slice none 0 0) t.p w9):=qq hHeld;obtain⟨⟨r0,r1,r2,r3,r4⟩,u0,u1,u2,u3⟩:=(H9.out).r;have s0:=(H9.out).r0.frozen 0;have s1:=(H9.out).r0.frozen 1;have s2:=(H9.out).r0.frozen 2;have s3:=(H9.out).r0.frozen 3;have s4:=(H9.out).r0.frozen 4;have t0:=(H9.out).r1.frozen 0;have t1:=(H9.out).r1.frozen 1;have t2:=(H9.out).r1.frozen 2;have t3:=(H9.out).r1.frozen 3;refine wpAnyT_step (i:=5) (by kernel_rfl) rfl (fun K hK=>?_);go_simp;refine hK.out _ _ (HQ.out.set5 k n 0 c (.slice none 0 0)) ?_;clear hK K
        try simp only[Act.put,qg,qe,qf,qd,qh,qi]
        refine wpAnyT_seq 6 (by omega) (by rfl) (by kernel_rfl) ?_;simp only[List.drop_succ_cons,List.drop_zero];go_wp2_with fail;refine NoPanic.normal ?_;go_wp2_with fail;clear r0 r1 r2 r3 r4 u0 u1 u2 u3 s0 s1 s2 s3 s4 t0 t1 t2 t3;obtain⟨wz,hwz⟩:∃ x,set4 (set5 w9 (w.heap.size+1+1) k n 0 c (.slice none (([]:List TyD):List TyD).length 0)) (w.heap.size+1+1+1) ((⟨132,t.p⟩:DiagD))=x:=⟨_,rfl⟩;obtain⟨z1,z2,z3,z4⟩:=(H9.out).fin ((⟨132,t.p⟩:DiagD)) hwz;unfold set4 set5 at hwz
        try simp only[diagZ,posZ,List.length_nil] at hwz
        rw[hwz];have d0':=z1.cell 0;have d1':=z1.cell 1;have d2':=z1.cell 2;have d3':=z1.cell 3;have d4':=z1.cell 4;have e0':=z2.cell 0;have e1':=z2.cell 1;have e2':=z2.cell 2;have e3':=z2.cell 3;unfold tCells at d0' d1' d2' d3' d4';unfold dgC at e0' e1' e2' e3';simp only[qc,qb,qa] at d0' d1' d2' d3' d4' e0' e1' e2' e3'
        exact bodyPost_ret (v:=.tuple #[.agg (tCells k n 0 c (.slice none (([]:List TyD):List TyD).length 0)),.agg (dgC ((⟨132,t.p⟩:DiagD)))]) (by simp[results,Tryd.results80,go_sem,d0',d1',d2',d3',d4',e0',e1',e2',e3',tCells,dgC]) rfl ⟨⟨k,n,0,c,([]:List TyD)⟩,none,(([]:List TyD):List TyD).length,0,(⟨132,t.p⟩:DiagD),rfl,z3,⟨fun g hg=>(by rw[HE.out] at hg; injection hg),fun y hy=>(by rw[HE.out] at hy; cases hy)⟩,z4⟩
    · have e1:(er==0)=false:=by simpa using q0
      have e2:(er != 0)=true:=by simpa using q0
      have HE:=qq (tyE_err (He0.out q0));clear q0;go_upto_region 26 with fail;clear b0 b1 b2 b3 b4 b5 b6;obtain⟨b0,b1,b2,b3,b4,b5,b6⟩:=(HX.out).b;obtain⟨o0,o1,o2,o3,o4⟩:=(HX.out).o;have f0:=(HX.out).out.1.frozen 0;have f1:=(HX.out).out.1.frozen 1;have f2:=(HX.out).out.1.frozen 2;have f3:=(HX.out).out.1.frozen 3;have f4:=(HX.out).out.1.frozen 4;refine wp_region_noPanic ?_;refine wp_region_T (fun w'=>w'.cell? ⟨w.heap.size+1+1+1+1,0,none⟩=some (.int .u8 k)∧w'.cell? ⟨w.heap.size+1+1+1+1,1,none⟩=some (.int .i64 n)∧w'.cell? ⟨w.heap.size+1+1+1+1,2,none⟩=some (.int .i64 0)∧w'.cell? ⟨w.heap.size+1+1+1+1,3,none⟩=some (.int .u8 c)∧w'.cell? ⟨w.heap.size+1+1+1+1,4,none⟩=some (.slice none 0 0)∧w'.cell? ⟨w.heap.size+1,3,none⟩=some (.int .i64 t.p.at_)∧w'.cell? ⟨w.heap.size+1,4,none⟩=some (.int .i64 t.p.line)∧w'.cell? ⟨w.heap.size+1,5,none⟩=some (.int .i64 t.p.col)) 6 (by kernel_rfl) ⟨o0,o1,o2,o3,o4,b3,b4,b5⟩ (fun hHeld=>?_);have H9:=qq (HX.out.below (Below.drew (Below.refl W8.heap.size W8)));clear o0 o1 o2 o3 o4 f0 f1 f2 f3 f4;clear b0 b1 b2 b3 b4 b5 b6;generalize W8.drew=w9 at hHeld H9 ⊢;refine nx0 0 ?_
      iterate 5 (refine nx (v:=?_) rfl (by kernel_rfl) (fun _ _ _ h=>h) (by kernel_rfl) ?_ (by assumption) ?_; rotate_left; (focus (intro w hSw; (try dsimp only at hSw); first | (go_simp; done) | (go_simp; with_reducible rfl))); try simp only[Act.put,qg,qe,qf,qd,qh,qi,Nat.reduceAdd])
      refine nx9 ?_;have HQ:Hid (HeldR w.heap.size k n c (.slice none 0 0) t.p w9):=qq hHeld;obtain⟨⟨r0,r1,r2,r3,r4⟩,u0,u1,u2,u3⟩:=(H9.out).r;have s0:=(H9.out).r0.frozen 0;have s1:=(H9.out).r0.frozen 1;have s2:=(H9.out).r0.frozen 2;have s3:=(H9.out).r0.frozen 3;have s4:=(H9.out).r0.frozen 4;have t0:=(H9.out).r1.frozen 0;have t1:=(H9.out).r1.frozen 1;have t2:=(H9.out).r1.frozen 2;have t3:=(H9.out).r1.frozen 3;refine wpAnyT_step (i:=5) (by kernel_rfl) rfl (fun K hK=>?_);go_simp;refine hK.out _ _ (HQ.out.set5 k n 0 c (.slice none 0 0)) ?_;clear hK K
      try simp only[Act.put,qg,qe,qf,qd,qh,qi]
      refine wpAnyT_seq 6 (by omega) (by rfl) (by kernel_rfl) ?_;simp only[List.drop_succ_cons,List.drop_zero];go_wp2_with fail;refine NoPanic.normal ?_;go_wp2_with fail;clear r0 r1 r2 r3 r4 u0 u1 u2 u3 s0 s1 s2 s3 s4 t0 t1 t2 t3;obtain⟨wz,hwz⟩:∃ x,set4 (set5 w9 (w.heap.size+1+1) k n 0 c (.slice none (([]:List TyD):List TyD).length 0)) (w.heap.size+1+1+1) ((⟨er,t.p⟩:DiagD))=x:=⟨_,rfl⟩;obtain⟨z1,z2,z3,z4⟩:=(H9.out).fin ((⟨er,t.p⟩:DiagD)) hwz;unfold set4 set5 at hwz
      try simp only[diagZ,posZ,List.length_nil] at hwz
      rw[hwz];have d0':=z1.cell 0;have d1':=z1.cell 1;have d2':=z1.cell 2;have d3':=z1.cell 3;have d4':=z1.cell 4;have e0':=z2.cell 0;have e1':=z2.cell 1;have e2':=z2.cell 2;have e3':=z2.cell 3;unfold tCells at d0' d1' d2' d3' d4';unfold dgC at e0' e1' e2' e3';simp only[qc,qb,qa] at d0' d1' d2' d3' d4' e0' e1' e2' e3'
      exact bodyPost_ret (v:=.tuple #[.agg (tCells k n 0 c (.slice none (([]:List TyD):List TyD).length 0)),.agg (dgC ((⟨er,t.p⟩:DiagD)))]) (by simp[results,Tryd.results80,go_sem,d0',d1',d2',d3',d4',e0',e1',e2',e3',tCells,dgC]) rfl ⟨⟨k,n,0,c,([]:List TyD)⟩,none,(([]:List TyD):List TyD).length,0,(⟨er,t.p⟩:DiagD),rfl,z3,⟨fun g hg=>(by rw[HE.out] at hg; injection hg),fun y hy=>(by rw[HE.out] at hy; cases hy)⟩,z4⟩
def atP (n:Int):PosD:=⟨n,1,n+1⟩
theorem at13_any (n:Int) (h0:0≤n) (h1:n≤1000) (w:World):Calls Tryd.prog 16 #[.int .i64 n] w fun e w'=>e=.returned (.agg #[.int .i64 n,.int .i64 1,.int .i64 (n+1)])∧Below w.heap.size w w':=by
 have hw:wrap64 (n+1)=n+1:=IntWalk.wrap64_in _ (by omega);have Hw:=qq hw;clear hw;have hbx:=below_box (w:=w) (Obj.cells #[.int .i64 n,.int .i64 1,.int .i64 (n+1)] 28);have hkx:=blk_new w #[.int .i64 n,.int .i64 1,.int .i64 (n+1)] 28
 go_enter Tryd.func16,Tryd.ntmps16
 go_wp2_with fail;generalize w.alloc (Obj.cells #[.int .i64 n,.int .i64 1,.int .i64 (n+1)] 28)=W at hbx hkx ⊢;have y0:W.cell? ⟨w.heap.size,0,none⟩=some (.int .i64 n):=hkx.cell 0;have y1:W.cell? ⟨w.heap.size,1,none⟩=some (.int .i64 1):=hkx.cell 1;have y2:W.cell? ⟨w.heap.size,2,none⟩=some (.int .i64 (n+1)):=hkx.cell 2;exact bodyPost_ret (v:=.agg #[.int .i64 n,.int .i64 1,.int .i64 (n+1)]) (by simp[results,Tryd.results16,go_sem,y0,y1,y2]) rfl ⟨rfl,hbx⟩
theorem named_any (s:ByteArray) (r:Bool) (hr:(!Op.bytesLess s.toList [97])=r) (n:Int) (h0:0≤n) (h1:n≤1000) (A:Option Addr) (m c:Nat) (w:World):
  Calls Tryd.prog 11 #[.string s,.int .i64 n,.slice A m c] w fun e w'=>e=.returned (.agg #[.int .u8 (if r then 1 else 2),.string s,.int .u8 0,.int .i64 n,.int .i64 1,.int .i64 (n+1),.slice A m c])∧Below w.heap.size w w':=by
 have hbx:=below_box (w:=w) (Obj.cells #[.int .u8 0,.string ⟨#[]⟩,.int .u8 0,.int .i64 0,.int .i64 0,.int .i64 0,.slice none 0 0] 47);have hkx:=blk_new w #[.int .u8 0,.string ⟨#[]⟩,.int .u8 0,.int .i64 0,.int .i64 0,.int .i64 0,.slice none 0 0] 47;obtain⟨W,hW⟩:∃ q,w.alloc (Obj.cells #[.int .u8 0,.string ⟨#[]⟩,.int .u8 0,.int .i64 0,.int .i64 0,.int .i64 0,.slice none 0 0] 47)=q:=⟨_,rfl⟩;rw[hW] at hbx hkx;have hq:=at13_any n h0 h1 W;have HW:=qq hW;have Hb:=qq hbx;have Hk:=qq hkx;have Hq:=qq hq;clear hW hbx hkx hq
 cases r with
 | true=>
   go_enter Tryd.func11,Tryd.ntmps11
   go_upto_region 4 with fail;rw[HW.out];go_wp2_with fail;refine Hq.out.mono ?_;rintro e w1 ⟨rfl,hb1⟩;have k1:=Hk.out.below hb1 Hk.out.lt;have hb2:=Hb.out.trans (hb1.mono Hb.out.size);have hle:w.heap.size≤w.heap.size:=Nat.le_refl _;have z0:w1.cell? ⟨w.heap.size,0,none⟩=some (.int .u8 0):=k1.cell 0;have z1:w1.cell? ⟨w.heap.size,1,none⟩=some (.string ⟨#[]⟩):=k1.cell 1;have z2:w1.cell? ⟨w.heap.size,2,none⟩=some (.int .u8 0):=k1.cell 2;have z3:w1.cell? ⟨w.heap.size,3,none⟩=some (.int .i64 0):=k1.cell 3;have z4:w1.cell? ⟨w.heap.size,4,none⟩=some (.int .i64 0):=k1.cell 4;have z5:w1.cell? ⟨w.heap.size,5,none⟩=some (.int .i64 0):=k1.cell 5;have z6:w1.cell? ⟨w.heap.size,6,none⟩=some (.slice none 0 0):=k1.cell 6;have f0:=k1.frozen 0;have f1:=k1.frozen 1;have f2:=k1.frozen 2;have f3:=k1.frozen 3;have f4:=k1.frozen 4;have f5:=k1.frozen 5;have f6:=k1.frozen 6;go_wp2_with fail;have hs:=(((((((k1.set_ 0 (.int .u8 (if true then 1 else 2))).set_ 1 (.string s)).set_ 2 (.int .u8 0)).set_ 3 (.int .i64 n)).set_ 4 (.int .i64 1)).set_ 5 (.int .i64 (n+1))).set_ 6 (.slice A m c));have hb9:=(((((((hb2.setCell (p:=⟨w.heap.size,0,none⟩) hle (.int .u8 (if true then 1 else 2))).setCell (p:=⟨w.heap.size,1,none⟩) hle (.string s)).setCell (p:=⟨w.heap.size,2,none⟩) hle (.int .u8 0)).setCell (p:=⟨w.heap.size,3,none⟩) hle (.int .i64 n)).setCell (p:=⟨w.heap.size,4,none⟩) hle (.int .i64 1)).setCell (p:=⟨w.heap.size,5,none⟩) hle (.int .i64 (n+1))).setCell (p:=⟨w.heap.size,6,none⟩) hle (.slice A m c));simp only[if_true,if_false,Bool.false_eq_true] at hs hb9;generalize (((((((w1.setCell ⟨w.heap.size,0,none⟩ (.int .u8 1)).setCell ⟨w.heap.size,1,none⟩ (.string s)).setCell ⟨w.heap.size,2,none⟩ (.int .u8 0)).setCell ⟨w.heap.size,3,none⟩ (.int .i64 n)).setCell ⟨w.heap.size,4,none⟩ (.int .i64 1)).setCell ⟨w.heap.size,5,none⟩ (.int .i64 (n+1))).setCell ⟨w.heap.size,6,none⟩ (.slice A m c))=W9 at hs hb9 ⊢;have d0:W9.cell? ⟨w.heap.size,0,none⟩=some (.int .u8 1):=hs.cell 0;have d1:W9.cell? ⟨w.heap.size,1,none⟩=some (.string s):=hs.cell 1;have d2:W9.cell? ⟨w.heap.size,2,none⟩=some (.int .u8 0):=hs.cell 2;have d3:W9.cell? ⟨w.heap.size,3,none⟩=some (.int .i64 n):=hs.cell 3;have d4:W9.cell? ⟨w.heap.size,4,none⟩=some (.int .i64 1):=hs.cell 4;have d5:W9.cell? ⟨w.heap.size,5,none⟩=some (.int .i64 (n+1)):=hs.cell 5;have d6:W9.cell? ⟨w.heap.size,6,none⟩=some (.slice A m c):=hs.cell 6;exact bodyPost_ret (v:=.agg #[.int .u8 1,.string s,.int .u8 0,.int .i64 n,.int .i64 1,.int .i64 (n+1),.slice A m c]) (by simp[results,Tryd.results11,go_sem,d0,d1,d2,d3,d4,d5,d6]) rfl ⟨rfl,hb9⟩
 | false=>
   go_enter Tryd.func11,Tryd.ntmps11
   go_upto_region 4 with fail;rw[HW.out];go_wp2_with fail;refine Hq.out.mono ?_;rintro e w1 ⟨rfl,hb1⟩;have k1:=Hk.out.below hb1 Hk.out.lt;have hb2:=Hb.out.trans (hb1.mono Hb.out.size);have hle:w.heap.size≤w.heap.size:=Nat.le_refl _;have z0:w1.cell? ⟨w.heap.size,0,none⟩=some (.int .u8 0):=k1.cell 0;have z1:w1.cell? ⟨w.heap.size,1,none⟩=some (.string ⟨#[]⟩):=k1.cell 1;have z2:w1.cell? ⟨w.heap.size,2,none⟩=some (.int .u8 0):=k1.cell 2;have z3:w1.cell? ⟨w.heap.size,3,none⟩=some (.int .i64 0):=k1.cell 3;have z4:w1.cell? ⟨w.heap.size,4,none⟩=some (.int .i64 0):=k1.cell 4;have z5:w1.cell? ⟨w.heap.size,5,none⟩=some (.int .i64 0):=k1.cell 5;have z6:w1.cell? ⟨w.heap.size,6,none⟩=some (.slice none 0 0):=k1.cell 6;have f0:=k1.frozen 0;have f1:=k1.frozen 1;have f2:=k1.frozen 2;have f3:=k1.frozen 3;have f4:=k1.frozen 4;have f5:=k1.frozen 5;have f6:=k1.frozen 6;go_wp2_with fail;have hs:=(((((((k1.set_ 0 (.int .u8 (if false then 1 else 2))).set_ 1 (.string s)).set_ 2 (.int .u8 0)).set_ 3 (.int .i64 n)).set_ 4 (.int .i64 1)).set_ 5 (.int .i64 (n+1))).set_ 6 (.slice A m c));have hb9:=(((((((hb2.setCell (p:=⟨w.heap.size,0,none⟩) hle (.int .u8 (if false then 1 else 2))).setCell (p:=⟨w.heap.size,1,none⟩) hle (.string s)).setCell (p:=⟨w.heap.size,2,none⟩) hle (.int .u8 0)).setCell (p:=⟨w.heap.size,3,none⟩) hle (.int .i64 n)).setCell (p:=⟨w.heap.size,4,none⟩) hle (.int .i64 1)).setCell (p:=⟨w.heap.size,5,none⟩) hle (.int .i64 (n+1))).setCell (p:=⟨w.heap.size,6,none⟩) hle (.slice A m c));simp only[if_true,if_false,Bool.false_eq_true] at hs hb9;generalize (((((((w1.setCell ⟨w.heap.size,0,none⟩ (.int .u8 2)).setCell ⟨w.heap.size,1,none⟩ (.string s)).setCell ⟨w.heap.size,2,none⟩ (.int .u8 0)).setCell ⟨w.heap.size,3,none⟩ (.int .i64 n)).setCell ⟨w.heap.size,4,none⟩ (.int .i64 1)).setCell ⟨w.heap.size,5,none⟩ (.int .i64 (n+1))).setCell ⟨w.heap.size,6,none⟩ (.slice A m c))=W9 at hs hb9 ⊢;have d0:W9.cell? ⟨w.heap.size,0,none⟩=some (.int .u8 2):=hs.cell 0;have d1:W9.cell? ⟨w.heap.size,1,none⟩=some (.string s):=hs.cell 1;have d2:W9.cell? ⟨w.heap.size,2,none⟩=some (.int .u8 0):=hs.cell 2;have d3:W9.cell? ⟨w.heap.size,3,none⟩=some (.int .i64 n):=hs.cell 3;have d4:W9.cell? ⟨w.heap.size,4,none⟩=some (.int .i64 1):=hs.cell 4;have d5:W9.cell? ⟨w.heap.size,5,none⟩=some (.int .i64 (n+1)):=hs.cell 5;have d6:W9.cell? ⟨w.heap.size,6,none⟩=some (.slice A m c):=hs.cell 6;exact bodyPost_ret (v:=.agg #[.int .u8 2,.string s,.int .u8 0,.int .i64 n,.int .i64 1,.int .i64 (n+1),.slice A m c]) (by simp[results,Tryd.results11,go_sem,d0,d1,d2,d3,d4,d5,d6]) rfl ⟨rfl,hb9⟩
end Go.Proofs.YtgpeijkjmkocgaaDoor
