import Derived.Test.YtdmakpmbknindaaGreatDoorM19
set_option linter.unusedVariables false
set_option linter.unusedSimpArgs false
set_option maxHeartbeats 4000000
set_option maxRecDepth 100000
namespace Go.Proofs.YtdmakpmbknindaaGreatDoor
open Go.RowKit
def FreshI (t:TyD) (B base:Nat) (v:Value) (m:Nat) (k:Nat) (w:World):Prop:=
 OwnTy w base v m t.l (fun i b=>if i<k then base≤b∧b<w.heap.size∧some b≠v.ownBlock else b<B)
theorem FreshI.step {t:TyD} {B base g m c k:Nat} {w w3:World} (h:FreshI t B base (.slice (some ⟨g,0,none⟩) m c) m k w) (hk:k<t.l.length) (hb:Below w.heap.size w w3) (hB:B≤base) (hbase:base≤w.heap.size)
 {A:Option Addr} {n d:Nat} (hx:TysS w3 (fun b=>w.heap.size≤b∧b<w3.heap.size) A n d t.l[k].l):
 FreshI t B base (.slice (some ⟨g,0,none⟩) m c) m (k+1) (w3.setCells g (k * 5) [.int .u8 t.l[k].k,.int .i64 t.l[k].n,.int .i64 t.l[k].v,.int .u8 t.l[k].c,.slice A n d]) ∧
  w3.grownBy (w3.setCells g (k * 5) [.int .u8 t.l[k].k,.int .i64 t.l[k].n,.int .i64 t.l[k].v,.int .u8 t.l[k].c,.slice A n d]) (some g)∧base≤g∧g<w.heap.size:=by
 obtain⟨hl,cs,hown,hc⟩:=h;have hg:=hown.lt g rfl;have hown3:=ownsRow_beyond hown hb;have hcl:cs.length=m * 5:=hown.1
 obtain⟨⟨cs',h1,h2,h3⟩,h4⟩:=ownTy_setCells [.int .u8 t.l[k].k,.int .i64 t.l[k].n,.int .i64 t.l[k].v,.int .u8 t.l[k].c,.slice A n d] cs (k * 5) w3 hown3 (by rw[hcl]; simp; omega)
 simp only[List.length_cons,List.length_nil] at h2 h3;have hs3:=hb.size;have hs4:=h4.size
 have hcell:∀ p:Addr,p.block≠g→p.block<w3.heap.size→(w3.setCells g (k * 5) [.int .u8 t.l[k].k,.int .i64 t.l[k].n,.int .i64 t.l[k].v,.int .u8 t.l[k].c,.slice A n d]).cell? p=w3.cell? p:=fun p hp hlt=>
  World.cell?_of_block (h4.block p.block hlt (by intro e; injection e with e; exact hp e))
 refine⟨⟨hl,cs',h1,fun i hi=>?_⟩,h4,hg.1,hg.2⟩
 rcases Nat.lt_trichotomy i k with hik | rfl | hik
 · have h5:=hc i hi
   simp only[if_pos hik] at h5;have h6:=(h5.congr fun x h7 h8=>h3 x (.inl (by omega)));refine h6.keep (fun b hb'=>?_) fun p hp=>?_
   · dsimp only; rw[if_pos (show i<k+1 by omega)]; exact⟨hb'.1,by omega,hb'.2.2⟩
   · rw[hcell p (fun e=>hp.2.2 (by rw[e]; rfl)) (by omega)]
     exact hb.cell hp.2.1
 · refine⟨A,n,d,?_,?_,?_,?_,?_,?_⟩
   · rw[h2 _ (by omega) (by omega),Nat.sub_self]; rfl
   · rw[h2 _ (by omega) (by omega),show i * 5+1 - i * 5=1 from by omega]; rfl
   · rw[h2 _ (by omega) (by omega),show i * 5+2 - i * 5=2 from by omega]; rfl
   · rw[h2 _ (by omega) (by omega),show i * 5+3 - i * 5=3 from by omega]; rfl
   · rw[h2 _ (by omega) (by omega),show i * 5+4 - i * 5=4 from by omega]; rfl
   · refine hx.keep (fun b hb'=>?_) fun p hp=>?_
     · dsimp only
       rw[if_pos (show i<i+1 by omega)]
       refine⟨by omega,by omega,fun e=>?_⟩
       have e':b=g:=by injection e
       omega
     · exact hcell p (fun e=>by have:=hp.1; omega) hp.2
 · have h5:=hc i hi
   simp only[if_neg (show ¬ i<k by omega)] at h5
   have h6:=(h5.congr fun x h7 h8=>h3 x (.inr (by omega)));refine h6.keep (fun b hb'=>?_) fun p hp=>?_
   · dsimp only; rw[if_neg (show ¬ i<k+1 by omega)]; exact hb'
   · rw[hcell p (fun e=>by omega) (by omega)]
     exact hb.cell (by omega)
theorem FreshI.done {t:TyD} {B base m c:Nat} {A:Option Addr} {w:World} (h:FreshI t B base (.slice A m c) m m w):TysS w (fun b=>base≤b∧b<w.heap.size) A m c t.l:=by
 obtain⟨hl,cs,hown,hc⟩:=h
 rcases hown.2 with ⟨e0,hn⟩ | ⟨g,cap,cur,e0,hb,hg,hn,hm,hs,ht⟩
 · injection e0 with e1 e2 e3
   subst e1; subst e2; subst e3
   exact⟨hl,Nat.le_refl _,Nat.zero_le _,fun h=>absurd h (by omega)⟩
 · injection e0 with e1 e2 e3
   subst e1; subst e3
   refine⟨hl,hn,hm,fun _=>⟨g,0,rfl,⟨hb,(Array.getElem?_eq_some_iff.1 hg).1⟩,RowIn.of fun i hi=>?_⟩⟩;have h5:=hc i hi
   simp only[if_pos (show i<m by omega)] at h5
   have h6:C5 w (fun b=>base≤b∧b<w.heap.size) cs i t.l[i]:=h5.keep (fun b hb=>⟨hb.1,hb.2.1⟩) fun _ _=>rfl;exact h6.cells hown (by omega)
theorem FreshI.slot {t:TyD} {B base m c k:Nat} {A:Option Addr} {w:World} (h:FreshI t B base (.slice A m c) m k w) (hk:k<t.l.length):∃ g,A=some ⟨g,0,none⟩∧base≤g∧g<w.heap.size ∧
 ∃ A' n' c',w.cell? ⟨g,k * 5,none⟩=some (.int .u8 t.l[k].k)∧w.cell? ⟨g,k * 5+1,none⟩=some (.int .i64 t.l[k].n)∧w.cell? ⟨g,k * 5+2,none⟩=some (.int .i64 t.l[k].v)∧w.cell? ⟨g,k * 5+3,none⟩=some (.int .u8 t.l[k].c)∧w.cell? ⟨g,k * 5+4,none⟩=some (.slice A' n' c') ∧
  TysV w B A' n' c' t.l[k].l∧∀ j,w.frozen? ⟨g,j,none⟩=false:=by
 obtain⟨hl,cs,hown,hc⟩:=h
 rcases hown.2 with ⟨e0,hn⟩ | ⟨g,cap,cur,e0,hb,hg,hn,hm,hs,ht⟩
 · injection e0 with e1 e2 e3
   omega
 · injection e0 with e1 e2 e3
   subst e1; subst e3
   have h5:=hc k hk
   simp only[if_neg (show ¬ k<k by omega)] at h5
   have h6:=h5.cells hown (by omega);rw[Nat.zero_add] at h6;obtain⟨q0,q1,q2,q3,A',n',c',q4,hr⟩:=tyIn_iff.1 h6;exact⟨g,rfl,hb,(Array.getElem?_eq_some_iff.1 hg).1,A',n',c',q0,q1,q2,q3,q4,tysS_lt.1 hr,fun j=>hown.frozenAt j⟩
theorem fresh_go (N:Nat):∀ (t:TyD),nodes t≤N→mayT t=true→∀ (A:Option Addr) (m cp:Nat) (w:World),TysV w w.heap.size A m cp t.l →
 Calls Tryz.prog 66 #[.agg #[.int .u8 t.k,.int .i64 t.n,.int .i64 t.v,.int .u8 t.c,.slice A m cp]] w (FreshT t w):=by
 induction N with
 | zero=>intro t hN; exact absurd hN (by rw[nodes_eq t]; omega)
 | succ N ih=>
   intro t hN hm A m cp w hl;have Ih:=qq ih;clear ih;have hlen:=hl.len
   have m4:m≤4:=by rw[← hlen]; exact mayT_len hm
   have hbx:Below w.heap.size w ((w.alloc (Obj.cells #[.int .u8 t.k,.int .i64 t.n,.int .i64 t.v,.int .u8 t.c,.slice A m cp] 27)).alloc (Obj.cells #[.int .u8 0,.int .i64 0,.int .i64 0,.int .u8 0,.slice none 0 0] 27)):=((Below.refl _ _).alloc (Nat.le_refl _) _).alloc (by simp) _;have hz:=(blk_new w #[.int .u8 t.k,.int .i64 t.n,.int .i64 t.v,.int .u8 t.c,.slice A m cp] 27).alloc (Obj.cells #[.int .u8 0,.int .i64 0,.int .i64 0,.int .u8 0,.slice none 0 0] 27);have hy:=blk_new (w.alloc (Obj.cells #[.int .u8 t.k,.int .i64 t.n,.int .i64 t.v,.int .u8 t.c,.slice A m cp] 27)) #[.int .u8 0,.int .i64 0,.int .i64 0,.int .u8 0,.slice none 0 0] 27;rw[World.size_alloc] at hy;obtain⟨W,hW⟩:∃ W,(w.alloc (Obj.cells #[.int .u8 t.k,.int .i64 t.n,.int .i64 t.v,.int .u8 t.c,.slice A m cp] 27)).alloc (Obj.cells #[.int .u8 0,.int .i64 0,.int .i64 0,.int .u8 0,.slice none 0 0] 27)=W:=⟨_,rfl⟩;rw[hW] at hbx hz hy;have hq:=cloneTy_any A m cp t.l W ((hl.below hbx).more hbx.size) (by omega);have HW:=qq hW;have Hbx:=qq hbx;have Hz:=qq hz;have Hy:=qq hy;have Hq:=qq hq;have HM:=qq hm;have Hlz:=qq hz.lt;have Hly:=qq hy.lt;have z4:=hz.cell 4
   have HN:Hid (∀ i (h:i<t.l.length),nodes t.l[i]≤N):=qq fun i h=>by have:=nodes_get h; omega
   clear hl hbx hz hy hW hq hN hm
   go_enter Tryz.func66,Tryz.ntmps66
   go_wp2_with fail;rw[HW.out];go_wp2_with fail
   refine Hq.out.mono ?_; rintro e w1 ⟨v1,rfl,hown,hform,hb1⟩
   obtain⟨A1,c1,rfl⟩:∃ A1 c1,v1=.slice A1 m c1:=ownsRow_form hown.2.choose_spec.1
   have hF:FreshI t W.heap.size W.heap.size (.slice A1 m c1) m 0 w1:=⟨hown.1,hown.2.choose,hown.2.choose_spec.1,fun i hi=>(hown.2.choose_spec.2 i hi).keep (fun b hb=>by dsimp only; rw[if_neg (by omega)]; exact hb) fun _ _=>rfl⟩
   have HF:=qq hF;have Hb1:=qq hb1;clear hown hform hb1 hF z4 Hq;go_wp2_with fail
   go_loopg [11] m (fun gh i wr=>∃ k:Nat,k≤m∧gh=m - k∧i=.int .i64 k∧FreshI t W.heap.size W.heap.size (.slice A1 m c1) m k wr∧Below W.heap.size W wr)
   case atStart=>exact⟨0,Nat.zero_le _,rfl,rfl,HF.out,Hb1.out⟩
   case round=>
    obtain⟨k,hk,rfl,rfl,hF,hbel⟩:=hrel
    by_cases hkm:k<m
    · have d0:decide (k<m)=true:=by simpa using hkm
      have hk':k<t.l.length:=by omega
      obtain⟨g,rfl,hgb,hgs,A2,n2,c2,e0,e1,e2,e3,e4,hx,hfz⟩:=hF.slot hk';have hn:=HN.out k hk';have hmx:=mayT_kid HM.out hk';have hbB:=below_box (w:=wr) (Obj.cells #[.int .u8 t.l[k].k,.int .i64 t.l[k].n,.int .i64 t.l[k].v,.int .u8 t.l[k].c,.slice A2 n2 c2] 27);have hq:=Ih.out t.l[k] hn hmx A2 n2 c2 _ (((hx.more hbel.size).below hbB).more hbB.size);have hst:=fun(w3:World) (hb:Below wr.heap.size wr w3) (A3:Option Addr) (n3 c3:Nat) (h:TysS w3 (fun b=>wr.heap.size≤b∧b<w3.heap.size) A3 n3 c3 t.l[k].l)=>hF.step hk' hb (Nat.le_refl _) hbel.size h;obtain⟨x,hxk⟩:∃ x,t.l[k]=x:=⟨_,rfl⟩;rw[hxk] at e0 e1 e2 e3 hx hn hmx hbB hq;simp only[hxk] at hst;have Hq:=qq hq;have Hst:=qq hst;have Hbel:=qq hbel;have HbB:=qq hbB;have Hfz:=qq hfz
      have k1:(0:Int)≤(k:Int):=by omega
      have k2:(k:Int)<m:=by omega
      clear hx hn hmx hbB hq hst hbel hF hxk hfz;go_wp2_with fail
      refine Hq.out.mono ?_; rintro e w3 ⟨A3,n3,c3,rfl,hx3,hb3⟩
      have hb13:Below wr.heap.size wr w3:=HbB.out.trans (hb3.mono HbB.out.size);have hs:=Hst.out w3 hb13 A3 n3 c3 (hx3.mono fun b hb=>⟨Nat.le_trans HbB.out.size hb.1,hb.2⟩);have hbS:Below W.heap.size W w3:=Hbel.out.trans (hb13.mono Hbel.out.size)
      have hbN:=hbS.grown hs.2.1 hbS.size (fun j hj=>by have:=hs.2.2.1; injection hj with hj; omega)
      have Hs1:=qq hs.1;have HbN:=qq hbN;have f0:=(hb13.cell (p:=⟨g,k * 5,none⟩) hgs).trans e0;have f1:=(hb13.cell (p:=⟨g,k * 5+1,none⟩) hgs).trans e1;have f2:=(hb13.cell (p:=⟨g,k * 5+2,none⟩) hgs).trans e2;have f3:=(hb13.cell (p:=⟨g,k * 5+3,none⟩) hgs).trans e3;have f4:=(hb13.cell (p:=⟨g,k * 5+4,none⟩) hgs).trans e4;have z0:=(hb13.frozen (p:=⟨g,k * 5,none⟩) hgs).trans (Hfz.out (k * 5));have z1:=(hb13.frozen (p:=⟨g,k * 5+1,none⟩) hgs).trans (Hfz.out (k * 5+1));have z2:=(hb13.frozen (p:=⟨g,k * 5+2,none⟩) hgs).trans (Hfz.out (k * 5+2));have z3:=(hb13.frozen (p:=⟨g,k * 5+3,none⟩) hgs).trans (Hfz.out (k * 5+3));have z4:=(hb13.frozen (p:=⟨g,k * 5+4,none⟩) hgs).trans (Hfz.out (k * 5+4));clear hx3 hb3 hb13 hs hbS hbN e0 e1 e2 e3 e4 Hq Hst Hbel HbB Hfz;go_wp2_with fail;go_roundg (m - (k+1))
      case measure=>omega
      case rel=>exact⟨k+1,by omega,rfl,by go_num,Hs1.out,HbN.out⟩
    · have d0:decide (k<m)=false:=by simpa using hkm
      have hkm':k=m:=by omega
      subst hkm';have hT:=hF.done;have hz:=Hz.out.below hbel Hlz.out;have hy:=Hy.out.below hbel Hly.out;have hb0:Below w.heap.size w wr:=Hbx.out.trans (hbel.mono Hbx.out.size);have hWs:=Hbx.out.size;have hly:w.heap.size+1<W.heap.size:=Hly.out;obtain⟨g2,hg2⟩:∃ g2,w.heap.size+1=g2:=⟨_,rfl⟩
      have hne:w.heap.size≠g2:=by omega
      have hg2w:w.heap.size≤g2:=by omega
      rw[hg2] at hy hly ⊢;have hz1:Blk (wr.setCell ⟨w.heap.size,4,none⟩ (.slice A1 k c1)) w.heap.size 27 #[.int .u8 t.k,.int .i64 t.n,.int .i64 t.v,.int .u8 t.c,.slice A1 k c1]:=hz.set_ 4 (.slice A1 k c1);have hy1:=hy.other hne 4 (.slice A1 k c1);have x4:=hz.cell 4;have xf:=hz.frozen 4;have q0:=hz1.cell 0;have q1:=hz1.cell 1;have q2:=hz1.cell 2;have q3:=hz1.cell 3;have q4:=hz1.cell 4;have r0:=hy1.cell 0;have r1:=hy1.cell 1;have r2:=hy1.cell 2;have r3:=hy1.cell 3;have r4:=hy1.cell 4;have s0:=hy1.frozen 0;have s1:=hy1.frozen 1;have s2:=hy1.frozen 2;have s3:=hy1.frozen 3;have s4:=hy1.frozen 4;have hb2:=hb0.setCell (p:=⟨w.heap.size,4,none⟩) (Nat.le_refl _) (.slice A1 k c1);have HT:=qq hT;have Hy1:=qq hy1;have Hb2:=qq hb2;have Hly2:=qq hly;clear hF hz hy hz1 hy1 hbel hT hb0 hb2 hg2 hly;go_wp2_with fail
      have hs:Blk (((((( wr.setCell ⟨w.heap.size,4,none⟩ (.slice A1 k c1)).setCell ⟨g2,0,none⟩ (.int .u8 t.k)).setCell ⟨g2,1,none⟩ (.int .i64 t.n)).setCell ⟨g2,2,none⟩ (.int .i64 t.v)).setCell ⟨g2,3,none⟩ (.int .u8 t.c)).setCell ⟨g2,4,none⟩ (.slice A1 k c1)) g2 27 #[.int .u8 t.k,.int .i64 t.n,.int .i64 t.v,.int .u8 t.c,.slice A1 k c1]:=
       ((((Hy1.out.set_ 0 (.int .u8 t.k)).set_ 1 (.int .i64 t.n)).set_ 2 (.int .i64 t.v)).set_ 3 (.int .u8 t.c)).set_ 4 (.slice A1 k c1)
      have hb9:=((((Hb2.out.setCell (p:=⟨g2,0,none⟩) hg2w (.int .u8 t.k)).setCell (p:=⟨g2,1,none⟩) hg2w (.int .i64 t.n)).setCell (p:=⟨g2,2,none⟩) hg2w (.int .i64 t.v)).setCell (p:=⟨g2,3,none⟩) hg2w (.int .u8 t.c)).setCell (p:=⟨g2,4,none⟩) hg2w (.slice A1 k c1)
      have hr9:TysS (((((( wr.setCell ⟨w.heap.size,4,none⟩ (.slice A1 k c1)).setCell ⟨g2,0,none⟩ (.int .u8 t.k)).setCell ⟨g2,1,none⟩ (.int .i64 t.n)).setCell ⟨g2,2,none⟩ (.int .i64 t.v)).setCell ⟨g2,3,none⟩ (.int .u8 t.c)).setCell ⟨g2,4,none⟩ (.slice A1 k c1)) (fun b=>w.heap.size≤b∧b<(((((( wr.setCell ⟨w.heap.size,4,none⟩ (.slice A1 k c1)).setCell ⟨g2,0,none⟩ (.int .u8 t.k)).setCell ⟨g2,1,none⟩ (.int .i64 t.n)).setCell ⟨g2,2,none⟩ (.int .i64 t.v)).setCell ⟨g2,3,none⟩ (.int .u8 t.c)).setCell ⟨g2,4,none⟩ (.slice A1 k c1)).heap.size) A1 k c1 t.l:=by
       refine HT.out.keep (fun b hb=>⟨by omega,by simpa using hb.2⟩) fun p hp=>?_
       have hlo:W.heap.size≤p.block:=hp.1;have hl2:=Hly2.out
       have c1:∀ (W':World) (g o:Nat) (u:Value),g<W.heap.size→(W'.setCell ⟨g,o,none⟩ u).cell? p=W'.cell? p:=fun W' g o u hg=>World.cell?_setCell_other _ _ _ _ (fun e=>by rw[← e] at hlo; exact absurd hlo (by show ¬ W.heap.size≤g; omega))
       rw[c1 _ _ _ _ (by omega),c1 _ _ _ _ (by omega),c1 _ _ _ _ (by omega),c1 _ _ _ _ (by omega),c1 _ _ _ _ (by omega),c1 _ _ _ _ (by omega)]
      generalize (((((( wr.setCell ⟨w.heap.size,4,none⟩ (.slice A1 k c1)).setCell ⟨g2,0,none⟩ (.int .u8 t.k)).setCell ⟨g2,1,none⟩ (.int .i64 t.n)).setCell ⟨g2,2,none⟩ (.int .i64 t.v)).setCell ⟨g2,3,none⟩ (.int .u8 t.c)).setCell ⟨g2,4,none⟩ (.slice A1 k c1))=W6 at hs hb9 hr9 ⊢;have d0':W6.cell? ⟨g2,0,none⟩=some (.int .u8 t.k):=hs.cell 0;have d1':W6.cell? ⟨g2,1,none⟩=some (.int .i64 t.n):=hs.cell 1;have d2':W6.cell? ⟨g2,2,none⟩=some (.int .i64 t.v):=hs.cell 2;have d3':W6.cell? ⟨g2,3,none⟩=some (.int .u8 t.c):=hs.cell 3;have d4':W6.cell? ⟨g2,4,none⟩=some (.slice A1 k c1):=hs.cell 4;exact bodyPost_ret (v:=.agg #[.int .u8 t.k,.int .i64 t.n,.int .i64 t.v,.int .u8 t.c,.slice A1 k c1]) (by simp[results,Tryz.results66,go_sem,d0',d1',d2',d3',d4']) rfl ⟨A1,k,c1,rfl,hr9,hb9⟩
theorem grownN_eq (sz:List Int) (t:TyD):grownN sz t=if t.k=1∧t.n<sz.length then sz.getD t.n.toNat 0 else 1+grownN.grownL sz t.l:=by cases t; rw[grownN]; rfl
theorem grownL_snoc (sz:List Int) (l:List TyD) (t:TyD):grownN.grownL sz (l++[t])=grownN.grownL sz l+grownN sz t:=by
 induction l with
 | nil=>simp[grownN.grownL]
 | cons x l ih=>simp only[List.cons_append,grownN.grownL,ih]; omega
def grownLW (sz:List Int) (l:List TyD):Int:=wrap64 (1+grownN.grownL sz l)
theorem grownLW_snoc (sz:List Int) (l:List TyD) (t:TyD):wrap64 (grownLW sz l+grownW sz t)=grownLW sz (l++[t]):=by
 unfold grownLW grownW;rw[wrap_add,grownL_snoc,Int.add_assoc]
theorem grownLW_nil (sz:List Int):grownLW sz []=1:=by unfold grownLW grownN.grownL; decide +kernel
theorem grown_go (sz:List Int) (hsz:∀ s∈sz,wrap64 s=s) (A2:Option Addr) (n2 c2:Nat) (N:Nat):∀ (t:TyD),nodes t≤N→mayT t=true→∀ (A:Option Addr) (m cp:Nat) (w:World),TysV w w.heap.size A m cp t.l→RdI .i64 w w.heap.size A2 n2 c2 sz →
 Calls Tryz.prog 63 #[.agg #[.int .u8 t.k,.int .i64 t.n,.int .i64 t.v,.int .u8 t.c,.slice A m cp],.slice A2 n2 c2] w fun e w'=>e=.returned (.int .i64 (grownW sz t))∧Below w.heap.size w w':=by
 induction N with
 | zero=>intro t hN; exact absurd hN (by rw[nodes_eq t]; omega)
 | succ N ih=>
   intro t hN hm A m cp w hl hr;have Ih:=qq ih;clear ih;have hlen:=hl.len;have hl2:=hr.len;have m63:m≤9223372036854775807:=Nat.le_trans hl.2.1 hl.2.2.1;have n63:n2≤9223372036854775807:=Nat.le_trans hr.2.1 hr.2.2;have hn0:=mayT_n hm;have hbx:=below_box (w:=w) (Obj.cells #[.int .u8 t.k,.int .i64 t.n,.int .i64 t.v,.int .u8 t.c,.slice A m cp] 27);have hz:=blk_new w #[.int .u8 t.k,.int .i64 t.n,.int .i64 t.v,.int .u8 t.c,.slice A m cp] 27;have hL:=(hl.below hbx).more hbx.size;have hR:=(hr.below hbx).more hbx.size;obtain⟨W,hW⟩:∃ W,w.alloc (Obj.cells #[.int .u8 t.k,.int .i64 t.n,.int .i64 t.v,.int .u8 t.c,.slice A m cp] 27)=W:=⟨_,rfl⟩;rw[hW] at hbx hz hL hR;have z0:=hz.cell 0;have z1:=hz.cell 1;have z4:=hz.cell 4;have HW:=qq hW;have HL:=qq hL;have HR:=qq hR;have Hbx:=qq hbx;have HM:=qq hm;have heq:=grownN_eq sz t;have Heq:=qq heq
   have HN:Hid (∀ i (h:i<t.l.length),nodes t.l[i]≤N):=qq fun i h=>by have:=nodes_get h; omega
   clear hl hr hbx hz hL hR hW hm heq hN
   by_cases hvar:t.k=1∧t.n<n2
   · obtain⟨hk,hn⟩:=hvar
     have d1:(t.k==1)=true:=by simp[hk]
     have d2:decide (t.n<n2)=true:=by simpa using hn
     obtain⟨b,off,rfl,hb,hc⟩:=HR.out.at_ (by omega)
     have hi:t.n.toNat<sz.length:=by omega
     have v0:=hc t.n.toNat hi
     have hgd:grownW sz t=sz[t.n.toNat]:=by
      unfold grownW
      rw[Heq.out,if_pos ⟨hk,by omega⟩,List.getD_eq_getElem?_getD,qj hi]
      exact hsz _ (List.getElem_mem hi)
     have Hgd:=qq hgd
     have hnn:((t.n.toNat:Nat):Int)=t.n:=by omega
     have j1:(0:Int)≤t.n:=hn0;have j2:t.n<n2:=hn;rw[← HW.out] at v0;have HB:=qq Hbx.out;rw[← HW.out] at HB;clear hc hgd hk z0 z1 z4
     go_enter Tryz.func63,Tryz.ntmps63
     go_wp2_with fail;go_ret;exact⟨ret_int Hgd.out.symm,HB.out⟩
   · have hgd:grownLW sz t.l=grownW sz t:=by unfold grownLW grownW; rw[Heq.out,if_neg (by omega)]
     have Hgd:=qq hgd;clear hgd
     have hgo:Calls Tryz.prog 63 #[.agg #[.int .u8 t.k,.int .i64 t.n,.int .i64 t.v,.int .u8 t.c,.slice A m cp],.slice A2 n2 c2] w fun e w'=>e=.returned (.int .i64 (grownW sz t))∧Below w.heap.size w w':=by
      by_cases hk:t.k=1
      · have d1:(t.k==1)=true:=by simp[hk]
        have d2:decide (t.n<n2)=false:=by simp; omega
        clear hk hvar
        go_enter Tryz.func63,Tryz.ntmps63
        go_wp2_with fail;rw[HW.out];go_wp2_with fail;clear z0 z1 z4
        go_loopg [5,26] m (fun gh s i wr=>∃ k:Nat,k≤m∧gh=m - k∧i=.int .i64 k∧s=.int .i64 (grownLW sz (t.l.take k))∧Below W.heap.size W wr)
        case atStart=>exact⟨0,Nat.zero_le _,rfl,rfl,by rw[List.take_zero,grownLW_nil],Below.refl _ _⟩
        case round=>
         obtain⟨k,hk,rfl,rfl,rfl,hbel⟩:=hrel
         by_cases hkm:k<m
         · have d0:decide (k<m)=true:=by simpa using hkm
           have hk':k<t.l.length:=by omega
           obtain⟨b,off,rfl,hb,hc⟩:=(HL.out.below hbel).at_ (by omega);obtain⟨e0,e1,e2,e3,Ax,mx,cx,e4,hx⟩:=tyAt_iff.1 (hc k hk');have hst:=grownLW_snoc sz (t.l.take k) t.l[k];rw[← List.take_succ_eq_append_getElem hk'] at hst;have hn:=HN.out k hk';have hmx:=mayT_kid HM.out hk';obtain⟨x,hxk⟩:∃ x,t.l[k]=x:=⟨_,rfl⟩;rw[hxk] at e0 e1 e2 e3 hx hst hn hmx;have hbA:=hbel.alloc hbel.size (Obj.cells #[.int .u8 x.k,.int .i64 x.n,.int .i64 x.v,.int .u8 x.c,.slice Ax mx cx] 27);have hbB:=below_box (w:=wr) (Obj.cells #[.int .u8 x.k,.int .i64 x.n,.int .i64 x.v,.int .u8 x.c,.slice Ax mx cx] 27);have hq:=Ih.out x hn hmx Ax mx cx _ (((hx.more hbel.size).below hbB).more hbB.size) ((HR.out.below hbA).more hbA.size);obtain⟨r,hr⟩:∃ r,grownW sz x=r:=⟨_,rfl⟩;obtain⟨s,hs⟩:∃ s,grownLW sz (t.l.take k)=s:=⟨_,rfl⟩;rw[hr] at hq hst;rw[hs] at hst ⊢;have Hq:=qq hq;have Hst:=qq hst;have HbA:=qq hbA
           have k1:(0:Int)≤(k:Int):=by omega
           have k2:(k:Int)<m:=by omega
           clear hc hx hxk hq hst hbA hbB hr hs hn hmx hbel;go_wp2_with fail
           refine Hq.out.mono ?_; rintro e w3 ⟨rfl,hb3⟩
           have Hb3:=qq (HbA.out.trans (hb3.mono HbA.out.size));clear hb3 Hq;go_wp2_with fail;go_roundg (m - (k+1))
           case measure=>omega
           case rel=>exact⟨k+1,by omega,rfl,by go_num,by rw[Hst.out],Hb3.out⟩
         · have d0:decide (k<m)=false:=by simpa using hkm
           have HF:Hid (grownLW sz (t.l.take k)=grownW sz t):=qq (by rw[List.take_of_length_le (by omega),Hgd.out]);have Hb:=qq (Hbx.out.trans (hbel.mono Hbx.out.size));clear hbel;go_wp2_with fail;go_ret;exact⟨ret_int HF.out,Hb.out⟩
      · have d1:(t.k==1)=false:=by simp[hk]
        clear hk hvar
        go_enter Tryz.func63,Tryz.ntmps63
        go_wp2_with fail;rw[HW.out];go_wp2_with fail;clear z0 z1 z4
        go_loopg [5,26] m (fun gh s i wr=>∃ k:Nat,k≤m∧gh=m - k∧i=.int .i64 k∧s=.int .i64 (grownLW sz (t.l.take k))∧Below W.heap.size W wr)
        case atStart=>exact⟨0,Nat.zero_le _,rfl,rfl,by rw[List.take_zero,grownLW_nil],Below.refl _ _⟩
        case round=>
         obtain⟨k,hk,rfl,rfl,rfl,hbel⟩:=hrel
         by_cases hkm:k<m
         · have d0:decide (k<m)=true:=by simpa using hkm
           have hk':k<t.l.length:=by omega
           obtain⟨b,off,rfl,hb,hc⟩:=(HL.out.below hbel).at_ (by omega);obtain⟨e0,e1,e2,e3,Ax,mx,cx,e4,hx⟩:=tyAt_iff.1 (hc k hk');have hst:=grownLW_snoc sz (t.l.take k) t.l[k];rw[← List.take_succ_eq_append_getElem hk'] at hst;have hn:=HN.out k hk';have hmx:=mayT_kid HM.out hk';obtain⟨x,hxk⟩:∃ x,t.l[k]=x:=⟨_,rfl⟩;rw[hxk] at e0 e1 e2 e3 hx hst hn hmx;have hbA:=hbel.alloc hbel.size (Obj.cells #[.int .u8 x.k,.int .i64 x.n,.int .i64 x.v,.int .u8 x.c,.slice Ax mx cx] 27);have hbB:=below_box (w:=wr) (Obj.cells #[.int .u8 x.k,.int .i64 x.n,.int .i64 x.v,.int .u8 x.c,.slice Ax mx cx] 27);have hq:=Ih.out x hn hmx Ax mx cx _ (((hx.more hbel.size).below hbB).more hbB.size) ((HR.out.below hbA).more hbA.size);obtain⟨r,hr⟩:∃ r,grownW sz x=r:=⟨_,rfl⟩;obtain⟨s,hs⟩:∃ s,grownLW sz (t.l.take k)=s:=⟨_,rfl⟩;rw[hr] at hq hst;rw[hs] at hst ⊢;have Hq:=qq hq;have Hst:=qq hst;have HbA:=qq hbA
           have k1:(0:Int)≤(k:Int):=by omega
           have k2:(k:Int)<m:=by omega
           clear hc hx hxk hq hst hbA hbB hr hs hn hmx hbel;go_wp2_with fail
           refine Hq.out.mono ?_; rintro e w3 ⟨rfl,hb3⟩
           have Hb3:=qq (HbA.out.trans (hb3.mono HbA.out.size));clear hb3 Hq;go_wp2_with fail;go_roundg (m - (k+1))
           case measure=>omega
           case rel=>exact⟨k+1,by omega,rfl,by go_num,by rw[Hst.out],Hb3.out⟩
         · have d0:decide (k<m)=false:=by simpa using hkm
           have HF:Hid (grownLW sz (t.l.take k)=grownW sz t):=qq (by rw[List.take_of_length_le (by omega),Hgd.out]);have Hb:=qq (Hbx.out.trans (hbel.mono Hbx.out.size));clear hbel;go_wp2_with fail;go_ret;exact⟨ret_int HF.out,Hb.out⟩
     exact hgo
theorem put3_any (p1:Nat) (A:Option Addr) (m c:Nat) (types:List TyD) (i:Int) (w:World) (hp:w.cell? ⟨p1,0,none⟩=some (.slice A m c)) (ht:TysV w w.heap.size A m c types) (hm:∀ t∈types,mayT t=true) (h0:0≤i):
 Calls Tryz.prog 65 (#[.int .i64 i]++#[.pointer (some ⟨p1,0,none⟩)]) w (VPost (putV types) i w):=by
 have hlen:=ht.len;have m63:m≤9223372036854775807:=Nat.le_trans ht.2.1 ht.2.2.1;have hbx:=below_box (w:=w) (Obj.cells #[.int .u8 0,.int .i64 0,.int .i64 0,.int .u8 0,.slice none 0 0] 27);have hy:=blk_new w #[.int .u8 0,.int .i64 0,.int .i64 0,.int .u8 0,.slice none 0 0] 27;have hL:=(ht.below hbx).more hbx.size;have hp1:=(hbx.cell (p:=⟨p1,0,none⟩) (block_lt_of_cell hp)).trans hp
 by_cases hi:i<m
 · have d0:decide (i<m)=true:=by simpa using hi
   have hi':i.toNat<types.length:=by omega
   have hv:putV types i=some types[i.toNat]:=by unfold putV; rw[if_pos (by omega),qj hi']
   obtain⟨b,off,rfl,hb,hc⟩:=hL.at_ (by omega);obtain⟨e0,e1,e2,e3,A2,n2,c2,e4,hx⟩:=tyAt_iff.1 (hc i.toNat hi');have hmx:=hm types[i.toNat] (List.getElem_mem hi');obtain⟨x,hxk⟩:∃ x,types[i.toNat]=x:=⟨_,rfl⟩;rw[hxk] at e0 e1 e2 e3 hx hmx hv;have hq:=fresh_go (nodes x) x (Nat.le_refl _) hmx A2 n2 c2 _ hx;have Hq:=qq hq;have Hy:=qq hy;have Hbx:=qq hbx;have Hv:=qq hv;clear ht hm hbx hy hL hp hc hx hmx hxk hq hv
   go_enter Tryz.func65,Tryz.ntmps65
   go_wp2_with fail
   refine Hq.out.mono ?_; rintro e w3 ⟨A3,n3,c3,rfl,hx3,hb3⟩
   have hy4:=Hy.out.below hb3 Hy.out.lt;have hb4:=Hbx.out.trans (hb3.mono Hbx.out.size);have hg2w:w.heap.size≤w.heap.size:=Nat.le_refl _
   have hT4:TysS w3 (fun q=>w.heap.size≤q∧q<w3.heap.size∧q≠w.heap.size) A3 n3 c3 x.l:=hx3.keep (fun q hq=>by have:=hq.1; rw[World.size_alloc] at this; exact⟨by omega,hq.2,by omega⟩) fun _ _=>rfl
   have s0:=hy4.frozen 0;have s1:=hy4.frozen 1;have s2:=hy4.frozen 2;have s3:=hy4.frozen 3;have s4:=hy4.frozen 4;have r0:=hy4.cell 0;have r1:=hy4.cell 1;have r2:=hy4.cell 2;have r3:=hy4.cell 3;have r4:=hy4.cell 4;have Hy4:=qq hy4;have Hb4:=qq hb4;have HT4:=qq hT4;clear hy4 hb4 hT4 hx3 hb3 e0 e1 e2 e3 e4 hp1 Hq Hy Hbx;go_wp2_with fail
   have hs:Blk (((((w3.setCell ⟨w.heap.size,0,none⟩ (.int .u8 x.k)).setCell ⟨w.heap.size,1,none⟩ (.int .i64 x.n)).setCell ⟨w.heap.size,2,none⟩ (.int .i64 x.v)).setCell ⟨w.heap.size,3,none⟩ (.int .u8 x.c)).setCell ⟨w.heap.size,4,none⟩ (.slice A3 n3 c3)) w.heap.size 27 #[.int .u8 x.k,.int .i64 x.n,.int .i64 x.v,.int .u8 x.c,.slice A3 n3 c3]:=
    ((((Hy4.out.set_ 0 (.int .u8 x.k)).set_ 1 (.int .i64 x.n)).set_ 2 (.int .i64 x.v)).set_ 3 (.int .u8 x.c)).set_ 4 (.slice A3 n3 c3)
   have hb9:=((((Hb4.out.setCell (p:=⟨w.heap.size,0,none⟩) hg2w (.int .u8 x.k)).setCell (p:=⟨w.heap.size,1,none⟩) hg2w (.int .i64 x.n)).setCell (p:=⟨w.heap.size,2,none⟩) hg2w (.int .i64 x.v)).setCell (p:=⟨w.heap.size,3,none⟩) hg2w (.int .u8 x.c)).setCell (p:=⟨w.heap.size,4,none⟩) hg2w (.slice A3 n3 c3)
   have hr9:TysS (((((w3.setCell ⟨w.heap.size,0,none⟩ (.int .u8 x.k)).setCell ⟨w.heap.size,1,none⟩ (.int .i64 x.n)).setCell ⟨w.heap.size,2,none⟩ (.int .i64 x.v)).setCell ⟨w.heap.size,3,none⟩ (.int .u8 x.c)).setCell ⟨w.heap.size,4,none⟩ (.slice A3 n3 c3)) (fun b=>w.heap.size≤b∧b<(((((w3.setCell ⟨w.heap.size,0,none⟩ (.int .u8 x.k)).setCell ⟨w.heap.size,1,none⟩ (.int .i64 x.n)).setCell ⟨w.heap.size,2,none⟩ (.int .i64 x.v)).setCell ⟨w.heap.size,3,none⟩ (.int .u8 x.c)).setCell ⟨w.heap.size,4,none⟩ (.slice A3 n3 c3)).heap.size) A3 n3 c3 x.l:=by
    refine HT4.out.keep (fun b hb=>⟨hb.1,by simpa using hb.2.1⟩) fun p hp=>?_
    have c1:∀ (W':World) (o:Nat) (u:Value),(W'.setCell ⟨w.heap.size,o,none⟩ u).cell? p=W'.cell? p:=fun W' o u=>World.cell?_setCell_other _ _ _ _ (fun e=>hp.2.2 (by rw[← e]));rw[c1,c1,c1,c1,c1]
   generalize (((((w3.setCell ⟨w.heap.size,0,none⟩ (.int .u8 x.k)).setCell ⟨w.heap.size,1,none⟩ (.int .i64 x.n)).setCell ⟨w.heap.size,2,none⟩ (.int .i64 x.v)).setCell ⟨w.heap.size,3,none⟩ (.int .u8 x.c)).setCell ⟨w.heap.size,4,none⟩ (.slice A3 n3 c3))=W6 at hs hb9 hr9 ⊢;have d0':W6.cell? ⟨w.heap.size,0,none⟩=some (.int .u8 x.k):=hs.cell 0;have d1':W6.cell? ⟨w.heap.size,1,none⟩=some (.int .i64 x.n):=hs.cell 1;have d2':W6.cell? ⟨w.heap.size,2,none⟩=some (.int .i64 x.v):=hs.cell 2;have d3':W6.cell? ⟨w.heap.size,3,none⟩=some (.int .u8 x.c):=hs.cell 3;have d4':W6.cell? ⟨w.heap.size,4,none⟩=some (.slice A3 n3 c3):=hs.cell 4
   exact bodyPost_ret (v:=.tuple #[.agg #[.int .u8 x.k,.int .i64 x.n,.int .i64 x.v,.int .u8 x.c,.slice A3 n3 c3],.bool true]) (by simp[results,Tryz.results65,go_sem,d0',d1',d2',d3',d4']) rfl ⟨x,A3,n3,c3,true,rfl,hr9,by rw[Hv.out]; rfl,hb9⟩
 · have d0:decide (i<m)=false:=by simpa using hi
   have hv:putV types i=none:=by unfold putV; rw[if_neg (by omega)]
   have s0:=hy.frozen 0;have s1:=hy.frozen 1;have s2:=hy.frozen 2;have s3:=hy.frozen 3;have s4:=hy.frozen 4;have r0:=hy.cell 0;have r1:=hy.cell 1;have r2:=hy.cell 2;have r3:=hy.cell 3;have r4:=hy.cell 4;have Hbx:=qq hbx;have Hv:=qq hv;clear ht hm hbx hL hp hv hi
   go_enter Tryz.func65,Tryz.ntmps65
   go_wp2_with fail
   exact bodyPost_ret (v:=.tuple #[.agg #[.int .u8 0,.int .i64 0,.int .i64 0,.int .u8 0,.slice none 0 0],.bool false]) (by simp[results,Tryz.results65,go_sem,r0,r1,r2,r3,r4]) rfl ⟨.mk 0 0 0 0 [],none,0,0,false,rfl,TysS.nil,by rw[Hv.out]; rfl,Hbx.out⟩
def MusV (w:World) (B:Nat) (A:Option Addr) (n c:Nat) (ms:List (Int × Int)):Prop:=
 ms.length=n∧n≤c∧c≤maxLen∧(0<n→∃ b off,A=some ⟨b,off,none⟩∧b<B∧∀ i (h:i<ms.length),w.cell? ⟨b,off+i * 2,none⟩=some (.int .i64 ms[i].1)∧w.cell? ⟨b,off+i * 2+1,none⟩=some (.int .u8 ms[i].2))
section
variable {w w':World} {B B':Nat} {A:Option Addr} {n c:Nat} {ms:List (Int × Int)}
theorem MusV.keep (h:MusV w B A n c ms) (hk:∀ p:Addr,p.block<B→w'.cell? p=w.cell? p):MusV w' B A n c ms:=by
 obtain⟨h1,h2,h3,h4⟩:=h;refine⟨h1,h2,h3,fun hn=>?_⟩;obtain⟨b,off,e,hb,hc⟩:=h4 hn;exact⟨b,off,e,hb,fun i hi=>⟨(hk _ hb).trans (hc i hi).1,(hk _ hb).trans (hc i hi).2⟩⟩
theorem MusV.more (h:MusV w B A n c ms) (hB:B≤B'):MusV w B' A n c ms:=by
 obtain⟨h1,h2,h3,h4⟩:=h;refine⟨h1,h2,h3,fun hn=>?_⟩;obtain⟨b,off,e,hb,hc⟩:=h4 hn
 exact⟨b,off,e,by omega,hc⟩
theorem MusV.below (h:MusV w B A n c ms) (hb:Below B w w'):MusV w' B A n c ms:=h.keep fun _ hp=>hb.cell hp
theorem MusV.len (h:MusV w B A n c ms):ms.length=n:=h.1
end
theorem put4_any (p2:Nat) (A:Option Addr) (n c:Nat) (ms:List (Int × Int)) (i:Int) (w:World) (hp:w.cell? ⟨p2,0,none⟩=some (.slice A n c)) (ht:MusV w w.heap.size A n c ms) (h0:0≤i):
 Calls Tryz.prog 67 (#[.int .i64 i]++#[.pointer (some ⟨p2,0,none⟩)]) w fun e w'=>e=.returned (.agg #[.int .i64 (putM ms i).1,.int .u8 (putM ms i).2])∧Below w.heap.size w w':=by
 have hlen:=ht.len;have m63:n≤9223372036854775807:=Nat.le_trans ht.2.1 ht.2.2.1;have hbx:=below_box (w:=w) (Obj.cells #[.int .i64 0,.int .u8 0] 24);have hy:=blk_new w #[.int .i64 0,.int .u8 0] 24;have hL:=(ht.below hbx).more hbx.size;have hp1:=(hbx.cell (p:=⟨p2,0,none⟩) (block_lt_of_cell hp)).trans hp;have s0:=hy.frozen 0;have s1:=hy.frozen 1;have r0:=hy.cell 0;have r1:=hy.cell 1;obtain⟨V,hV⟩:∃ V,(putM ms i).1=V:=⟨_,rfl⟩;obtain⟨C,hC⟩:∃ C,(putM ms i).2=C:=⟨_,rfl⟩;rw[hV,hC]
 by_cases hi:i<n
 · have d0:decide (i<n)=true:=by simpa using hi
   have hi':i.toNat<ms.length:=by omega
   have hv:putM ms i=ms[i.toNat]:=by unfold putM; rw[if_pos (by omega),List.getD_eq_getElem?_getD,qj hi']; rfl
   rw[hv] at hV hC;obtain⟨b,off,rfl,hb,hc⟩:=hL.2.2.2 (by omega);obtain⟨e0,e1⟩:=hc i.toNat hi';rw[hV] at e0;rw[hC] at e1;have Hbx:=qq hbx;clear ht hbx hL hp hc hv hV hC
   go_enter Tryz.func67,Tryz.ntmps67
   go_wp2_with fail;have hb9:=(Hbx.out.setCell (p:=⟨w.heap.size,0,none⟩) (Nat.le_refl _) (.int .i64 V)).setCell (p:=⟨w.heap.size,1,none⟩) (Nat.le_refl _) (.int .u8 C);have hs:Blk (((w.alloc (Obj.cells #[.int .i64 0,.int .u8 0] 24)).setCell ⟨w.heap.size,0,none⟩ (.int .i64 V)).setCell ⟨w.heap.size,1,none⟩ (.int .u8 C)) w.heap.size 24 #[.int .i64 V,.int .u8 C]:=(hy.set_ 0 (.int .i64 V)).set_ 1 (.int .u8 C)
   first
    | exact bodyPost_ret (v:=.agg #[.int .i64 V,.int .u8 C]) (by simp[results,Tryz.results67,go_sem]) rfl ⟨rfl,below_box _⟩
    | exact bodyPost_ret (v:=.agg #[.int .i64 V,.int .u8 C]) (by simp[results,Tryz.results67,go_sem,hs.cell 0,hs.cell 1]) rfl ⟨rfl,hb9⟩
 · have d0:decide (i<n)=false:=by simpa using hi
   have hv:putM ms i=(i,0):=by unfold putM; rw[if_neg (by omega)]
   rw[hv] at hV hC;dsimp only at hV hC
   subst hV; subst hC
   have Hbx:=qq hbx;clear ht hbx hL hp hv hi
   go_enter Tryz.func67,Tryz.ntmps67
   go_wp2_with fail;exact bodyPost_ret (v:=.agg #[.int .i64 i,.int .u8 0]) (by simp[results,Tryz.results67,go_sem]) rfl ⟨rfl,below_box _⟩
theorem put1_any (t:TyD) (A:Option Addr) (m cp:Nat) (w:World) (h:TysV w w.heap.size A m cp t.l):
 Calls Tryz.prog 58 (#[.agg #[.int .u8 t.k,.int .i64 t.n,.int .i64 t.v,.int .u8 t.c,.slice A m cp]]++#[]) w fun e w'=>e=.returned (.bool (mayTE t != 0))∧Below w.heap.size w w':=by
 have hbx:=below_box (w:=w) (Obj.cells #[.int .u8 t.k,.int .i64 t.n,.int .i64 t.v,.int .u8 t.c,.slice A m cp] 27);have hq:=tyMay_any t (.agg #[.int .u8 t.k,.int .i64 t.n,.int .i64 t.v,.int .u8 t.c,.slice A m cp]) _ ⟨A,m,cp,rfl,(h.below hbx).more hbx.size⟩;obtain⟨E,hE⟩:∃ E,mayTE t=E:=⟨_,rfl⟩;rw[hE] at hq ⊢;have Hq:=qq hq;clear hq h hE
 by_cases h0:E=0
 · have d:(E != 0)=false:=by simp[h0]
   rw[d];clear h0
   go_enter Tryz.func58,Tryz.ntmps58
   go_wp2_with fail
   refine Hq.out.mono ?_; rintro e w1 ⟨rfl,hb1⟩
   go_wp2_with fail;go_ret;exact⟨rfl,hbx.trans (hb1.mono hbx.size)⟩
 · have d:(E != 0)=true:=by simp[h0]
   rw[d];clear h0
   go_enter Tryz.func58,Tryz.ntmps58
   go_wp2_with fail
   refine Hq.out.mono ?_; rintro e w1 ⟨rfl,hb1⟩
   go_wp2_with fail;go_ret;exact⟨rfl,hbx.trans (hb1.mono hbx.size)⟩
theorem put2_any (V C:Int) (r:Bool) (hr:(!isB C V)=r) (w:World):
 Calls Tryz.prog 60 #[.agg #[.int .i64 V,.int .u8 C]] w fun e w'=>e=.returned (.bool r)∧Below w.heap.size w w':=by
 have hbx:=below_box (w:=w) (Obj.cells #[.int .i64 V,.int .u8 C] 24)
 cases r with
 | true=>
   have hq:=is_at C V 2 (isE_no (by simpa using hr)) (w.alloc (Obj.cells #[.int .i64 V,.int .u8 C] 24));have Hq:=qq hq;clear hq hr
   go_enter Tryz.func60,Tryz.ntmps60
   go_wp2_with fail
   refine Hq.out.mono ?_; rintro e w1 ⟨rfl,hb1⟩
   go_wp2_with fail;go_ret;exact⟨rfl,hbx.trans (hb1.mono hbx.size)⟩
 | false=>
   have hq:=is_at C V 0 (isE_yes (by simpa using hr)) (w.alloc (Obj.cells #[.int .i64 V,.int .u8 C] 24));have Hq:=qq hq;clear hq hr
   go_enter Tryz.func60,Tryz.ntmps60
   go_wp2_with fail
   refine Hq.out.mono ?_; rintro e w1 ⟨rfl,hb1⟩
   go_wp2_with fail;go_ret;exact⟨rfl,hbx.trans (hb1.mono hbx.size)⟩
theorem indexMu (A:Option Addr) (n c:Nat) (ms:List (Int × Int)) (w:World) (hr:MusV w w.heap.size A n c ms):
 Calls Tryz.prog 120 #[.slice A n c,.func (.func 60) #[] #[]] w fun e w'=>∃ z:Int,e=.returned (.int .i64 z)∧decide (z≥0)=ms.any (fun x=>!isB x.2 x.1)∧Below w.heap.size w w':=by
 have hlen:=hr.len;have m63:n≤9223372036854775807:=Nat.le_trans hr.2.1 hr.2.2.1;have Hr:=qq hr;clear hr
 go_enter Tryz.func120,Tryz.ntmps120
 go_wp2_with fail
 go_loopg [5,8] n (fun g _ i wr=>∃ k:Nat,k≤n∧g=n - k∧i=.int .i64 k∧(∀ j (h:j<ms.length),j<k→isB ms[j].2 ms[j].1=true)∧Below w.heap.size w wr)
 case atStart=>exact⟨0,Nat.zero_le _,rfl,rfl,fun j _ h=>absurd h (by omega),Below.refl _ _⟩
 case round=>
  obtain⟨k,hk,rfl,rfl,hno,hbel⟩:=hrel;have Hno:=qq hno;have Hbel:=qq hbel;clear hno
  by_cases hkn:k<n
  · have d0:decide (k<n)=true:=by simpa using hkn
    have hk':k<ms.length:=by omega
    obtain⟨b,off,rfl,hb,hc⟩:=(Hr.out.below hbel).2.2.2 (by omega);obtain⟨e0,e1⟩:=hc k hk';obtain⟨P,hP⟩:∃ P,(!isB ms[k].2 ms[k].1)=P:=⟨_,rfl⟩;have hq:=put2_any ms[k].1 ms[k].2 P hP wr;have Hq:=qq hq;have HP:=qq hP
    have k1:(0:Int)≤(k:Int):=by omega
    have k2:(k:Int)<n:=by omega
    clear hc hq hP hbel
    cases P with
    | false=>
      have hno2:∀ j (h:j<ms.length),j<k+1→isB ms[j].2 ms[j].1=true:=fun j hj hjk=>by
       rcases Nat.lt_or_ge j k with h | h
       · exact Hno.out j hj h
       · have:j=k:=by omega
         subst this;have:=HP.out
         simpa using this
      have Hno2:=qq hno2;clear hno2;go_wp2_with fail
      refine Hq.out.mono ?_; rintro e w1 ⟨rfl,hb1⟩
      have Hb1:=qq (Hbel.out.trans (hb1.mono Hbel.out.size));clear hb1;go_wp2_with fail;go_roundg (n - (k+1))
      case measure=>omega
      case rel=>exact⟨k+1,by omega,rfl,by go_num,Hno2.out,Hb1.out⟩
    | true=>
      have HF:Hid (decide ((k:Int)≥0)=ms.any (fun x=>!isB x.2 x.1)):=qq (by
       rw[decide_eq_true (by omega)]
       exact(List.any_eq_true.2 ⟨_,List.getElem_mem hk',HP.out⟩).symm)
      go_wp2_with fail
      refine Hq.out.mono ?_; rintro e w1 ⟨rfl,hb1⟩
      have Hb1:=qq (Hbel.out.trans (hb1.mono Hbel.out.size));clear hb1;go_wp2_with fail;go_ret;exact⟨(k:Int),rfl,HF.out,Hb1.out⟩
  · have d0:decide (k<n)=false:=by simpa using hkn
    have HF:Hid (decide ((-1:Int)≥0)=ms.any (fun x=>!isB x.2 x.1)):=qq (by
     have:ms.any (fun x=>!isB x.2 x.1)=false:=by
      rw[List.any_eq_false];intro x hx;obtain⟨j,hj,rfl⟩:=List.getElem_of_mem hx;simp[Hno.out j hj (by omega)]
     rw[this]; rfl)
    go_wp2_with fail;go_ret;exact⟨-1,rfl,HF.out,Hbel.out⟩
theorem containsMu (A:Option Addr) (n c:Nat) (ms:List (Int × Int)) (w:World) (hr:MusV w w.heap.size A n c ms) (r:Bool) (hr2:ms.any (fun x=>!isB x.2 x.1)=r):
 Calls Tryz.prog 59 #[.slice A n c,.func (.func 60) #[] #[]] w fun e w'=>e=.returned (.bool r)∧Below w.heap.size w w':=by
 have hi:=indexMu A n c ms w hr;rw[hr2] at hi;have Hi:=qq hi;clear hi hr hr2
 cases r with
 | true=>
   go_enter Tryz.func59,Tryz.ntmps59
   go_wp2_with fail
   refine Hi.out.mono ?_; rintro e w1 ⟨z,rfl,hz,hb1⟩
   go_wp2_with fail;go_ret;exact⟨rfl,hb1⟩
 | false=>
   go_enter Tryz.func59,Tryz.ntmps59
   go_wp2_with fail
   refine Hi.out.mono ?_; rintro e w1 ⟨z,rfl,hz,hb1⟩
   go_wp2_with fail;go_ret;exact⟨rfl,hb1⟩
end Go.Proofs.YtdmakpmbknindaaGreatDoor
