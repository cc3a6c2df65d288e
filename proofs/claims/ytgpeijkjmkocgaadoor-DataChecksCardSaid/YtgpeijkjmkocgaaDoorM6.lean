import Derived.Test.YtgpeijkjmkocgaaDoorM5
import Derived.Laws.IdiomCopy
set_option linter.unusedVariables false
set_option linter.unusedSimpArgs false
set_option maxHeartbeats 4000000
set_option maxRecDepth 100000
namespace Go.Proofs.YtgpeijkjmkocgaaDoor
open Go.RowKit
theorem isN_len {t:TyD} (h:isN t=true):t.l.length≤4:=by
 unfold isN at h;simp only[Bool.and_eq_true,decide_eq_true_eq] at h;have:=h.1.2;omega
theorem mayT_len {t:TyD} (h:mayT t=true):t.l.length≤4:=by
 rw[mayT_eq,Bool.and_eq_true] at h;exact isN_len h.1
theorem mayT_kid {t:TyD} (h:mayT t=true) {i:Nat} (hi:i<t.l.length):mayT t.l[i]=true:=by
 rw[mayT_eq,Bool.and_eq_true] at h;exact List.all_eq_true.1 h.2 _ (List.getElem_mem hi)
theorem ownTy_setCells {base:Nat} {e:TypeId} {size g n c:Nat}:∀ (vs:List Value) (cs:List Value) (o:Nat) (w:World),w.ownsRow base e size (.slice (some ⟨g,0,none⟩) n c) n cs→o+vs.length≤cs.length →
  (∃ cs',(w.setCells g o vs).ownsRow base e size (.slice (some ⟨g,0,none⟩) n c) n cs'∧(∀ k,o≤k→k<o+vs.length→cs'[k]?=vs[k - o]?)∧(∀ k,k<o∨o+vs.length≤k→cs'[k]?=cs[k]?))∧w.grownBy (w.setCells g o vs) (some g)
 | [],cs,o,w,h,_=>⟨⟨cs,h,fun k h1 h2=>by simp at h2; omega,fun _ _=>rfl⟩,World.grownBy.refl w _⟩
 | v :: vs,cs,o,w,h,hl=>by
   obtain⟨h1,h2⟩:=h.stored o v;simp only[List.length_cons] at hl
   obtain⟨⟨cs',h3,h4,h6⟩,h5⟩:=ownTy_setCells vs (cs.set o v) (o+1) _ h1 (by rw[List.length_set]; omega)
   refine⟨⟨cs',h3,fun k hk1 hk2=>?_,fun k hk=>?_⟩,?_⟩
   · simp only[List.length_cons] at hk2
     rcases Nat.eq_or_lt_of_le hk1 with rfl | hk
     · rw[h6 _ (.inl (by omega)),Nat.sub_self,List.getElem?_set_self (by omega)]; rfl
     · rw[h4 k (by omega) (by omega),show k - o=(k - (o+1))+1 from by omega]; rfl
   · simp only[List.length_cons] at hk
     rw[h6 k (by omega),List.getElem?_set_ne (by omega)]
   · exact⟨h5.os.trans h2.os,h5.tape.trans h2.tape,h5.output.trans h2.output,Nat.le_trans h2.size h5.size,fun k hk hne=>(h5.block k (Nat.lt_of_lt_of_le hk h2.size) hne).trans (h2.block k hk hne)⟩
def FreshT (t:TyD) (w:World) (e:Ending) (w':World):Prop:=
 ∃ A m cp,e=.returned (.agg #[.int .u8 t.k,.int .i64 t.n,.int .i64 t.v,.int .u8 t.c,.slice A m cp])∧TysS w' (fun b=>w.heap.size≤b∧b<w'.heap.size) A m cp t.l∧Below w.heap.size w w'
def FreshI (t:TyD) (B base:Nat) (v:Value) (m:Nat) (k:Nat) (w:World):Prop:=
 OwnTy w base v m t.l (fun i b=>if i<k then base≤b∧b<w.heap.size∧some b≠v.ownBlock else b<B)
theorem FreshI.step {t:TyD} {B base g m c k:Nat} {w w3:World} (h:FreshI t B base (.slice (some ⟨g,0,none⟩) m c) m k w) (hk:k<t.l.length) (hb:Below w.heap.size w w3) (hB:B≤base) (hbase:base≤w.heap.size)
  {A:Option Addr} {n d:Nat} (hx:TysS w3 (fun b=>w.heap.size≤b∧b<w3.heap.size) A n d t.l[k].l):
  FreshI t B base (.slice (some ⟨g,0,none⟩) m c) m (k+1) (w3.setCells g (k * 5) [.int .u8 t.l[k].k,.int .i64 t.l[k].n,.int .i64 t.l[k].v,.int .u8 t.l[k].c,.slice A n d]) ∧
   w3.grownBy (w3.setCells g (k * 5) [.int .u8 t.l[k].k,.int .i64 t.l[k].n,.int .i64 t.l[k].v,.int .u8 t.l[k].c,.slice A n d]) (some g)∧base≤g∧g<w.heap.size:=by
 obtain⟨hl,cs,hown,hc⟩:=h;have hg:=hown.lt g rfl;have hown3:=ownsRow_beyond hown hb;have hcl:cs.length=m * 5:=hown.1
 obtain⟨⟨cs',h1,h2,h3⟩,h4⟩:=ownTy_setCells [.int .u8 t.l[k].k,.int .i64 t.l[k].n,.int .i64 t.l[k].v,.int .u8 t.l[k].c,.slice A n d] cs (k * 5) w3 hown3 (by rw[hcl]; simp; omega)
 simp only[List.length_cons,List.length_nil] at h2 h3;have hs3:=hb.size;have hs4:=h4.size
 have hcell:∀ p:Addr,p.block≠g→p.block<w3.heap.size→(w3.setCells g (k * 5) [.int .u8 t.l[k].k,.int .i64 t.l[k].n,.int .i64 t.l[k].v,.int .u8 t.l[k].c,.slice A n d]).cell? p=w3.cell? p:=fun p hp hlt=>
  World.cell?_of_block (h4.block p.block hlt (by intro e; injection e with e; exact hp e))
 refine⟨⟨hl,cs',h1,fun i hi=>?_⟩,h4,hg.1,hg.2⟩
 rcases Nat.lt_trichotomy i k with hik | rfl | hik
 · have h5:=hc i hi
   simp only[if_pos hik] at h5;have h6:=(h5.congr fun x h7 h8=>h3 x (.inl (by omega)));refine h6.keep (fun b hb'=>?_) fun p hp=>?_
   · dsimp only; rw[if_pos (show i<k+1 by omega)]; exact⟨hb'.1,by omega,hb'.2.2⟩
   · rw[hcell p (fun e=>hp.2.2 (by rw[e]; rfl)) (by omega)]
     exact hb.cell hp.2.1
 · refine⟨A,n,d,?_,?_,?_,?_,?_,?_⟩
   · rw[h2 _ (by omega) (by omega),Nat.sub_self]; rfl
   · rw[h2 _ (by omega) (by omega),show i * 5+1 - i * 5=1 from by omega]; rfl
   · rw[h2 _ (by omega) (by omega),show i * 5+2 - i * 5=2 from by omega]; rfl
   · rw[h2 _ (by omega) (by omega),show i * 5+3 - i * 5=3 from by omega]; rfl
   · rw[h2 _ (by omega) (by omega),show i * 5+4 - i * 5=4 from by omega]; rfl
   · refine hx.keep (fun b hb'=>?_) fun p hp=>?_
     · dsimp only
       rw[if_pos (show i<i+1 by omega)]
       refine⟨by omega,by omega,fun e=>?_⟩
       have e':b=g:=by injection e
       omega
     · exact hcell p (fun e=>by have:=hp.1; omega) hp.2
 · have h5:=hc i hi
   simp only[if_neg (show ¬ i<k by omega)] at h5
   have h6:=(h5.congr fun x h7 h8=>h3 x (.inr (by omega)));refine h6.keep (fun b hb'=>?_) fun p hp=>?_
   · dsimp only; rw[if_neg (show ¬ i<k+1 by omega)]; exact hb'
   · rw[hcell p (fun e=>by omega) (by omega)]
     exact hb.cell (by omega)
theorem FreshI.done {t:TyD} {B base m c:Nat} {A:Option Addr} {w:World} (h:FreshI t B base (.slice A m c) m m w):TysS w (fun b=>base≤b∧b<w.heap.size) A m c t.l:=by
 obtain⟨hl,cs,hown,hc⟩:=h
 rcases hown.2 with ⟨e0,hn⟩ | ⟨g,cap,cur,e0,hb,hg,hn,hm,hs,ht⟩
 · injection e0 with e1 e2 e3
   subst e1; subst e2; subst e3
   exact⟨hl,Nat.le_refl _,Nat.zero_le _,fun h=>absurd h (by omega)⟩
 · injection e0 with e1 e2 e3
   subst e1; subst e3
   refine⟨hl,hn,hm,fun _=>⟨g,0,rfl,⟨hb,(Array.getElem?_eq_some_iff.1 hg).1⟩,RowIn.of fun i hi=>?_⟩⟩;have h5:=hc i hi
   simp only[if_pos (show i<m by omega)] at h5
   have h6:C5 w (fun b=>base≤b∧b<w.heap.size) cs i t.l[i]:=h5.keep (fun b hb=>⟨hb.1,hb.2.1⟩) fun _ _=>rfl;exact h6.cells hown (by omega)
theorem FreshI.slot {t:TyD} {B base m c k:Nat} {A:Option Addr} {w:World} (h:FreshI t B base (.slice A m c) m k w) (hk:k<t.l.length):∃ g,A=some ⟨g,0,none⟩∧base≤g∧g<w.heap.size ∧
  ∃ A' n' c',w.cell? ⟨g,k * 5,none⟩=some (.int .u8 t.l[k].k)∧w.cell? ⟨g,k * 5+1,none⟩=some (.int .i64 t.l[k].n)∧w.cell? ⟨g,k * 5+2,none⟩=some (.int .i64 t.l[k].v)∧w.cell? ⟨g,k * 5+3,none⟩=some (.int .u8 t.l[k].c)∧w.cell? ⟨g,k * 5+4,none⟩=some (.slice A' n' c') ∧
   TysV w B A' n' c' t.l[k].l∧∀ j,w.frozen? ⟨g,j,none⟩=false:=by
 obtain⟨hl,cs,hown,hc⟩:=h
 rcases hown.2 with ⟨e0,hn⟩ | ⟨g,cap,cur,e0,hb,hg,hn,hm,hs,ht⟩
 · injection e0 with e1 e2 e3
   omega
 · injection e0 with e1 e2 e3
   subst e1; subst e3
   have h5:=hc k hk
   simp only[if_neg (show ¬ k<k by omega)] at h5
   have h6:=h5.cells hown (by omega);rw[Nat.zero_add] at h6;obtain⟨q0,q1,q2,q3,A',n',c',q4,hr⟩:=tyIn_iff.1 h6;exact⟨g,rfl,hb,(Array.getElem?_eq_some_iff.1 hg).1,A',n',c',q0,q1,q2,q3,q4,tysS_lt.1 hr,fun j=>hown.frozenAt j⟩
theorem fresh_go (N:Nat):∀ (t:TyD),nodes t≤N→mayT t=true→∀ (A:Option Addr) (m cp:Nat) (w:World),TysV w w.heap.size A m cp t.l →
  Calls Tryd.prog 92 #[.agg #[.int .u8 t.k,.int .i64 t.n,.int .i64 t.v,.int .u8 t.c,.slice A m cp]] w (FreshT t w):=by
 induction N with
 | zero=>intro t hN; exact absurd hN (by rw[nodes_eq t]; omega)
 | succ N ih=>
   intro t hN hm A m cp w hl;have Ih:=qq ih;clear ih;have hlen:=hl.len
   have m4:m≤4:=by rw[← hlen]; exact mayT_len hm
   have hbx:Below w.heap.size w ((w.alloc (Obj.cells #[.int .u8 t.k,.int .i64 t.n,.int .i64 t.v,.int .u8 t.c,.slice A m cp] 63)).alloc (Obj.cells #[.int .u8 0,.int .i64 0,.int .i64 0,.int .u8 0,.slice none 0 0] 63)):=((Below.refl _ _).alloc (Nat.le_refl _) _).alloc (by simp) _;have hz:=(blk_new w #[.int .u8 t.k,.int .i64 t.n,.int .i64 t.v,.int .u8 t.c,.slice A m cp] 63).alloc (Obj.cells #[.int .u8 0,.int .i64 0,.int .i64 0,.int .u8 0,.slice none 0 0] 63);have hy:=blk_new (w.alloc (Obj.cells #[.int .u8 t.k,.int .i64 t.n,.int .i64 t.v,.int .u8 t.c,.slice A m cp] 63)) #[.int .u8 0,.int .i64 0,.int .i64 0,.int .u8 0,.slice none 0 0] 63;rw[World.size_alloc] at hy;obtain⟨W,hW⟩:∃ W,(w.alloc (Obj.cells #[.int .u8 t.k,.int .i64 t.n,.int .i64 t.v,.int .u8 t.c,.slice A m cp] 63)).alloc (Obj.cells #[.int .u8 0,.int .i64 0,.int .i64 0,.int .u8 0,.slice none 0 0] 63)=W:=⟨_,rfl⟩;rw[hW] at hbx hz hy;have hq:=cloneTy_any A m cp t.l W ((hl.below hbx).more hbx.size) (by omega);have HW:=qq hW;have Hbx:=qq hbx;have Hz:=qq hz;have Hy:=qq hy;have Hq:=qq hq;have HM:=qq hm;have Hlz:=qq hz.lt;have Hly:=qq hy.lt;have z4:=hz.cell 4
   have HN:Hid (∀ i (h:i<t.l.length),nodes t.l[i]≤N):=qq fun i h=>by have:=nodes_get h; omega
   clear hl hbx hz hy hW hq hN hm
   go_enter Tryd.func92,Tryd.ntmps92
   go_wp2_with fail;rw[HW.out];go_wp2_with fail
   refine Hq.out.mono ?_; rintro e w1 ⟨v1,rfl,hown,hform,hb1⟩
   obtain⟨A1,c1,rfl⟩:∃ A1 c1,v1=.slice A1 m c1:=ownsRow_form hown.2.choose_spec.1
   have hF:FreshI t W.heap.size W.heap.size (.slice A1 m c1) m 0 w1:=⟨hown.1,hown.2.choose,hown.2.choose_spec.1,fun i hi=>(hown.2.choose_spec.2 i hi).keep (fun b hb=>by dsimp only; rw[if_neg (by omega)]; exact hb) fun _ _=>rfl⟩
   have HF:=qq hF;have Hb1:=qq hb1;clear hown hform hb1 hF z4 Hq;go_wp2_with fail
   go_loopg [11] m (fun gh i wr=>∃ k:Nat,k≤m∧gh=m - k∧i=.int .i64 k∧FreshI t W.heap.size W.heap.size (.slice A1 m c1) m k wr∧Below W.heap.size W wr)
   case atStart=>exact⟨0,Nat.zero_le _,rfl,rfl,HF.out,Hb1.out⟩
   case round=>
    obtain⟨k,hk,rfl,rfl,hF,hbel⟩:=hrel
    by_cases hkm:k<m
    · have d0:decide (k<m)=true:=by simpa using hkm
      have hk':k<t.l.length:=by omega
      obtain⟨g,rfl,hgb,hgs,A2,n2,c2,e0,e1,e2,e3,e4,hx,hfz⟩:=hF.slot hk';have hn:=HN.out k hk';have hmx:=mayT_kid HM.out hk';have hbB:=below_box (w:=wr) (Obj.cells #[.int .u8 t.l[k].k,.int .i64 t.l[k].n,.int .i64 t.l[k].v,.int .u8 t.l[k].c,.slice A2 n2 c2] 63);have hq:=Ih.out t.l[k] hn hmx A2 n2 c2 _ (((hx.more hbel.size).below hbB).more hbB.size);have hst:=fun(w3:World) (hb:Below wr.heap.size wr w3) (A3:Option Addr) (n3 c3:Nat) (h:TysS w3 (fun b=>wr.heap.size≤b∧b<w3.heap.size) A3 n3 c3 t.l[k].l)=>hF.step hk' hb (Nat.le_refl _) hbel.size h;obtain⟨x,hxk⟩:∃ x,t.l[k]=x:=⟨_,rfl⟩;rw[hxk] at e0 e1 e2 e3 hx hn hmx hbB hq;simp only[hxk] at hst;have Hq:=qq hq;have Hst:=qq hst;have Hbel:=qq hbel;have HbB:=qq hbB;have Hfz:=qq hfz
      have k1:(0:Int)≤(k:Int):=by omega
      have k2:(k:Int)<m:=by omega
      clear hx hn hmx hbB hq hst hbel hF hxk hfz;go_wp2_with fail
      refine Hq.out.mono ?_; rintro e w3 ⟨A3,n3,c3,rfl,hx3,hb3⟩
      have hb13:Below wr.heap.size wr w3:=HbB.out.trans (hb3.mono HbB.out.size);have hs:=Hst.out w3 hb13 A3 n3 c3 (hx3.mono fun b hb=>⟨Nat.le_trans HbB.out.size hb.1,hb.2⟩);have hbS:Below W.heap.size W w3:=Hbel.out.trans (hb13.mono Hbel.out.size)
      have hbN:=hbS.grown hs.2.1 hbS.size (fun j hj=>by have:=hs.2.2.1; injection hj with hj; omega)
      have Hs1:=qq hs.1;have HbN:=qq hbN;have f0:=(hb13.cell (p:=⟨g,k * 5,none⟩) hgs).trans e0;have f1:=(hb13.cell (p:=⟨g,k * 5+1,none⟩) hgs).trans e1;have f2:=(hb13.cell (p:=⟨g,k * 5+2,none⟩) hgs).trans e2;have f3:=(hb13.cell (p:=⟨g,k * 5+3,none⟩) hgs).trans e3;have f4:=(hb13.cell (p:=⟨g,k * 5+4,none⟩) hgs).trans e4;have z0:=(hb13.frozen (p:=⟨g,k * 5,none⟩) hgs).trans (Hfz.out (k * 5));have z1:=(hb13.frozen (p:=⟨g,k * 5+1,none⟩) hgs).trans (Hfz.out (k * 5+1));have z2:=(hb13.frozen (p:=⟨g,k * 5+2,none⟩) hgs).trans (Hfz.out (k * 5+2));have z3:=(hb13.frozen (p:=⟨g,k * 5+3,none⟩) hgs).trans (Hfz.out (k * 5+3));have z4:=(hb13.frozen (p:=⟨g,k * 5+4,none⟩) hgs).trans (Hfz.out (k * 5+4));clear hx3 hb3 hb13 hs hbS hbN e0 e1 e2 e3 e4 Hq Hst Hbel HbB Hfz;go_wp2_with fail;go_roundg (m - (k+1))
      case measure=>omega
      case rel=>exact⟨k+1,by omega,rfl,by go_num,Hs1.out,HbN.out⟩
    · have d0:decide (k<m)=false:=by simpa using hkm
      have hkm':k=m:=by omega
      subst hkm';have hT:=hF.done;have hz:=Hz.out.below hbel Hlz.out;have hy:=Hy.out.below hbel Hly.out;have hb0:Below w.heap.size w wr:=Hbx.out.trans (hbel.mono Hbx.out.size);have hWs:=Hbx.out.size;have hly:w.heap.size+1<W.heap.size:=Hly.out;obtain⟨g2,hg2⟩:∃ g2,w.heap.size+1=g2:=⟨_,rfl⟩
      have hne:w.heap.size≠g2:=by omega
      have hg2w:w.heap.size≤g2:=by omega
      rw[hg2] at hy hly ⊢;have hz1:Blk (wr.setCell ⟨w.heap.size,4,none⟩ (.slice A1 k c1)) w.heap.size 63 #[.int .u8 t.k,.int .i64 t.n,.int .i64 t.v,.int .u8 t.c,.slice A1 k c1]:=hz.set_ 4 (.slice A1 k c1);have hy1:=hy.other hne 4 (.slice A1 k c1);have x4:=hz.cell 4;have xf:=hz.frozen 4;have q0:=hz1.cell 0;have q1:=hz1.cell 1;have q2:=hz1.cell 2;have q3:=hz1.cell 3;have q4:=hz1.cell 4;have r0:=hy1.cell 0;have r1:=hy1.cell 1;have r2:=hy1.cell 2;have r3:=hy1.cell 3;have r4:=hy1.cell 4;have s0:=hy1.frozen 0;have s1:=hy1.frozen 1;have s2:=hy1.frozen 2;have s3:=hy1.frozen 3;have s4:=hy1.frozen 4;have hb2:=hb0.setCell (p:=⟨w.heap.size,4,none⟩) (Nat.le_refl _) (.slice A1 k c1);have HT:=qq hT;have Hy1:=qq hy1;have Hb2:=qq hb2;have Hly2:=qq hly;clear hF hz hy hz1 hy1 hbel hT hb0 hb2 hg2 hly;go_wp2_with fail
      have hs:Blk (((((( wr.setCell ⟨w.heap.size,4,none⟩ (.slice A1 k c1)).setCell ⟨g2,0,none⟩ (.int .u8 t.k)).setCell ⟨g2,1,none⟩ (.int .i64 t.n)).setCell ⟨g2,2,none⟩ (.int .i64 t.v)).setCell ⟨g2,3,none⟩ (.int .u8 t.c)).setCell ⟨g2,4,none⟩ (.slice A1 k c1)) g2 63 #[.int .u8 t.k,.int .i64 t.n,.int .i64 t.v,.int .u8 t.c,.slice A1 k c1]:=
       ((((Hy1.out.set_ 0 (.int .u8 t.k)).set_ 1 (.int .i64 t.n)).set_ 2 (.int .i64 t.v)).set_ 3 (.int .u8 t.c)).set_ 4 (.slice A1 k c1)
      have hb9:=((((Hb2.out.setCell (p:=⟨g2,0,none⟩) hg2w (.int .u8 t.k)).setCell (p:=⟨g2,1,none⟩) hg2w (.int .i64 t.n)).setCell (p:=⟨g2,2,none⟩) hg2w (.int .i64 t.v)).setCell (p:=⟨g2,3,none⟩) hg2w (.int .u8 t.c)).setCell (p:=⟨g2,4,none⟩) hg2w (.slice A1 k c1)
      have hr9:TysS (((((( wr.setCell ⟨w.heap.size,4,none⟩ (.slice A1 k c1)).setCell ⟨g2,0,none⟩ (.int .u8 t.k)).setCell ⟨g2,1,none⟩ (.int .i64 t.n)).setCell ⟨g2,2,none⟩ (.int .i64 t.v)).setCell ⟨g2,3,none⟩ (.int .u8 t.c)).setCell ⟨g2,4,none⟩ (.slice A1 k c1)) (fun b=>w.heap.size≤b∧b<(((((( wr.setCell ⟨w.heap.size,4,none⟩ (.slice A1 k c1)).setCell ⟨g2,0,none⟩ (.int .u8 t.k)).setCell ⟨g2,1,none⟩ (.int .i64 t.n)).setCell ⟨g2,2,none⟩ (.int .i64 t.v)).setCell ⟨g2,3,none⟩ (.int .u8 t.c)).setCell ⟨g2,4,none⟩ (.slice A1 k c1)).heap.size) A1 k c1 t.l:=by
       refine HT.out.keep (fun b hb=>⟨by omega,by simpa using hb.2⟩) fun p hp=>?_
       have hlo:W.heap.size≤p.block:=hp.1;have hl2:=Hly2.out
       have c1:∀ (W':World) (g o:Nat) (u:Value),g<W.heap.size→(W'.setCell ⟨g,o,none⟩ u).cell? p=W'.cell? p:=fun W' g o u hg=>World.cell?_setCell_other _ _ _ _ (fun e=>by rw[← e] at hlo; exact absurd hlo (by show ¬ W.heap.size≤g; omega))
       rw[c1 _ _ _ _ (by omega),c1 _ _ _ _ (by omega),c1 _ _ _ _ (by omega),c1 _ _ _ _ (by omega),c1 _ _ _ _ (by omega),c1 _ _ _ _ (by omega)]
      generalize (((((( wr.setCell ⟨w.heap.size,4,none⟩ (.slice A1 k c1)).setCell ⟨g2,0,none⟩ (.int .u8 t.k)).setCell ⟨g2,1,none⟩ (.int .i64 t.n)).setCell ⟨g2,2,none⟩ (.int .i64 t.v)).setCell ⟨g2,3,none⟩ (.int .u8 t.c)).setCell ⟨g2,4,none⟩ (.slice A1 k c1))=W6 at hs hb9 hr9 ⊢;have d0':W6.cell? ⟨g2,0,none⟩=some (.int .u8 t.k):=hs.cell 0;have d1':W6.cell? ⟨g2,1,none⟩=some (.int .i64 t.n):=hs.cell 1;have d2':W6.cell? ⟨g2,2,none⟩=some (.int .i64 t.v):=hs.cell 2;have d3':W6.cell? ⟨g2,3,none⟩=some (.int .u8 t.c):=hs.cell 3;have d4':W6.cell? ⟨g2,4,none⟩=some (.slice A1 k c1):=hs.cell 4;exact bodyPost_ret (v:=.agg #[.int .u8 t.k,.int .i64 t.n,.int .i64 t.v,.int .u8 t.c,.slice A1 k c1]) (by simp[results,Tryd.results92,go_sem,d0',d1',d2',d3',d4']) rfl ⟨A1,k,c1,rfl,hr9,hb9⟩
def grownN (sz:List Int):TyD→Int
 | .mk k n _ _ l=>if k=1∧n<sz.length then sz.getD n.toNat 0 else 1+grownL sz l
where grownL (sz:List Int):List TyD→Int
 | []=>0
 | t :: r=>grownN sz t+grownL sz r
theorem grownN_eq (sz:List Int) (t:TyD):grownN sz t=if t.k=1∧t.n<sz.length then sz.getD t.n.toNat 0 else 1+grownN.grownL sz t.l:=by cases t; rw[grownN]; rfl
theorem grownL_snoc (sz:List Int) (l:List TyD) (t:TyD):grownN.grownL sz (l++[t])=grownN.grownL sz l+grownN sz t:=by
 induction l with
 | nil=>simp[grownN.grownL]
 | cons x l ih=>simp only[List.cons_append,grownN.grownL,ih]; omega
def grownW (sz:List Int) (t:TyD):Int:=wrap64 (grownN sz t)
def grownLW (sz:List Int) (l:List TyD):Int:=wrap64 (1+grownN.grownL sz l)
theorem grownLW_snoc (sz:List Int) (l:List TyD) (t:TyD):wrap64 (grownLW sz l+grownW sz t)=grownLW sz (l++[t]):=by
 unfold grownLW grownW;rw[wrap_add,grownL_snoc,Int.add_assoc]
theorem grownLW_nil (sz:List Int):grownLW sz []=1:=by unfold grownLW grownN.grownL; decide +kernel
theorem mayT_n {t:TyD} (h:mayT t=true):0≤t.n:=by
 rw[mayT_eq,Bool.and_eq_true] at h;have:=h.1;unfold isN at this;simp only[Bool.and_eq_true,decide_eq_true_eq] at this;exact this.1.1.1.1.2
theorem grown_go (sz:List Int) (hsz:∀ s∈sz,wrap64 s=s) (A2:Option Addr) (n2 c2:Nat) (N:Nat):∀ (t:TyD),nodes t≤N→mayT t=true→∀ (A:Option Addr) (m cp:Nat) (w:World),TysV w w.heap.size A m cp t.l→RdI .i64 w w.heap.size A2 n2 c2 sz →
  Calls Tryd.prog 89 #[.agg #[.int .u8 t.k,.int .i64 t.n,.int .i64 t.v,.int .u8 t.c,.slice A m cp],.slice A2 n2 c2] w fun e w'=>e=.returned (.int .i64 (grownW sz t))∧Below w.heap.size w w':=by
 induction N with
 | zero=>intro t hN; exact absurd hN (by rw[nodes_eq t]; omega)
 | succ N ih=>
   intro t hN hm A m cp w hl hr;have Ih:=qq ih;clear ih;have hlen:=hl.len;have hl2:=hr.len;have m63:m≤9223372036854775807:=Nat.le_trans hl.2.1 hl.2.2.1;have n63:n2≤9223372036854775807:=Nat.le_trans hr.2.1 hr.2.2;have hn0:=mayT_n hm;have hbx:=below_box (w:=w) (Obj.cells #[.int .u8 t.k,.int .i64 t.n,.int .i64 t.v,.int .u8 t.c,.slice A m cp] 63);have hz:=blk_new w #[.int .u8 t.k,.int .i64 t.n,.int .i64 t.v,.int .u8 t.c,.slice A m cp] 63;have hL:=(hl.below hbx).more hbx.size;have hR:=(hr.below hbx).more hbx.size;obtain⟨W,hW⟩:∃ W,w.alloc (Obj.cells #[.int .u8 t.k,.int .i64 t.n,.int .i64 t.v,.int .u8 t.c,.slice A m cp] 63)=W:=⟨_,rfl⟩;rw[hW] at hbx hz hL hR;have z0:=hz.cell 0;have z1:=hz.cell 1;have z4:=hz.cell 4;have HW:=qq hW;have HL:=qq hL;have HR:=qq hR;have Hbx:=qq hbx;have HM:=qq hm;have heq:=grownN_eq sz t;have Heq:=qq heq
   have HN:Hid (∀ i (h:i<t.l.length),nodes t.l[i]≤N):=qq fun i h=>by have:=nodes_get h; omega
   clear hl hr hbx hz hL hR hW hm heq hN
   by_cases hvar:t.k=1∧t.n<n2
   · obtain⟨hk,hn⟩:=hvar
     have d1:(t.k==1)=true:=by simp[hk]
     have d2:decide (t.n<n2)=true:=by simpa using hn
     obtain⟨b,off,rfl,hb,hc⟩:=HR.out.at_ (by omega)
     have hi:t.n.toNat<sz.length:=by omega
     have v0:=hc t.n.toNat hi
     have hgd:grownW sz t=sz[t.n.toNat]:=by
      unfold grownW
      rw[Heq.out,if_pos ⟨hk,by omega⟩,List.getD_eq_getElem?_getD,qj hi]
      exact hsz _ (List.getElem_mem hi)
     have Hgd:=qq hgd
     have hnn:((t.n.toNat:Nat):Int)=t.n:=by omega
     have j1:(0:Int)≤t.n:=hn0;have j2:t.n<n2:=hn;rw[← HW.out] at v0;have HB:=qq Hbx.out;rw[← HW.out] at HB;clear hc hgd hk z0 z1 z4
     go_enter Tryd.func89,Tryd.ntmps89
     go_wp2_with fail;go_ret;exact⟨ret_int Hgd.out.symm,HB.out⟩
   · have hgd:grownLW sz t.l=grownW sz t:=by unfold grownLW grownW; rw[Heq.out,if_neg (by omega)]
     have Hgd:=qq hgd;clear hgd
     have hgo:Calls Tryd.prog 89 #[.agg #[.int .u8 t.k,.int .i64 t.n,.int .i64 t.v,.int .u8 t.c,.slice A m cp],.slice A2 n2 c2] w fun e w'=>e=.returned (.int .i64 (grownW sz t))∧Below w.heap.size w w':=by
      by_cases hk:t.k=1
      · have d1:(t.k==1)=true:=by simp[hk]
        have d2:decide (t.n<n2)=false:=by simp; omega
        clear hk hvar
        go_enter Tryd.func89,Tryd.ntmps89
        go_wp2_with fail;rw[HW.out];go_wp2_with fail;clear z0 z1 z4
        go_loopg [5,26] m (fun gh s i wr=>∃ k:Nat,k≤m∧gh=m - k∧i=.int .i64 k∧s=.int .i64 (grownLW sz (t.l.take k))∧Below W.heap.size W wr)
        case atStart=>exact⟨0,Nat.zero_le _,rfl,rfl,by rw[List.take_zero,grownLW_nil],Below.refl _ _⟩
        case round=>
         obtain⟨k,hk,rfl,rfl,rfl,hbel⟩:=hrel
         by_cases hkm:k<m
         · have d0:decide (k<m)=true:=by simpa using hkm
           have hk':k<t.l.length:=by omega
           obtain⟨b,off,rfl,hb,hc⟩:=(HL.out.below hbel).at_ (by omega);obtain⟨e0,e1,e2,e3,Ax,mx,cx,e4,hx⟩:=tyAt_iff.1 (hc k hk');have hst:=grownLW_snoc sz (t.l.take k) t.l[k];rw[← List.take_succ_eq_append_getElem hk'] at hst;have hn:=HN.out k hk';have hmx:=mayT_kid HM.out hk';obtain⟨x,hxk⟩:∃ x,t.l[k]=x:=⟨_,rfl⟩;rw[hxk] at e0 e1 e2 e3 hx hst hn hmx;have hbA:=hbel.alloc hbel.size (Obj.cells #[.int .u8 x.k,.int .i64 x.n,.int .i64 x.v,.int .u8 x.c,.slice Ax mx cx] 63);have hbB:=below_box (w:=wr) (Obj.cells #[.int .u8 x.k,.int .i64 x.n,.int .i64 x.v,.int .u8 x.c,.slice Ax mx cx] 63);have hq:=Ih.out x hn hmx Ax mx cx _ (((hx.more hbel.size).below hbB).more hbB.size) ((HR.out.below hbA).more hbA.size);obtain⟨r,hr⟩:∃ r,grownW sz x=r:=⟨_,rfl⟩;obtain⟨s,hs⟩:∃ s,grownLW sz (t.l.take k)=s:=⟨_,rfl⟩;rw[hr] at hq hst;rw[hs] at hst ⊢;have Hq:=qq hq;have Hst:=qq hst;have HbA:=qq hbA
           have k1:(0:Int)≤(k:Int):=by omega
           have k2:(k:Int)<m:=by omega
           clear hc hx hxk hq hst hbA hbB hr hs hn hmx hbel;go_wp2_with fail
           refine Hq.out.mono ?_; rintro e w3 ⟨rfl,hb3⟩
           have Hb3:=qq (HbA.out.trans (hb3.mono HbA.out.size));clear hb3 Hq;go_wp2_with fail;go_roundg (m - (k+1))
           case measure=>omega
           case rel=>exact⟨k+1,by omega,rfl,by go_num,by rw[Hst.out],Hb3.out⟩
         · have d0:decide (k<m)=false:=by simpa using hkm
           have HF:Hid (grownLW sz (t.l.take k)=grownW sz t):=qq (by rw[List.take_of_length_le (by omega),Hgd.out]);have Hb:=qq (Hbx.out.trans (hbel.mono Hbx.out.size));clear hbel;go_wp2_with fail;go_ret;exact⟨ret_int HF.out,Hb.out⟩
      · have d1:(t.k==1)=false:=by simp[hk]
        clear hk hvar
        go_enter Tryd.func89,Tryd.ntmps89
        go_wp2_with fail;rw[HW.out];go_wp2_with fail;clear z0 z1 z4
        go_loopg [5,26] m (fun gh s i wr=>∃ k:Nat,k≤m∧gh=m - k∧i=.int .i64 k∧s=.int .i64 (grownLW sz (t.l.take k))∧Below W.heap.size W wr)
        case atStart=>exact⟨0,Nat.zero_le _,rfl,rfl,by rw[List.take_zero,grownLW_nil],Below.refl _ _⟩
        case round=>
         obtain⟨k,hk,rfl,rfl,rfl,hbel⟩:=hrel
         by_cases hkm:k<m
         · have d0:decide (k<m)=true:=by simpa using hkm
           have hk':k<t.l.length:=by omega
           obtain⟨b,off,rfl,hb,hc⟩:=(HL.out.below hbel).at_ (by omega);obtain⟨e0,e1,e2,e3,Ax,mx,cx,e4,hx⟩:=tyAt_iff.1 (hc k hk');have hst:=grownLW_snoc sz (t.l.take k) t.l[k];rw[← List.take_succ_eq_append_getElem hk'] at hst;have hn:=HN.out k hk';have hmx:=mayT_kid HM.out hk';obtain⟨x,hxk⟩:∃ x,t.l[k]=x:=⟨_,rfl⟩;rw[hxk] at e0 e1 e2 e3 hx hst hn hmx;have hbA:=hbel.alloc hbel.size (Obj.cells #[.int .u8 x.k,.int .i64 x.n,.int .i64 x.v,.int .u8 x.c,.slice Ax mx cx] 63);have hbB:=below_box (w:=wr) (Obj.cells #[.int .u8 x.k,.int .i64 x.n,.int .i64 x.v,.int .u8 x.c,.slice Ax mx cx] 63);have hq:=Ih.out x hn hmx Ax mx cx _ (((hx.more hbel.size).below hbB).more hbB.size) ((HR.out.below hbA).more hbA.size);obtain⟨r,hr⟩:∃ r,grownW sz x=r:=⟨_,rfl⟩;obtain⟨s,hs⟩:∃ s,grownLW sz (t.l.take k)=s:=⟨_,rfl⟩;rw[hr] at hq hst;rw[hs] at hst ⊢;have Hq:=qq hq;have Hst:=qq hst;have HbA:=qq hbA
           have k1:(0:Int)≤(k:Int):=by omega
           have k2:(k:Int)<m:=by omega
           clear hc hx hxk hq hst hbA hbB hr hs hn hmx hbel;go_wp2_with fail
           refine Hq.out.mono ?_; rintro e w3 ⟨rfl,hb3⟩
           have Hb3:=qq (HbA.out.trans (hb3.mono HbA.out.size));clear hb3 Hq;go_wp2_with fail;go_roundg (m - (k+1))
           case measure=>omega
           case rel=>exact⟨k+1,by omega,rfl,by go_num,by rw[Hst.out],Hb3.out⟩
         · have d0:decide (k<m)=false:=by simpa using hkm
           have HF:Hid (grownLW sz (t.l.take k)=grownW sz t):=qq (by rw[List.take_of_length_le (by omega),Hgd.out]);have Hb:=qq (Hbx.out.trans (hbel.mono Hbx.out.size));clear hbel;go_wp2_with fail;go_ret;exact⟨ret_int HF.out,Hb.out⟩
     exact hgo
def TurnI (ts us:List TyD) (B base:Nat) (v:Value) (m:Nat) (k:Nat) (w:World):Prop:=
 ts.length=m∧us.length=m∧∃ cs,w.ownsRow base 63 5 v m cs∧∀ i (h:i<ts.length) (h2:i<us.length),C5 w (fun b=>if i<k then base≤b∧b<w.heap.size∧some b≠v.ownBlock else b<B) cs i (if i<k then us[i] else ts[i])
theorem TurnI.step {ts us:List TyD} {B base g m c k:Nat} {w w3:World} (h:TurnI ts us B base (.slice (some ⟨g,0,none⟩) m c) m k w) (hk:k<us.length) (u:TyD) (hu:us[k]=u) (hb:Below w.heap.size w w3) (hB:B≤base) (hbase:base≤w.heap.size)
  {A:Option Addr} {n d:Nat} (hx:TysS w3 (fun b=>w.heap.size≤b∧b<w3.heap.size) A n d u.l):
  TurnI ts us B base (.slice (some ⟨g,0,none⟩) m c) m (k+1) (w3.setCells g (k * 5) [.int .u8 u.k,.int .i64 u.n,.int .i64 u.v,.int .u8 u.c,.slice A n d]) ∧
   w3.grownBy (w3.setCells g (k * 5) [.int .u8 u.k,.int .i64 u.n,.int .i64 u.v,.int .u8 u.c,.slice A n d]) (some g)∧base≤g∧g<w.heap.size:=by
 obtain⟨hl,hl2,cs,hown,hc⟩:=h;have hg:=hown.lt g rfl;have hown3:=ownsRow_beyond hown hb;have hcl:cs.length=m * 5:=hown.1
 obtain⟨⟨cs',h1,h2,h3⟩,h4⟩:=ownTy_setCells [.int .u8 u.k,.int .i64 u.n,.int .i64 u.v,.int .u8 u.c,.slice A n d] cs (k * 5) w3 hown3 (by rw[hcl]; simp; omega)
 simp only[List.length_cons,List.length_nil] at h2 h3;have hs3:=hb.size;have hs4:=h4.size
 have hcell:∀ p:Addr,p.block≠g→p.block<w3.heap.size→(w3.setCells g (k * 5) [.int .u8 u.k,.int .i64 u.n,.int .i64 u.v,.int .u8 u.c,.slice A n d]).cell? p=w3.cell? p:=fun p hp hlt=>
  World.cell?_of_block (h4.block p.block hlt (by intro e; injection e with e; exact hp e))
 refine⟨⟨hl,hl2,cs',h1,fun i hi hi2=>?_⟩,h4,hg.1,hg.2⟩
 rcases Nat.lt_trichotomy i k with hik | hik | hik
 · have h5:=hc i hi hi2
   simp only[if_pos hik] at h5
   rw[if_pos (show i<k+1 by omega)]
   have h6:=(h5.congr fun x h7 h8=>h3 x (.inl (by omega)));refine h6.keep (fun b hb'=>?_) fun p hp=>?_
   · rw[if_pos (show i<k+1 by omega)]; exact⟨hb'.1,by omega,hb'.2.2⟩
   · rw[hcell p (fun e=>hp.2.2 (by rw[e]; rfl)) (by omega)]
     exact hb.cell hp.2.1
 · subst hik
   rw[if_pos (show i<i+1 by omega),hu]
   refine⟨A,n,d,?_,?_,?_,?_,?_,?_⟩
   · rw[h2 _ (by omega) (by omega),Nat.sub_self]; rfl
   · rw[h2 _ (by omega) (by omega),show i * 5+1 - i * 5=1 from by omega]; rfl
   · rw[h2 _ (by omega) (by omega),show i * 5+2 - i * 5=2 from by omega]; rfl
   · rw[h2 _ (by omega) (by omega),show i * 5+3 - i * 5=3 from by omega]; rfl
   · rw[h2 _ (by omega) (by omega),show i * 5+4 - i * 5=4 from by omega]; rfl
   · refine hx.keep (fun b hb'=>?_) fun p hp=>?_
     · rw[if_pos (show i<i+1 by omega)]
       refine⟨by omega,by omega,fun e=>?_⟩
       have e':b=g:=by injection e
       omega
     · exact hcell p (fun e=>by have:=hp.1; omega) hp.2
 · have h5:=hc i hi hi2
   simp only[if_neg (show ¬ i<k by omega)] at h5
   rw[if_neg (show ¬ i<k+1 by omega)]
   have h6:=(h5.congr fun x h7 h8=>h3 x (.inr (by omega)));refine h6.keep (fun b hb'=>?_) fun p hp=>?_
   · rw[if_neg (show ¬ i<k+1 by omega)]; exact hb'
   · rw[hcell p (fun e=>by omega) (by omega)]
     exact hb.cell (by omega)
theorem TurnI.done {ts us:List TyD} {B base m c:Nat} {A:Option Addr} {w:World} (h:TurnI ts us B base (.slice A m c) m m w):TysS w (fun b=>base≤b∧b<w.heap.size) A m c us:=by
 obtain⟨hl,hl2,cs,hown,hc⟩:=h
 rcases hown.2 with ⟨e0,hn⟩ | ⟨g,cap,cur,e0,hb,hg,hn,hm,hs,ht⟩
 · injection e0 with e1 e2 e3
   subst e1; subst e2; subst e3
   exact⟨hl2,Nat.le_refl _,Nat.zero_le _,fun h=>absurd h (by omega)⟩
 · injection e0 with e1 e2 e3
   subst e1; subst e3
   refine⟨hl2,hn,hm,fun _=>⟨g,0,rfl,⟨hb,(Array.getElem?_eq_some_iff.1 hg).1⟩,RowIn.of fun i hi=>?_⟩⟩;have h5:=hc i (by omega) hi
   simp only[if_pos (show i<m by omega)] at h5
   have h6:C5 w (fun b=>base≤b∧b<w.heap.size) cs i us[i]:=h5.keep (fun b hb=>⟨hb.1,hb.2.1⟩) fun _ _=>rfl;exact h6.cells hown (by omega)
theorem TurnI.slot {ts us:List TyD} {B base m c k:Nat} {A:Option Addr} {w:World} (h:TurnI ts us B base (.slice A m c) m k w) (hk:k<ts.length):∃ g,A=some ⟨g,0,none⟩∧base≤g∧g<w.heap.size ∧
  ∃ A' n' c',w.cell? ⟨g,k * 5,none⟩=some (.int .u8 ts[k].k)∧w.cell? ⟨g,k * 5+1,none⟩=some (.int .i64 ts[k].n)∧w.cell? ⟨g,k * 5+2,none⟩=some (.int .i64 ts[k].v)∧w.cell? ⟨g,k * 5+3,none⟩=some (.int .u8 ts[k].c)∧w.cell? ⟨g,k * 5+4,none⟩=some (.slice A' n' c') ∧
   TysV w B A' n' c' ts[k].l∧∀ j,w.frozen? ⟨g,j,none⟩=false:=by
 obtain⟨hl,hl2,cs,hown,hc⟩:=h
 rcases hown.2 with ⟨e0,hn⟩ | ⟨g,cap,cur,e0,hb,hg,hn,hm,hs,ht⟩
 · injection e0 with e1 e2 e3
   omega
 · injection e0 with e1 e2 e3
   subst e1; subst e3
   have h5:=hc k hk (by omega)
   simp only[if_neg (show ¬ k<k by omega)] at h5
   have h6:=h5.cells hown (by omega);rw[Nat.zero_add] at h6;obtain⟨q0,q1,q2,q3,A',n',c',q4,hr⟩:=tyIn_iff.1 h6;exact⟨g,rfl,hb,(Array.getElem?_eq_some_iff.1 hg).1,A',n',c',q0,q1,q2,q3,q4,tysS_lt.1 hr,fun j=>hown.frozenAt j⟩
theorem TurnI.start {ts us:List TyD} {m c:Nat} {A:Option Addr} {W w1:World} (h:OwnTy w1 W.heap.size (.slice A m c) m ts (fun _ b=>b<W.heap.size)) (hu:us.length=ts.length):TurnI ts us W.heap.size W.heap.size (.slice A m c) m 0 w1:=by
 obtain⟨h1,cs,h2,h3⟩:=h
 refine⟨h1,by omega,cs,h2,fun i hi _=>?_⟩
 rw[if_neg (show ¬ i<0 by omega)]
 exact(h3 i hi).keep (fun b hb=>by rw[if_neg (show ¬ i<0 by omega)]; exact hb) fun _ _=>rfl
def turnT (fv:Int→Option TyD) (fm:Int→Int × Int):TyD→TyD
 | .mk k n v c l=>if k=1 then (fv n).getD (.mk k n v c l) else .mk k n (if k=7∧c=0 then (fm v).1 else v) (if k=7∧c=0 then (fm v).2 else c) (turnL fv fm l)
where turnL (fv:Int→Option TyD) (fm:Int→Int × Int):List TyD→List TyD
 | []=>[]
 | t :: r=>turnT fv fm t :: turnL fv fm r
theorem turnL_map (fv:Int→Option TyD) (fm:Int→Int × Int) (l:List TyD):turnT.turnL fv fm l=l.map (turnT fv fm):=by
 induction l with
 | nil=>rfl
 | cons t r ih=>rw[turnT.turnL,ih]; rfl
theorem turnT_eq (fv:Int→Option TyD) (fm:Int→Int × Int) (t:TyD):turnT fv fm t=if t.k=1 then (fv t.n).getD t else .mk t.k t.n (if t.k=7∧t.c=0 then (fm t.v).1 else t.v) (if t.k=7∧t.c=0 then (fm t.v).2 else t.c) (t.l.map (turnT fv fm)):=by
 cases t
 rw[turnT,turnL_map];rfl
end Go.Proofs.YtgpeijkjmkocgaaDoor
