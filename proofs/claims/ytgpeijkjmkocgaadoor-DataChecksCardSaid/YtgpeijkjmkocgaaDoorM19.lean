import Derived.Test.YtgpeijkjmkocgaaDoorM16
import Derived.Test.YtgpeijkjmkocgaaDoorM14
import Derived.Test.YtgpeijkjmkocgaaDoorM13
set_option linter.unusedVariables false
set_option linter.unusedSimpArgs false
set_option maxHeartbeats 4000000
set_option maxRecDepth 100000
namespace Go.Proofs.YtgpeijkjmkocgaaDoor
open Go.RowKit
def dlCells (x:DeclD) (Ap:Option Addr) (np cp:Nat) (Ac:Option Addr) (nc cc:Nat):Array Value:=#[.int .u8 x.k,.string x.name,.int .i64 x.p.at_,.int .i64 x.p.line,.int .i64 x.p.col,.slice Ap np cp,.slice Ac nc cc,.bool x.rec_,x.e0,x.e1,x.e2,x.e3,x.e4,x.e5,x.e6,x.e7]
structure HdS (w:World) (g:Nat) (x:DeclD) (Ap:Option Addr) (np cp:Nat) (Ac:Option Addr) (nc cc:Nat) (vd vc:Value) (d:DiagD) (wx:World):Prop where
 bk:Blk wx g 91 (mkC vd vc d)
 bb:Blk wx w.heap.size 40 (dlCells x Ap np cp Ac nc cc)
 bu:But g w wx
 gw:g<w.heap.size
section
variable {w wx wy:World} {g:Nat} {x:DeclD} {Ap:Option Addr} {np cp:Nat} {Ac:Option Addr} {nc cc:Nat} {vd vc:Value} {d d':DiagD}
theorem HdS.below (h:HdS w g x Ap np cp Ac nc cc vd vc d wx) (hb:Below wx.heap.size wx wy):HdS w g x Ap np cp Ac nc cc vd vc d wy:=⟨h.bk.below hb h.bk.lt,h.bb.below hb h.bb.lt,h.bu.then hb,h.gw⟩
theorem HdS.diag (h:HdS w g x Ap np cp Ac nc cc vd vc d wx) (hk:Blk wy g 91 (mkC vd vc d')) (hb:But g wx wy):HdS w g x Ap np cp Ac nc cc vd vc d' wy:=
 ⟨hk,h.bb.but hb (by have:=h.gw; omega),h.bu.trans hb,h.gw⟩
theorem HdS.c (h:HdS w g x Ap np cp Ac nc cc vd vc d wx):wx.cell? ⟨w.heap.size,0,none⟩=some (.int .u8 x.k)∧wx.cell? ⟨w.heap.size,1,none⟩=some (.string x.name)∧wx.cell? ⟨w.heap.size,2,none⟩=some (.int .i64 x.p.at_)∧wx.cell? ⟨w.heap.size,3,none⟩=some (.int .i64 x.p.line)∧wx.cell? ⟨w.heap.size,4,none⟩=some (.int .i64 x.p.col)∧wx.cell? ⟨w.heap.size,5,none⟩=some (.slice Ap np cp)∧wx.cell? ⟨w.heap.size,6,none⟩=some (.slice Ac nc cc)∧wx.cell? ⟨g,0,none⟩=some vd∧wx.cell? ⟨g,1,none⟩=some vc∧wx.cell? ⟨g,2,none⟩=some (.int .i64 d.e):=
 ⟨h.bb.cell 0,h.bb.cell 1,h.bb.cell 2,h.bb.cell 3,h.bb.cell 4,h.bb.cell 5,h.bb.cell 6,h.bk.cell 0,h.bk.cell 1,h.bk.cell 2⟩
theorem HdS.start (w:World) (h:Blk w g 91 (mkC vd vc d)):HdS w g x Ap np cp Ac nc cc vd vc d (w.alloc (Obj.cells (dlCells x Ap np cp Ac nc cc) 40)):=by
 have hb:=below_box (w:=w) (Obj.cells (dlCells x Ap np cp Ac nc cc) 40);exact⟨h.below hb h.lt,blk_new _ _ _,But.of hb,h.lt⟩
theorem SigM.rowB {base:Nat} {R:Nat→Prop} {s:SigD} {vs:List Value} (h:SigM w base R s vd vc vs) {b:Nat} (hb:RowB vd vc vs b):base≤b∧b<w.heap.size:=by
 rcases hb with e | e | ⟨v,hv,e⟩
 · exact own_lt h.od e
 · exact h.oc.lt' e
 · exact h.rowLt hv e
theorem SigM.but {base:Nat} {R:Nat→Prop} {s:SigD} {vs:List Value} (h:SigM w base R s vd vc vs) (hb:But g w wx) (hg:¬ RowB vd vc vs g) (hR:R g):SigM wx base R s vd vc vs:=by
 have hrow:∀ {t:TypeId} {size:Nat} {v:Value} {m:Nat} {us:List Value},w.ownsRow base t size v m us→(∀ b,v.ownBlock=some b→RowB vd vc vs b)→wx.ownsRow base t size v m us:=fun h1 h2=>own_block h1 fun b e=>hb.block b (own_lt h1 e).2 fun e2=>hg (e2 ▸ h2 b e);refine⟨h.len,hrow h.od fun b e=>Or.inl e,fun j hj hj'=>hrow (h.oi j hj hj') fun b e=>Or.inr (Or.inr ⟨_,List.getElem_mem hj,e⟩),?_,h.sdc,h.sd,h.sc,h.sep⟩;obtain⟨h0,cs,h1,h2⟩:=h.oc;exact⟨h0,cs,hrow h1 fun b e=>Or.inr (Or.inl e),h2.keep (fun b hb'=>⟨Nat.lt_of_lt_of_le hb'.1 hb.size,hb'.2.1,hb'.2.2⟩) fun p hp=>hb.cell hp.1 fun e=>hp.2.2 (Or.inl (e ▸ hR))⟩
end
theorem own_sl {X:Type} {enc:X→List Cel} {k:Nat} {xs:List X} {w:World} {base:Nat} {t:TypeId} {A:Option Addr} {n c:Nat} {us:List Value} {S:Nat→Prop} (h:w.ownsRow base t k (.slice A n c) n us) (hv:CelsV w S (xs.flatMap enc) us) (hS:∀ b,(Value.slice A n c).ownBlock=some b→S b) (hl:xs.length=n):Sl w S enc k xs A n c:=by
 refine⟨hl,?_⟩
 rcases h.2 with ⟨e0,hn⟩ | ⟨g,cap,cur,e0,hg,hblk,hn,hm,hs,ht⟩
 · injection e0 with e1 e2 e3
   exact⟨by omega,by unfold maxLen; omega,fun h=>absurd h (by omega)⟩
 · injection e0 with e1 e2 e3
   subst e1; subst e3
   refine⟨hn,hm,fun _=>⟨g,0,rfl,hS g rfl,hv.in_ fun j u hu=>?_⟩⟩;have:=h.cells (g:=g) rfl j u hu
   rwa [show(Addr.add ⟨g,0,none⟩ j)=⟨g,0+j,none⟩ from by unfold Addr.add; split <;> simp_all] at this
theorem celsI {w:World} {S:Nat→Prop}:∀ (l:List Int),CelsV w S (l.flatMap encI) (l.map (Value.int .i64))
 | []=>trivial
 | x :: l=>⟨celIn_v.2 rfl,celsI l⟩
theorem dCells_cels {w:World} {S:Nat→Prop}:∀ {ds:List DataD} {vs:List Value},vs.length=ds.length→(∀ j (h:j<vs.length) (h':j<ds.length),∃ A m c,vs[j]=.slice A m c∧Sl w S encI 1 ds[j].cons A m c)→CelsV w S (ds.flatMap encDt) (dCells ds vs)
 | [],[],_,_=>trivial
 | d :: ds,v :: vs,hl,h=>by
   refine⟨celIn_v.2 rfl,celIn_v.2 rfl,?_,dCells_cels (by simpa using hl) fun j hj hj'=>h (j+1) (by simpa using hj) (by simpa using hj')⟩;exact(sl_iff (k:=1) (enc:=encI) (fun _=>rfl) (by omega)).2 (h 0 (by simp) (by simp))
 | [],_ :: _,hl,_=>by simp at hl
 | _ :: _,[],hl,_=>by simp at hl
theorem SigM.dsl {w:World} {base:Nat} {R:Nat→Prop} {s:SigD} {A:Option Addr} {n c:Nat} {vc:Value} {vs:List Value} (h:SigM w base R s (.slice A n c) vc vs) {S:Nat→Prop} (hS:∀ b,RowB (.slice A n c) vc vs b→S b):Sl w S encDt 3 s.datas A s.datas.length c:=by
 have hod:=h.od;obtain⟨A',c',e⟩:=ownsRow_form hod
 injection e with e1 e2 e3
 subst e1; subst e2; subst e3
 refine own_sl hod (dCells_cels h.len fun j hj hj'=>?_) (fun b e=>hS b (Or.inl e)) rfl;have hoi:=h.oi j hj hj';obtain⟨Aj,cj,ej⟩:=ownsRow_form hoi;refine⟨Aj,_,cj,ej,?_⟩;have hS':∀ b,vs[j].ownBlock=some b→S b:=fun b e=>hS b (Or.inr (Or.inr ⟨_,List.getElem_mem hj,e⟩));rw[ej] at hoi hS';exact own_sl hoi (celsI _) hS' rfl
theorem SigM.csl {w:World} {base:Nat} {R:Nat→Prop} {s:SigD} {A:Option Addr} {n c:Nat} {vd:Value} {vs:List Value} (h:SigM w base R s vd (.slice A n c) vs) {S:Nat→Prop} (hS:∀ b,b<w.heap.size→(RowB vd (.slice A n c) vs b∨¬ R b)→S b):Sl w S encCn 4 s.cons A s.cons.length c:=by
 obtain⟨h0,cs,h1,h2⟩:=h.oc;obtain⟨A',c',e⟩:=ownsRow_form h1
 injection e with e1 e2 e3
 subst e1; subst e2; subst e3
 exact own_sl h1 (h2.keep (fun b hb=>hS b hb.1 (Or.inr fun q=>hb.2.2 (Or.inl q))) fun _ _=>rfl) (fun b e=>hS b (own_lt h1 e).2 (Or.inl (Or.inr (Or.inl e)))) rfl
theorem ButS.pre {g:Nat} {rows:Nat→Prop} {w w1 w2:World} (h:ButS g rows w1 w2) (h0:But g w w1):ButS g rows w w2:=
 ⟨h.os.trans h0.os,h.tape.trans h0.tape,h.output.trans h0.output,Nat.le_trans h0.size h.size,fun k hk h1 h2=>(h.block k (Nat.lt_of_lt_of_le hk h0.size) h1 h2).trans (h0.block k hk h1)⟩
theorem failD_or (d:DiagD) (a b:Bool) (x:Int) (p:PosD) (hx:x≠0):failD (failD d a x p) b x p=failD d (a || b) x p:=by
 unfold failD
 by_cases h:d.e=0 <;> cases a <;> cases b <;> simp[h,hx]
theorem failD_no (d:DiagD) (x:Int) (p:PosD):failD d false x p=d:=by simp[failD]
theorem head_law (s:SigD) (x:DeclD) (d:DiagD) (b1 b2 b3 b4 b5:Bool) (h0:d.e=0) (h1:b1=true↔x.k≠1) (h2:b2=true↔40≤s.datas.length) (h3:b3=true↔0≤(baseK x.name).2∨0≤idxD s.datas x.name) (h4:b4=true↔4<x.params.length) (h5:b5=twiceP x.params):
  failD (failD (failD (failD (failD d b1 2 x.p) b2 3 x.p) b3 130 x.p) b4 3 x.p) b5 130 x.p=d.then_ (headE s x):=by
 unfold DiagD.then_ headE;rw[if_neg (by omega)];subst h5
 by_cases q1:x.k≠1
 · rw[if_pos q1,h1.2 q1]; simp[failD,h0]
 · rw[if_neg q1,show b1=false from by simpa using mt h1.1 q1]
   by_cases q2:40≤s.datas.length
   · rw[if_pos q2,h2.2 q2]; simp[failD,h0]
   · rw[if_neg q2,show b2=false from by simpa using mt h2.1 q2]
     by_cases q3:0≤(baseK x.name).2∨0≤idxD s.datas x.name
     · rw[if_pos q3,h3.2 q3]; simp[failD,h0]
     · rw[if_neg q3,show b3=false from by simpa using mt h3.1 q3]
       by_cases q4:4<x.params.length
       · rw[if_pos q4,h4.2 q4]; simp[failD,h0]
       · rw[if_neg q4,show b4=false from by simpa using mt h4.1 q4]
         cases q5:twiceP x.params <;> simp[failD,h0]
def twiceN (ps:List ByteArray) (n:Nat):Bool:=(List.range n).any fun i=>(ps.take i).any fun x=>decide (x=ps.getD i ⟨#[]⟩)
theorem twiceN_succ (ps:List ByteArray) (n:Nat) (h:n<ps.length):twiceN ps (n+1)=(twiceN ps n || (ps.take n).any fun x=>decide (x=ps[n])):=by
 unfold twiceN;rw[List.range_succ,List.any_append];simp[List.getD_eq_getElem?_getD,h]
theorem head_any (g base:Nat) (R:Nat→Prop) (s:SigD) (vd vc:Value) (vs:List Value) (d:DiagD) (x:DeclD) (Ap:Option Addr) (np cp:Nat) (Ac:Option Addr) (nc cc:Nat) (w:World) (hk:Blk w g 91 (mkC vd vc d)) (hm:SigM w base R s vd vc vs) (hg:¬ RowB vd vc vs g) (hR:R g) (hn:s.datas.length≤1000000) (hb:base≤w.heap.size)
  (hp:Sl w (Off g w) encS 1 x.params Ap np cp) (h0:d.e=0):
  Calls Tryd.prog 39 #[.pointer (some ⟨g,0,none⟩),.agg (dlCells x Ap np cp Ac nc cc)] w fun e w'=>e=.returned (.tuple #[])∧∃ vd',Blk w' g 91 (mkC vd' vc (d.then_ (headE s x)))∧SigM w' base R ⟨s.datas++[⟨x.name,x.params.length,[]⟩],s.cons⟩ vd' vc (vs++[.slice none 0 0])∧ButS g (RowB vd vc vs) w w'∧∀ b,RowB vd' vc (vs++[.slice none 0 0]) b→RowB vd vc vs b∨w.heap.size≤b:=by
 have hmn:=@run_min2 Tryd.prog;obtain⟨Ad,cd,rfl⟩:=ownsRow_form hm.od;obtain⟨Ac',cc',rfl⟩:=hm.oc.form;have hst:=HdS.start (x:=x) (Ap:=Ap) (np:=np) (cp:=cp) (Ac:=Ac) (nc:=nc) (cc:=cc) w hk;have hbx:=below_box (w:=w) (Obj.cells (dlCells x Ap np cp Ac nc cc) 40);obtain⟨W,hW⟩:∃ q,w.alloc (Obj.cells (dlCells x Ap np cp Ac nc cc) 40)=q:=⟨_,rfl⟩;rw[hW] at hst hbx;unfold dlCells at hW;have hlen:=hp.len;have m63:np≤9223372036854775807:=hp.cap
 have d63:s.datas.length≤9223372036854775807:=by omega
 obtain⟨nd,hnd⟩:∃ q,s.datas.length=q:=⟨_,rfl⟩;obtain⟨b1,hb1⟩:∃ q,(x.k != 1)=q:=⟨_,rfl⟩;obtain⟨b2,hb2⟩:∃ q,decide ((nd:Int)≥40)=q:=⟨_,rfl⟩;obtain⟨b4,hb4⟩:∃ q,decide ((np:Int)>4)=q:=⟨_,rfl⟩;rw[hnd] at hst hm d63 hg ⊢;have HW:=qq hW;have HB:=qq hst;have HP:=qq hp;have HN:=qq hnd;have HM:=qq hm;clear hst hbx hW hk hm hp hnd;unfold dlCells
 go_enter Tryd.func39,Tryd.ntmps39
 go_upto_region 1 with fail;rw[HW.out];obtain⟨c0,c1,c2,c3,c4,c5,c6,m0,m1,m2⟩:=(HB.out).c;go_wp2_with fail;clear c0 c1 c2 c3 c4 c5 c6 m0 m1 m2;refine(fail_any g _ _ _ b1 2 x.p W HB.out.bk).mono ?_;rintro e w1 ⟨rfl,hk9,hu9⟩;have hn9:=HB.out.diag hk9 hu9;have H1:=qq hn9;clear hk9 hu9 hn9;go_upto_region 2 with fail;obtain⟨c0,c1,c2,c3,c4,c5,c6,m0,m1,m2⟩:=(H1.out).c;refine wp_region_noPanic ?_;refine wp_region_T (fun w'=>w'.cell? ⟨g,0,none⟩=some (.slice Ad nd cd)∧w'.cell? ⟨w.heap.size,2,none⟩=some (.int .i64 x.p.at_)∧w'.cell? ⟨w.heap.size,3,none⟩=some (.int .i64 x.p.line)∧w'.cell? ⟨w.heap.size,4,none⟩=some (.int .i64 x.p.col)) 10 (by kernel_rfl) ⟨m0,c2,c3,c4⟩ (fun hHeld=>?_);clear c0 c1 c2 c3 c4 c5 c6 m0 m1 m2;have H1d:=qq (H1.out.below (Below.drew (Below.refl _ _)));generalize w1.drew=w1d at hHeld H1d ⊢;refine nx0 0 ?_
 iterate 10 (refine nxD (v:=?_) rfl (by kernel_rfl) (fun _ _ _ h=>h) (by kernel_rfl) ?_ (by assumption) ?_; rotate_left; (focus (intro w hSw; (try dsimp only at hSw); first | (go_simp; done) | (go_simp; with_reducible rfl))); try simp only[Act.put,qg,qe,qf,qd,qh,qi,Nat.reduceAdd])
 refine nx9 ?_;refine wpAnyT_seq 10 (by omega) (by rfl) (by kernel_rfl) ?_;simp only[List.drop_succ_cons,List.drop_zero];clear hHeld;go_wp2_with fail;refine(fail_any g _ _ _ b2 3 x.p w1d H1d.out.bk).mono ?_;rintro e w2 ⟨rfl,hk9,hu9⟩;have hn9:=H1d.out.diag hk9 hu9;have H2:=qq hn9;clear hk9 hu9 hn9;go_wp2_with fail;refine NoPanic.normal ?_;obtain⟨c0,c1,c2,c3,c4,c5,c6,m0,m1,m2⟩:=(H2.out).c;go_wp2_with fail;refine(base_any x.name w2).mono ?_;rintro e w3 ⟨rfl,rfl⟩;obtain⟨bn,hbn⟩:∃ q,(baseK x.name).2=q:=⟨_,rfl⟩;rw[hbn];have Hbn:=qq hbn;clear hbn;go_upto_region 4 with fail
 go_cut [] (fun wx=>∃ b3,(b3=true↔0≤bn∨0≤idxD s.datas x.name)∧HdS w g x Ap np cp Ac nc cc (.slice Ad nd cd) (.slice Ac' s.cons.length cc') (failD (failD (failD d b1 2 x.p) b2 3 x.p) b3 130 x.p) wx)
 case first=>
  clear c0 c1 c2 c3 c4 c5 c6 m0 m1 m2;obtain⟨c0,c1,c2,c3,c4,c5,c6,m0,m1,m2⟩:=(H2.out).c;refine wp_region_noPanic ?_;refine wp_region_T (fun w'=>w'.cell? ⟨w.heap.size,1,none⟩=some (.string x.name)∧w'.cell? ⟨w.heap.size,2,none⟩=some (.int .i64 x.p.at_)∧w'.cell? ⟨w.heap.size,3,none⟩=some (.int .i64 x.p.line)∧w'.cell? ⟨w.heap.size,4,none⟩=some (.int .i64 x.p.col)) 12 (by kernel_rfl) ⟨c1,c2,c3,c4⟩ (fun hHeld=>?_);clear c0 c1 c2 c3 c4 c5 c6 m0 m1 m2;have H2d:=qq (H2.out.below (Below.drew (Below.refl _ _)));generalize w3.drew=w4 at hHeld H2d ⊢
  by_cases hb0:bn≥0
  · have e0:decide (bn≥0)=true:=by simpa using hb0
    have e1:decide (0≤bn)=true:=by simpa using hb0
    have Hb0:=qq hb0;clear hb0;refine nx0 0 ?_
    iterate 4 (refine nxD (v:=?_) rfl (by kernel_rfl) (fun _ _ _ h=>h) (by kernel_rfl) ?_ (by assumption) ?_; rotate_left; (focus (intro w hSw; (try dsimp only at hSw); first | (go_simp; done) | (go_simp; with_reducible rfl))); try simp only[Act.put,qg,qe,qf,qd,qh,qi,Nat.reduceAdd])
    refine nx9 ?_;refine nx0 4 ?_
    iterate 5 (refine nxkD rfl (by kernel_rfl) (fun _ _ _ h=>h) (by kernel_rfl) (by assumption) ?_; try simp only[Act.put,qg,qe,qf,qd,qh,qi,Nat.reduceAdd])
    refine nx9 ?_;refine nx0 9 ?_
    iterate 3 (refine nxD (v:=?_) rfl (by kernel_rfl) (fun _ _ _ h=>h) (by kernel_rfl) ?_ (by assumption) ?_; rotate_left; (focus (intro w hSw; (try dsimp only at hSw); first | (go_simp; done) | (go_simp; with_reducible rfl))); try simp only[Act.put,qg,qe,qf,qd,qh,qi,Nat.reduceAdd])
    refine nx9 ?_;refine wpAnyT_seq 12 (by omega) (by rfl) (by kernel_rfl) ?_;simp only[List.drop_succ_cons,List.drop_zero];clear hHeld;go_wp2_with fail;refine(fail_any g _ _ _ true 130 x.p w4 H2d.out.bk).mono ?_;rintro e w5 ⟨rfl,hk9,hu9⟩;have hn9:=H2d.out.diag hk9 hu9;have H3:=qq hn9;clear hk9 hu9 hn9;go_wp2_with fail;refine NoPanic.normal ?_;go_wp2_with fail;go_meet;exact⟨true,⟨fun _=>Or.inl Hb0.out,fun _=>rfl⟩,H3.out⟩
  · have e0:decide (bn≥0)=false:=by simpa using hb0
    have e1:decide (0≤bn)=false:=by simpa using hb0
    obtain⟨q,hq⟩:∃ q,idxD s.datas x.name=q:=⟨_,rfl⟩;have Hq:=qq hq;obtain⟨b3,hb3⟩:∃ b,decide (q≥0)=b:=⟨_,rfl⟩;have Hb3:=qq hb3;have Hb0:=qq hb0;clear hb0 hq;refine nx0 0 ?_
    iterate 7 (refine nxD (v:=?_) rfl (by kernel_rfl) (fun _ _ _ h=>h) (by kernel_rfl) ?_ (by assumption) ?_; rotate_left; (focus (intro w hSw; (try dsimp only at hSw); first | (go_simp; done) | (go_simp; with_reducible rfl))); try simp only[Act.put,qg,qe,qf,qd,qh,qi,Nat.reduceAdd])
    refine nx9 ?_;refine nx0 10 ?_
    iterate 2 (refine nxD (v:=?_) rfl (by kernel_rfl) (fun _ _ _ h=>h) (by kernel_rfl) ?_ (by assumption) ?_; rotate_left; (focus (intro w hSw; (try dsimp only at hSw); first | (go_simp; done) | (go_simp; with_reducible rfl))); try simp only[Act.put,qg,qe,qf,qd,qh,qi,Nat.reduceAdd])
    refine nx9 ?_;refine wpAnyT_step (i:=7) (by kernel_rfl) rfl (fun K hK=>?_)
    (go_simp; refine(find_any g Ad nd cd _ _ s.datas x.name w4 (Off g w4) (fun b h=>h.1) (by rw[← HN.out]; exact((HM.out.but H2d.out.bu hg hR).dsl fun b h=>⟨((HM.out.but H2d.out.bu hg hR).rowB h).2,fun e=>hg (e ▸ h)⟩)) H2d.out.bk).mono ?_; rintro e w5 ⟨rfl,hq5⟩; have H5:=qq (H2d.out.below hq5); rw[Hq.out]; obtain⟨c0,c1,c2,c3,c4,_⟩:=H5.out.c; replace hHeld:=And.intro c1 (And.intro c2 (And.intro c3 c4)); clear hq5 c0 c1 c2 c3 c4)
    refine hK.out _ _ hHeld ?_;clear hK K
    try simp only[Act.put,qg,qe,qf,qd,qh,qi]
    refine nx0 8 ?_
    iterate 2 (refine nxD (v:=?_) rfl (by kernel_rfl) (fun _ _ _ h=>h) (by kernel_rfl) ?_ (by assumption) ?_; rotate_left; (focus (intro w hSw; (try dsimp only at hSw); first | (go_simp; done) | (go_simp; with_reducible rfl))); try simp only[Act.put,qg,qe,qf,qd,qh,qi,Nat.reduceAdd])
    refine nx9 ?_;refine wpAnyT_seq 12 (by omega) (by rfl) (by kernel_rfl) ?_;simp only[List.drop_succ_cons,List.drop_zero];clear hHeld;go_wp2_with fail;refine(fail_any g _ _ _ b3 130 x.p w5 H5.out.bk).mono ?_;rintro e w6 ⟨rfl,hk9,hu9⟩;have hn9:=H5.out.diag hk9 hu9;have H3:=qq hn9;clear hk9 hu9 hn9;go_wp2_with fail;refine NoPanic.normal ?_;go_wp2_with fail;go_meet
    exact⟨b3,by rw[Hq.out,← Hb3.out]; have:=Hb0.out; simp; omega,H3.out⟩
 case rest=>
  obtain⟨b3,hb3,h3⟩:=hcut;have Hb3:=qq hb3;have H3:=qq h3;clear hb3 h3 H2;obtain⟨c0,c1,c2,c3,c4,c5,c6,m0,m1,m2⟩:=(H3.out).c;go_wp2_with fail;clear c0 c1 c2 c3 c4 c5 c6 m0 m1 m2;refine(fail_any g _ _ _ b4 3 x.p wc H3.out.bk).mono ?_;rintro e w5 ⟨rfl,hk9,hu9⟩;have hn9:=H3.out.diag hk9 hu9;have H4:=qq hn9;clear hk9 hu9 hn9;obtain⟨c0,c1,c2,c3,c4,c5,c6,m0,m1,m2⟩:=(H4.out).c;obtain⟨nm,hnm⟩:∃ q:Nat,min np 4=q:=⟨_,rfl⟩
  have hnm2:min (np:Int) 4=(nm:Nat):=by omega
  have hle:nm≤np:=by omega
  have hcap:nm≤cp:=by have:=HP.out.2.1; omega
  go_wp2_with fail;clear c0 c1 c2 c3 c4 c5 c6 m0 m1 m2
  go_loopg [61] nm (fun gh i wr=>∃ k:Nat,k≤nm∧gh=nm - k∧i=.int .i64 (k:Nat)∧HdS w g x Ap np cp Ac nc cc (.slice Ad nd cd) (.slice Ac' s.cons.length cc') (failD (failD (failD (failD (failD d b1 2 x.p) b2 3 x.p) b3 130 x.p) b4 3 x.p) (twiceN x.params k) 130 x.p) wr)
  case atStart=>exact⟨0,Nat.zero_le _,rfl,rfl,by rw[show twiceN x.params 0=false from rfl,failD_no]; exact H4.out⟩
  case round=>
   obtain⟨k,hk,rfl,rfl,hdr⟩:=hrel
   by_cases hkn:k<nm
   · have d0:decide (k<nm)=true:=by simpa using hkn
     have hkl:k<x.params.length:=by omega
     obtain⟨b,off,rfl,hbS,hcs⟩:=strs_at (HP.out.but hdr.bu) (by omega);have e0:=hcs k hkl
     have k1:(0:Int)≤(k:Int):=by omega
     have k2:(k:Int)<nm:=by omega
     have k3:k≤np:=by omega
     have k4:(k:Int)≤np:=by omega
     have k5:(k:Int)≤cp:=by have:=HP.out.2.1; omega
     obtain⟨y,hy⟩:∃ y,x.params[k]=y:=⟨_,rfl⟩;rw[hy] at e0;have Hy:=qq hy;have HR:=qq hdr;clear hdr hcs hy;go_upto_region 9 with fail;obtain⟨c0,c1,c2,c3,c4,c5,c6,m0,m1,m2⟩:=(HR.out).c;refine wp_region_noPanic ?_;refine wp_region_T (fun w'=>w'.cell? ⟨w.heap.size,2,none⟩=some (.int .i64 x.p.at_)∧w'.cell? ⟨w.heap.size,3,none⟩=some (.int .i64 x.p.line)∧w'.cell? ⟨w.heap.size,4,none⟩=some (.int .i64 x.p.col)∧w'.cell? ⟨w.heap.size,5,none⟩=some (.slice (some ⟨b,off,none⟩) np cp)) 9 (by kernel_rfl) ⟨c2,c3,c4,c5⟩ (fun hHeld=>?_);clear c0 c1 c2 c3 c4 c5 c6 m0 m1 m2;have HRd:=qq (HR.out.below (Below.drew (Below.refl _ _)));generalize wr.drew=w6 at hHeld HRd ⊢;obtain⟨b5,hb5⟩:∃ q,((x.params.take k).any fun z=>decide (z=y))=q:=⟨_,rfl⟩;have hcn:=containsS_any (some ⟨b,off,none⟩) k cp (x.params.take k) y w6 _ ((HP.out.but HRd.out.bu).take k3);rw[hb5] at hcn;have Hcn:=qq hcn
     have H5:Hid (twiceN x.params (k+1)=(twiceN x.params k || b5)):=qq (by rw[twiceN_succ _ _ hkl,Hy.out,hb5])
     clear hcn hb5 HR e0;refine nx0 0 ?_
     iterate 6 (refine nxD (v:=?_) rfl (by kernel_rfl) (fun _ _ _ h=>h) (by kernel_rfl) ?_ (by assumption) ?_; rotate_left; (focus (intro w hSw; (try dsimp only at hSw); first | (go_simp; done) | (go_simp; with_reducible rfl))); try simp only[Act.put,qg,qe,qf,qd,qh,qi,Nat.reduceAdd])
     refine nx9 ?_;refine nx0 7 ?_
     iterate 2 (refine nxD (v:=?_) rfl (by kernel_rfl) (fun _ _ _ h=>h) (by kernel_rfl) ?_ (by assumption) ?_; rotate_left; (focus (intro w hSw; (try dsimp only at hSw); first | (go_simp; done) | (go_simp; with_reducible rfl))); try simp only[Act.put,qg,qe,qf,qd,qh,qi,Nat.reduceAdd])
     refine nx9 ?_;refine wpAnyT_step (i:=6) (by kernel_rfl) rfl (fun K hK=>?_)
     (go_simp; refine Hcn.out.mono ?_; rintro e w7 ⟨rfl,rfl⟩)
     refine hK.out _ _ hHeld ?_;clear hK K
     try simp only[Act.put,qg,qe,qf,qd,qh,qi]
     refine wpAnyT_seq 9 (by omega) (by rfl) (by kernel_rfl) ?_;simp only[List.drop_succ_cons,List.drop_zero];clear hHeld;go_wp2_with fail;refine(fail_any g _ _ _ b5 130 x.p w7 HRd.out.bk).mono ?_;rintro e w8 ⟨rfl,hk9,hu9⟩;have hn9:=HRd.out.diag hk9 hu9;have H6:=qq hn9;clear hk9 hu9 hn9;go_wp2_with fail;refine NoPanic.normal ?_;go_wp2_with fail;go_roundg (nm - (k+1))
     case measure=>omega
     case rel=>exact⟨k+1,by omega,rfl,by go_num,by rw[H5.out,← failD_or _ _ _ _ _ (by omega)]; exact H6.out⟩
   · have d0:decide (k<nm)=false:=by simpa using hkn
     obtain rfl:k=nm:=by omega
     have hfin:twiceN x.params k=twiceP x.params:=by unfold twiceN twiceP; rw[hlen,hnm]
     have hlaw:=head_law s x d b1 b2 b3 b4 (twiceN x.params k) h0 (by rw[← hb1]; simp) (by rw[← hb2,HN.out]; simp; omega) (by rw[Hb3.out,← Hbn.out]) (by rw[← hb4,hlen]; simp; omega) hfin
     rw[hlaw] at hdr;have HR:=qq hdr;clear hdr hlaw hfin;obtain⟨c0,c1,c2,c3,c4,c5,c6,m0,m1,m2⟩:=(HR.out).c;go_wp2_with fail;clear c0 c1 c2 c3 c4 c5 c6 m0 m1 m2;refine(data_anyS g base R s _ _ vs _ x.name np wr HR.out.bk (HM.out.but HR.out.bu hg hR) hg hR hn (Nat.le_trans hb HR.out.bu.size)).mono ?_;rintro e w9 ⟨rfl,vd',hk9,hs9,hf9,hr9⟩;rw[← hlen] at hs9;have HZ:=qq (And.intro hk9 (And.intro hs9 (And.intro (hf9.pre HR.out.bu) fun b h=>(hr9 b h).imp id (Nat.le_trans HR.out.bu.size))));clear hk9 hs9 hf9 hr9;go_wp2_with fail
     go_end0
     exact⟨rfl,vd',HZ.out⟩
end Go.Proofs.YtgpeijkjmkocgaaDoor
namespace Go.Proofs.YtgpeijkjmkocgaaDoor
open Go.RowKit Go.Maps
theorem rdI_own {k:IntKind} {w:World} {base:Nat} {e:TypeId} {A:Option Addr} {n c:Nat} {us:List Int} (h:w.ownsRow base e 1 (.slice A n c) n (us.map (Value.int k))):RdI k w w.heap.size A n c us:=RdI.of_own h
theorem slI_rd {w:World} {B:Nat} {A:Option Addr} {n c:Nat} {us:List Int} (h:Sl w (Lt B) encI 1 us A n c):RdI .i64 w B A n c us:=by
 refine⟨⟨by rw[List.length_map,h.1,Nat.mul_one],fun hn=>?_⟩,h.2.1,h.2.2.1⟩
 obtain⟨b,off,e,hb,hr⟩:=h.at_ (k:=1) (fun _=>rfl) hn;refine⟨b,off,e,hb,fun j u hu=>?_⟩;rw[List.getElem?_map] at hu
 have hj:j<us.length:=by
  rcases Nat.lt_or_ge j us.length with q | q
  · exact q
  · rw[List.getElem?_eq_none q] at hu; cases hu
 have h1:=hr j hj;unfold encI at h1;simp only[celsIn_cons,celIn_v] at h1;obtain⟨⟨u',h2,rfl⟩,_⟩:=h1;rw[qj hj] at hu
 obtain rfl:Value.int .i64 us[j]=u:=by simpa using hu
 rw[Nat.mul_one] at h2;exact h2
theorem equalI13 {A A':Option Addr} {n c n' c':Nat} {us vs:List Int} {w:World} {B B':Nat} {r:Bool} (h:RdI .i64 w B A n c us) (h':RdI .i64 w B' A' n' c' vs) (hr:decide (us=vs)=r):
  Calls Tryd.prog 13 #[.slice A n c,.slice A' n' c'] w fun e w'=>e=.returned (.bool r)∧Below w.heap.size w w':=by
 have hl:=h.len;have hl':=h'.len;have m63:n≤9223372036854775807:=Nat.le_trans h.2.1 h.2.2;have m63':n'≤9223372036854775807:=Nat.le_trans h'.2.1 h'.2.2
 by_cases hnm:n=n'
 · subst hnm
   by_cases h0:n=0
   · subst h0
     have e1:us=[]:=List.eq_nil_of_length_eq_zero hl;have e2:vs=[]:=List.eq_nil_of_length_eq_zero hl'
     subst e1; subst e2
     exact(Tryd.slices_Equal_int_empty A A' c 0 c' w (by omega)).mono fun e w' ⟨he,hw⟩=>⟨by rw[he,← hr]; simp,by rw[hw]; exact Below.refl _ _⟩
   · obtain⟨b1,o1,rfl,_,hc1⟩:=h.at_ (by omega)
     obtain⟨b2,o2,rfl,_,hc2⟩:=h'.at_ (by omega);refine(Tryd.slices_Equal_int b1 o1 n c b2 o2 n c' us vs w (by omega) (by omega) m63 m63 (fun j hj=>?_) (fun j hj=>?_)).mono ?_
     · rw[hc1 j hj,List.getD_eq_getElem?_getD,qj hj]; rfl
     · rw[hc2 j hj,List.getD_eq_getElem?_getD,qj hj]; rfl
     · rintro e w' ⟨he,q,hw⟩
       rw[List.take_of_length_le (by omega),List.take_of_length_le (by omega)] at he
       refine⟨by rw[he,← hr,Bool.eq_iff_iff.2 (by simp:(us==vs)=true↔decide (us=vs)=true)],by rw[hw]; exact below_drewN_t (Below.refl _ _) q⟩
 · have hne:us≠vs:=fun e=>hnm (by rw[← hl,← hl',e])
   exact(Tryd.slices_Equal_int_lens A A' n c n' c' w hnm).mono fun e w' ⟨he,hw⟩=>⟨by rw[he,← hr,decide_eq_false hne],by rw[hw]; exact Below.refl _ _⟩
theorem ownsRow_block {w w':World} {base:Nat} {e:TypeId} {size:Nat} {v:Value} {n:Nat} {xs:List Value} (h:w.ownsRow base e size v n xs) (hb:∀ b,v.ownBlock=some b→w'.heap[b]?=w.heap[b]?):w'.ownsRow base e size v n xs:=by
 refine⟨h.1,?_⟩
 rcases h.2 with q | ⟨g,cap,cur,e1,e2,e3,e4⟩
 · exact Or.inl q
 · exact Or.inr ⟨g,cap,cur,e1,e2,by rw[hb g (by rw[e1]; rfl)]; exact e3,e4⟩
structure FromM (w:World) (F base:Nat) (vs:List Value) (fr:Nat→List Int):Prop where
 blk:Blk w F 50 vs.toArray
 low:F<base
 own:∀ j (h:j<vs.length),w.ownsRow base 3 1 vs[j] (fr j).length ((fr j).map (Value.int .i64))
 sep:∀ i j b (hi:i<vs.length) (hj:j<vs.length),vs[i].ownBlock=some b→vs[j].ownBlock=some b→i=j
section
variable {w w':World} {F base:Nat} {vs:List Value} {fr:Nat→List Int}
theorem FromM.below (h:FromM w F base vs fr) (hb:Below w.heap.size w w'):FromM w' F base vs fr:=
 ⟨h.blk.below hb h.blk.lt,h.low,fun j hj=>ownsRow_beyond (h.own j hj) hb,h.sep⟩
theorem FromM.low_ (h:FromM w F base vs fr) {row:Option Nat} (hg:w.grownBy w' row) (hF:some F≠row) (hr:∀ b,row=some b→b<base):FromM w' F base vs fr:=
 ⟨h.blk.grown hg hF,h.low,fun j hj=>ownsRow_block (h.own j hj) fun b hb=>by
  have:=own_lt (h.own j hj) hb
  exact hg.block b this.2 fun e=>by have:=hr b e.symm; omega,h.sep⟩
theorem FromM.cell (h:FromM w F base vs fr) (j:Nat) (hj:j<vs.length):w.cell? ⟨F,j,none⟩=some vs[j]:=by
 rw[Blk.cell h.blk];simp[hj]
theorem FromM.frozen (h:FromM w F base vs fr) (j:Nat):w.frozen? ⟨F,j,none⟩=false:=h.blk.frozen j
theorem FromM.row (h:FromM w F base vs fr) (j:Nat) (hj:j<vs.length):∃ A c,vs[j]=.slice A (fr j).length c∧w.ownsRow base 3 1 (.slice A (fr j).length c) (fr j).length ((fr j).map (Value.int .i64)):=by
 have ho:=h.own j hj;obtain⟨A,c,e⟩:=ownsRow_form ho;rw[e] at ho;exact⟨A,c,e,ho⟩
theorem FromM.add (h:FromM w F base vs fr) {j:Nat} (hj:j<vs.length) {v':Value} {u:Int} (ho:w'.ownsRow base 3 1 v' ((fr j).length+1) ((fr j).map (Value.int .i64)++[.int .i64 u])) (hg:w.grownBy w' vs[j].ownBlock) (hn:v'.ownBlock=vs[j].ownBlock∨v'.ownBlock=some w.heap.size):
  FromM (w'.setCell ⟨F,j,none⟩ v') F base (vs.set j v') (fun k=>if k=j then fr j++[u] else fr k):=by
 have hFl:=h.blk.lt;refine⟨?_,h.low,fun k hk=>?_,fun i k b hi hk ei ek=>?_⟩
 · have:=(h.blk.grown hg (fun e=>by have:=own_lt (h.own j hj) e.symm; have:=h.low; omega)).set_ j v'
   simpa using this
 · have hk':k<vs.length:=by simpa using hk
   by_cases e:k=j
   · subst e
     rw[List.getElem_set,if_pos rfl];simp only[if_true];have:=ownsRow_setCell_below ho (a:=⟨F,k,none⟩) h.low v'
     simpa using this
   · rw[List.getElem_set,if_neg (fun q=>e q.symm)]
     simp only[if_neg e];have hold:=h.own k hk';refine ownsRow_setCell_below (ownsRow_block hold fun b hb=>?_) (a:=⟨F,j,none⟩) h.low v';have hlt:=own_lt hold hb;exact hg.block b hlt.2 fun e'=>e (h.sep k j b hk' hj hb e'.symm)
 · have hi':i<vs.length:=by simpa using hi
   have hk':k<vs.length:=by simpa using hk
   rw[List.getElem_set] at ei ek
   by_cases e1:j=i
   · by_cases e2:j=k
     · omega
     · rw[if_pos e1] at ei
       rw[if_neg e2] at ek
       exfalso
       rcases hn with q | q
       · rw[q] at ei
         exact e2 (h.sep j k b hj hk' ei ek)
       · rw[q] at ei
         have:=own_lt (h.own k hk') ek;simp at ei;omega
   · rw[if_neg e1] at ei
     by_cases e2:j=k
     · rw[if_pos e2] at ek
       exfalso
       rcases hn with q | q
       · rw[q] at ek
         exact e1 (h.sep j i b hj hi' ek ei)
       · rw[q] at ek
         have:=own_lt (h.own i hi') ei;simp at ek;omega
     · rw[if_neg e2] at ek
       exact h.sep i k b hi' hk' ei ek
end
structure MayB (w0:World) (A:Option Addr) (n c:Nat) (A2:Option Addr) (n2 c2:Nat) (vs:List Value) (fr:Nat→List Int) (seen:List ByteArray) (W:World):Prop where
 sig:Blk W w0.heap.size 25 #[.slice A n c,.slice A2 n2 c2]
 frm:FromM W (w0.heap.size+1) (w0.heap.size+4) vs fr
 len:vs.length=n
 map:MapS W Tryd.prog 9 (w0.heap.size+2) seen.length (.int .i64 0) (cntF seen)
 mbx:Blk W (w0.heap.size+3) 124 #[.map (some (w0.heap.size+2))]
 bel:Below w0.heap.size w0 W
section
variable {w0 W W':World} {A A2:Option Addr} {n c n2 c2:Nat} {vs:List Value} {fr:Nat→List Int} {seen:List ByteArray}
theorem MayB.size (h:MayB w0 A n c A2 n2 c2 vs fr seen W):w0.heap.size+4≤W.heap.size:=h.mbx.lt
theorem MayB.below (h:MayB w0 A n c A2 n2 c2 vs fr seen W) (hb:Below W.heap.size W W'):MayB w0 A n c A2 n2 c2 vs fr seen W':=
 ⟨h.sig.below hb h.sig.lt,h.frm.below hb,h.len,h.map.fresh hb,h.mbx.below hb h.mbx.lt,h.bel.trans (hb.mono h.bel.size)⟩
theorem MayB.named (h:MayB w0 A n c A2 n2 c2 vs fr seen W) {s:ByteArray} (hm:MapS W' Tryd.prog 9 (w0.heap.size+2) (seen.length+1) (.int .i64 0) (cntF (s :: seen))) (hg:W.grownBy W' (some (w0.heap.size+2))):MayB w0 A n c A2 n2 c2 vs fr (s :: seen) W':=
 ⟨h.sig.grown hg (by simp),h.frm.low_ hg (by simp) (fun b e=>by injection e with e; omega),h.len,hm,h.mbx.grown hg (by simp),
  ⟨hg.os.trans h.bel.os,hg.tape.trans h.bel.tape,hg.output.trans h.bel.output,Nat.le_trans h.bel.size hg.size,fun k hk=>(hg.block k (Nat.lt_of_lt_of_le hk h.bel.size) (by simp; omega)).trans (h.bel.block k hk)⟩⟩
theorem MayB.push (h:MayB w0 A n c A2 n2 c2 vs fr seen W) {j:Nat} (hj:j<vs.length) {v':Value} {u:Int} (ho:W'.ownsRow (w0.heap.size+4) 3 1 v' ((fr j).length+1) ((fr j).map (Value.int .i64)++[.int .i64 u])) (hg:W.grownBy W' vs[j].ownBlock) (hn:v'.ownBlock=vs[j].ownBlock∨v'.ownBlock=some W.heap.size):
  MayB w0 A n c A2 n2 c2 (vs.set j v') (fun k=>if k=j then fr j++[u] else fr k) seen (W'.setCell ⟨w0.heap.size+1,j,none⟩ v'):=by
 have hr:∀ b,b<w0.heap.size+4→some b≠vs[j].ownBlock:=fun b hb e=>by have:=own_lt (h.frm.own j hj) e.symm; omega
 have hbl:∀ b,b<w0.heap.size+4→b≠w0.heap.size+1→(W'.setCell ⟨w0.heap.size+1,j,none⟩ v').heap[b]?=W.heap[b]?:=fun b hb hne=>by
  have:=h.size;exact(Below.heap_setCell _ _ _ _ hne).trans (hg.block b (by omega) (hr b hb))
 refine⟨(hbl _ (by omega) (by omega)).trans h.sig,h.frm.add hj ho hg hn,by rw[List.length_set]; exact h.len,h.map.block (hbl _ (by omega) (by omega)),(hbl _ (by omega) (by omega)).trans h.mbx,
  ⟨hg.os.trans h.bel.os,hg.tape.trans h.bel.tape,hg.output.trans h.bel.output,by rw[World.size_setCell]; exact Nat.le_trans h.bel.size hg.size,fun k hk=>(hbl k (by omega) (by omega)).trans (h.bel.block k hk)⟩⟩
end
theorem MayB.make (w:World) (A:Option Addr) (n c:Nat) (A2:Option Addr) (n2 c2:Nat):
  ∃ W1 W2 W3 W4,w.alloc (Obj.cells #[.slice A n c,.slice A2 n2 c2] 25)=W1∧W1.alloc (.cells (List.replicate n (Value.slice none 0 0)).toArray 50)=W2∧W2.alloc (Obj.map #[] 0)=W3∧W3.alloc (Obj.cells #[.map (some (w.heap.size+2))] 124)=W4 ∧
   W1.heap.size=w.heap.size+1∧W2.heap.size=w.heap.size+2∧W3.heap.size=w.heap.size+3∧MayB w A n c A2 n2 c2 (List.replicate n (Value.slice none 0 0)) (fun _=>[]) [] W4∧Blk W1 w.heap.size 25 #[.slice A n c,.slice A2 n2 c2]:=by
 obtain⟨W1,h1⟩:∃ x,w.alloc (Obj.cells #[.slice A n c,.slice A2 n2 c2] 25)=x:=⟨_,rfl⟩
 have s1:W1.heap.size=w.heap.size+1:=by rw[← h1]; simp
 have k1:=blk_new w #[.slice A n c,.slice A2 n2 c2] 25;have g1:=below_box (w:=w) (Obj.cells #[.slice A n c,.slice A2 n2 c2] 25);rw[h1] at k1 g1;obtain⟨W2,h2⟩:∃ x,W1.alloc (.cells (List.replicate n (Value.slice none 0 0)).toArray 50)=x:=⟨_,rfl⟩
 have s2:W2.heap.size=w.heap.size+2:=by rw[← h2]; simp[s1]
 have k2:=blk_new W1 (List.replicate n (Value.slice none 0 0)).toArray 50;have g2:=below_box (w:=W1) (.cells (List.replicate n (Value.slice none 0 0)).toArray 50);rw[h2,s1] at k2 g2;obtain⟨W3,h3⟩:∃ x,W2.alloc (Obj.map #[] 0)=x:=⟨_,rfl⟩
 have s3:W3.heap.size=w.heap.size+3:=by rw[← h3]; simp[s2]
 have k3:=MapS.made W2 Tryd.prog 9 (.int .i64 0);have g3:=below_box (w:=W2) (Obj.map #[] 0);rw[h3,s2] at k3 g3;obtain⟨W4,h4⟩:∃ x,W3.alloc (Obj.cells #[.map (some (w.heap.size+2))] 124)=x:=⟨_,rfl⟩;have k4:=blk_new W3 #[.map (some (w.heap.size+2))] 124;have g4:=below_box (w:=W3) (Obj.cells #[.map (some (w.heap.size+2))] 124);rw[h4,s3] at k4 g4
 refine⟨W1,W2,W3,W4,h1,h2,h3,h4,s1,s2,s3,⟨?_,⟨?_,by omega,fun j hj=>?_,fun i j b hi hj e=>?_⟩,by simp,?_,k4,?_⟩,k1⟩
 · exact((k1.below g2 (by omega)).below g3 (by omega)).below g4 (by omega)
 · exact(k2.below g3 (by omega)).below g4 (by omega)
 · have:(List.replicate n (Value.slice none 0 0))[j]=.slice none 0 0:=by simp
   rw[this];exact World.ownsRow_nil _ _ _ _
 · have:(List.replicate n (Value.slice none 0 0))[i]=.slice none 0 0:=by simp
   rw[this] at e
   cases e
 · have e0:cntF []=fun _=>none:=by funext s; simp[cntF,cntN]
   rw[e0];exact(k3.below g4 (by omega)).mono (Nat.zero_le _)
 · exact((g1.trans (g2.mono (by omega))).trans (g3.mono (by omega))).trans (g4.mono (by omega))
end Go.Proofs.YtgpeijkjmkocgaaDoor
