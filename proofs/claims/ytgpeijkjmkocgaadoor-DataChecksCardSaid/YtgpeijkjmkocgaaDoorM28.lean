import Derived.Test.YtgpeijkjmkocgaaDoorM27
set_option linter.unusedVariables false
set_option linter.unusedSimpArgs false
set_option maxHeartbeats 8000000
set_option maxRecDepth 100000
namespace Go.Proofs.YtgpeijkjmkocgaaDoor
open Go.RowKit
theorem box5 {w:World} {b:Nat} {T:TypeId} {u0 u1 u2 u3 u4:Value} (h:Blk w b T #[u0,u1,u2,u3,u4]):w.cell? ⟨b,0,none⟩=some u0∧w.cell? ⟨b,1,none⟩=some u1∧w.cell? ⟨b,2,none⟩=some u2∧w.cell? ⟨b,3,none⟩=some u3∧w.cell? ⟨b,4,none⟩=some u4:=⟨h.cell 0,h.cell 1,h.cell 2,h.cell 3,h.cell 4⟩
def conC (c:ConW) (Af:Option Addr) (nf cf:Nat):Array Value:=#[.string c.name,.int .i64 c.p.at_,.int .i64 c.p.line,.int .i64 c.p.col,.slice Af nf cf]
def fldC (f:FieldD) (A:Option Addr) (m cp:Nat):Array Value:=#[.int .u8 f.m,.int .u8 f.t.k,.string f.t.s,.int .u8 f.t.m,.int .i64 f.t.p.at_,.int .i64 f.t.p.line,.int .i64 f.t.p.col,.slice A m cp]
def ConsPost (g base:Nat) (R:Nat→Prop) (s:SigD) (vd vc:Value) (vs:List Value) (d:DiagD) (n:Nat) (x:DeclD) (w:World) (e:Ending) (w':World):Prop:=
 e=.returned (.tuple #[])∧∃ s' vc' vs',Blk w' g 91 (mkC vd vc' (d.then_ (bodyE n s x)))∧SigM w' base R s' vd vc' vs'∧(∀ z,bodyE n s x=.ok z→s'=z)∧ButS g (RowB vd vc vs) w w'∧(∀ b,RowB vd vc' vs' b→RowB vd vc vs b∨w.heap.size≤b)∧SigB s'∧s'.datas.length=s.datas.length∧¬ RowB vd vc' vs' g
theorem CnS.post {w wx:World} {g base:Nat} {R:Nat→Prop} {x:DeclD} {Ap:Option Addr} {np cp:Nat} {Ac:Option Addr} {nc cc:Nat} {vd vc0:Value} {vs0:List Value} {s s0:SigD} {vc:Value} {vs:List Value} {d d0:DiagD} {n:Nat} {b:Bool} (h:CnS w g base R x Ap np cp Ac nc cc vd vc0 vs0 s vc vs d wx) (h0:d0.e=0) (hb:b=true↔x.cons=[]) (hF:FoldP (fun s c=>conE s n x.params c) s0 (failD d0 b 2 x.p) x.cons s d) (hl:s.datas.length=s0.datas.length):ConsPost g base R s0 vd vc0 vs0 d0 n x w (.returned (.tuple #[])) wx:=by
 obtain⟨q1,q2⟩:=body_end h0 hb hF
 exact⟨rfl,s,vc,vs,by rw[← q1]; exact h.bk,h.sm,q2,h.bu,fun b hb=>(h.rw_ b hb).imp id Nat.le_of_lt,h.sb,hl,h.no⟩
theorem cons_any (g base B n:Nat) (R:Nat→Prop) (s0:SigD) (vd vc0:Value) (vs0:List Value) (d:DiagD) (x:DeclD) (Ap:Option Addr) (np cp:Nat) (Ac:Option Addr) (nc cc:Nat) (w:World) (hk:Blk w g 91 (mkC vd vc0 d)) (hm:SigM w base R s0 vd vc0 vs0) (hg:¬ RowB vd vc0 vs0 g) (hR:R g) (hRb:∀ b,R b→b<w.heap.size) (hn:n<s0.datas.length) (hsb:SigB s0) (hb:base≤w.heap.size)
  (hBg:B≤g) (hBb:B≤base) (hp:Sl w (Lt B) encS 1 x.params Ap np cp) (hcs:Sl w (Lt B) encC 5 x.cons Ac nc cc) (h0:d.e=0):
  Calls Tryd.prog 40 #[.pointer (some ⟨g,0,none⟩),.int .i64 n,.agg (dlCells x Ap np cp Ac nc cc)] w (ConsPost g base R s0 vd vc0 vs0 d n x w):=by
 obtain⟨Ad,cd,rfl⟩:=ownsRow_form hm.od;have hgw:=hk.lt;have hrows:∀ b,RowB (.slice Ad s0.datas.length cd) vc0 vs0 b→base≤b∧b<w.heap.size:=fun b e=>hm.rowB e;have hbx:=below_box (w:=w) (Obj.cells (dlCells x Ap np cp Ac nc cc) 40)
 have hst:CnS w g base R x Ap np cp Ac nc cc (.slice Ad s0.datas.length cd) vc0 vs0 s0 vc0 vs0 d (w.alloc (Obj.cells (dlCells x Ap np cp Ac nc cc) 40)):=
  ⟨hk.below hbx hgw,blk_new _ _ _,hm.below hbx,ButS.of hbx,fun b e=>Or.inl e,hg,hgw,hsb⟩
 obtain⟨W,hW⟩:∃ q,w.alloc (Obj.cells (dlCells x Ap np cp Ac nc cc) 40)=q:=⟨_,rfl⟩
 have hws:W.heap.size=w.heap.size+1:=by rw[← hW]; simp
 rw[hW] at hst;unfold dlCells at hW;have hlen:=hcs.len;have m63:nc≤9223372036854775807:=hcs.cap;obtain⟨b0,hb0⟩:∃ q,((nc:Int)==0)=q:=⟨_,rfl⟩
 have Hb0:Hid (b0=true↔x.cons=[]):=qq (by rw[← hb0,← hlen]; simp)
 obtain⟨nd,hnd⟩:∃ q,s0.datas.length=q:=⟨_,rfl⟩;rw[hnd] at hst hrows hn hg ⊢;have Hnd:=qq hnd;have HW:=qq hW;have HB:=qq hst;have HP:=qq hp;have HC:=qq hcs;have Hrows:=qq hrows;have Hws:=qq hws;have Hh0:=qq h0;have HRb:=qq hRb;clear hst hbx hW hk hm hp hcs hrows hws hnd hsb h0 hRb;unfold dlCells
 go_enter Tryd.func40,Tryd.ntmps40
 go_upto_region 1 with fail;rw[HW.out];obtain⟨c2,c3,c4,c5,c6,m0,m1,m2⟩:=(HB.out).c;go_wp2_with fail;clear c2 c3 c4 c5 c6 m0 m1 m2;refine(fail_any g _ _ _ b0 2 x.p W HB.out.bk).mono ?_;rintro e w1 ⟨rfl,hk9,hu9⟩;have hn9:=HB.out.diag hR hk9 hu9;have H1:=qq hn9;have Huw1:=qq hu9;clear hk9 hu9 hn9
 have hw1:w.heap.size<w1.heap.size:=by have:=Huw1.out.size; have:=Hws.out; omega
 have Hw1:=qq hw1;clear hw1 Huw1 HB hb0 HW;obtain⟨c2,c3,c4,c5,c6,m0,m1,m2⟩:=(H1.out).c;go_wp2_with fail;clear c2 c3 c4 c5 c6 m0 m1 m2
 go_loopg [25] nc (fun gh i wr=>∃ (j:Nat) (s:SigD) (vc:Value) (vs:List Value) (dj:DiagD),j≤nc∧gh=nc - j∧i=.int .i64 (j:Nat)∧w.heap.size<wr.heap.size∧CnS w g base R x Ap np cp Ac nc cc (.slice Ad nd cd) vc0 vs0 s vc vs dj wr∧FoldP (fun s c=>conE s n x.params c) s0 (failD d b0 2 x.p) (x.cons.take j) s dj∧s.datas.length=nd)
 case atStart=>exact⟨0,s0,vc0,vs0,_,Nat.zero_le _,rfl,rfl,Hw1.out,H1.out,FoldP.nil,Hnd.out⟩
 case round=>
  obtain⟨j,s,vc,vs,dj,hj,rfl,rfl,hwr,hcn,hF,hsl⟩:=hrel;obtain⟨wo,hwo⟩:∃ q,q=wr:=⟨_,rfl⟩;subst hwo
  by_cases hjn:j<nc
  · have d0:decide (j<nc)=true:=by simpa using hjn
    have hj':j<x.cons.length:=by omega
    have hlow:=hcn.low hBg (by omega) (fun b e=>by have:=(Hrows.out b e).1; omega)
    obtain⟨b,off,rfl,hbS,hcc⟩:=consW_at (HC.out.below hlow) (by omega);obtain⟨e0,e1,e2,e3,Af,nf,cf,e4,hf⟩:=hcc j hj';have hst:x.cons.take (j+1)=x.cons.take j++[x.cons[j]]:=List.take_succ_eq_append_getElem hj'
    have hrs:x.cons.take j++[x.cons[j]]++x.cons.drop (j+1)=x.cons:=by rw[← hst,List.take_append_drop]
    obtain⟨c,hc⟩:∃ c,x.cons[j]=c:=⟨_,rfl⟩;rw[hc] at e0 e1 e2 e3 hf hst hrs
    have k1:(0:Int)≤(j:Int):=by omega
    have k2:(j:Int)<nc:=by omega
    have hnf:=hf.len;have f63:nf≤9223372036854775807:=hf.cap;have hbx:=below_box (w:=wo) (Obj.cells (conC c Af nf cf) 71);have hkx:=blk_new wo (conC c Af nf cf) 71;have hc1:=hcn.below hbx
    have hf1:=hf.below (hbx.mono (show B≤wo.heap.size by omega))
    obtain⟨v1,A1,hv1⟩:∃ A v1,vc=.slice A s.cons.length v1:=hcn.sm.oc.form;subst hv1;obtain⟨w2,hw2⟩:∃ q,wo.alloc (Obj.cells (conC c Af nf cf) 71)=q:=⟨_,rfl⟩
    have hws2:w2.heap.size=wo.heap.size+1:=by rw[← hw2]; simp
    rw[hw2] at hkx hc1 hf1;unfold conC at hw2;have Hw2:=qq hw2;have Hc1:=qq hc1;have Hk1:=qq hkx;have Hf1:=qq hf1;have HF:=qq hF;have Hst:=qq hst;have Hrs:=qq hrs;have Hsl:=qq hsl;have Hws2:=qq hws2;clear hcn hbx hkx hc1 hf hf1 hF hst hrs hsl hcc hc hw2 hws2 hlow;go_upto_region 5 with fail;rw[Hw2.out];clear e0 e1 e2 e3 e4;obtain⟨ncs,hncs⟩:∃ q,s.cons.length=q:=⟨_,rfl⟩;have Hncs:=qq hncs
    have hgc:wo.heap.size≠g:=by omega
    have c63:ncs≤9223372036854775807:=by have:=Hc1.out.sb.ln; omega
    obtain⟨b1,hb1⟩:∃ q,decide ((ncs:Int)≥100)=q:=⟨_,rfl⟩
    have Hb1:Hid (b1=true↔100≤s.cons.length):=qq (by rw[← hb1,hncs]; simp; omega)
    rw[hncs] at Hc1;clear hncs;obtain⟨c2,c3,c4,c5,c6,m0,m1,m2⟩:=(Hc1.out).c;obtain⟨q0,q1,q2,q3,q4⟩:=box5 (Hk1.out);refine wp_region_noPanic ?_;refine wp_region_T (fun w'=>w'.cell? ⟨g,1,none⟩=some (.slice v1 ncs A1)∧w'.cell? ⟨wo.heap.size,1,none⟩=some (.int .i64 c.p.at_)∧w'.cell? ⟨wo.heap.size,2,none⟩=some (.int .i64 c.p.line)∧w'.cell? ⟨wo.heap.size,3,none⟩=some (.int .i64 c.p.col)) 10 (by kernel_rfl) ⟨m1,q1,q2,q3⟩ (fun hHeld=>?_);clear c2 c3 c4 c5 c6 m0 m1 m2;clear q0 q1 q2 q3 q4;have Hc2:=qq (Hc1.out.below (Below.drew (Below.refl _ _)));have Hk2:=qq (Hk1.out.below (Below.drew (Below.refl _ _)) Hk1.out.lt);have Hb23:=qq (Below.drew (Below.refl w2.heap.size w2));generalize w2.drew=w3 at hHeld Hc2 Hk2 Hb23 ⊢;refine nx0 0 ?_
    iterate 10 (refine nxD (v:=?_) rfl (by kernel_rfl) (fun _ _ _ h=>h) (by kernel_rfl) ?_ (by assumption) ?_; rotate_left; (focus (intro w hSw; (try dsimp only at hSw); first | (go_simp; done) | (go_simp; with_reducible rfl))); try simp only[Act.put,qg,qe,qf,qd,qh,qi,Nat.reduceAdd])
    refine nx9 ?_;refine wpAnyT_seq 10 (by omega) (by rfl) (by kernel_rfl) ?_;simp only[List.drop_succ_cons,List.drop_zero];clear hHeld;go_wp2_with fail;refine(fail_any g _ _ _ b1 3 c.p w3 Hc2.out.bk).mono ?_;rintro e w4 ⟨rfl,hk9,hu9⟩;have hn9:=Hc2.out.diag hR hk9 hu9;have Hc4:=qq hn9;have Huw4:=qq hu9;clear hk9 hu9 hn9;have Hk4:=qq (Hk2.out.but Huw4.out hgc);go_wp2_with fail;refine NoPanic.normal ?_;clear Hc1 Hk1 Hc2 Hk2 hb1;go_upto_region 6 with fail;obtain⟨c2,c3,c4,c5,c6,m0,m1,m2⟩:=(Hc4.out).c;obtain⟨q0,q1,q2,q3,q4⟩:=box5 (Hk4.out);refine wp_region_noPanic ?_;refine wp_region_T (fun w'=>w'.cell? ⟨g,0,none⟩=some (.slice Ad nd cd)∧w'.cell? ⟨g,1,none⟩=some (.slice v1 ncs A1)∧w'.cell? ⟨wo.heap.size,0,none⟩=some (.string c.name)) 11 (by kernel_rfl) ⟨m0,m1,q0⟩ (fun hHeld=>?_);clear c2 c3 c4 c5 c6 m0 m1 m2;clear q0 q1 q2 q3 q4;have Hc5:=qq (Hc4.out.below (Below.drew (Below.refl _ _)));have Hk5:=qq (Hk4.out.below (Below.drew (Below.refl _ _)) Hk4.out.lt);have Hb45:=qq (Below.drew (Below.refl w4.heap.size w4));generalize w4.drew=w5 at hHeld Hc5 Hk5 Hb45 ⊢;refine nx0 0 ?_
    iterate 6 (refine nxD (v:=?_) rfl (by kernel_rfl) (fun _ _ _ h=>h) (by kernel_rfl) ?_ (by assumption) ?_; rotate_left; (focus (intro w hSw; (try dsimp only at hSw); first | (go_simp; done) | (go_simp; with_reducible rfl))); try simp only[Act.put,qg,qe,qf,qd,qh,qi,Nat.reduceAdd])
    refine nx9 ?_;obtain⟨ix,hix⟩:∃ q,idxC s.cons c.name=q:=⟨_,rfl⟩
    have hdc:=dataCon_any Ad nd cd v1 ncs A1 s c.name w5 (Lt w5.heap.size) (fun b h=>h) (by rw[← Hncs.out]; exact Hc5.out.sm.csl (fun b hb _=>hb))
    rw[hix] at hdc;obtain⟨b2,hb2⟩:∃ q,decide (ix≥0)=q:=⟨_,rfl⟩;rw[hb2] at hdc;have Hdc:=qq hdc
    have Hb2:Hid (b2=true↔0≤idxC s.cons c.name):=qq (by rw[← hb2,hix]; simp)
    clear hdc hb2 hix;refine wpAnyT_step (i:=6) (by kernel_rfl) rfl (fun K hK=>?_)
    (go_simp; refine Hdc.out.mono ?_; rintro e w6 ⟨rfl,hq6⟩; have Hq6:=qq hq6; have Hc6:=qq (Hc5.out.below hq6); have Hk6:=qq (Hk5.out.below hq6 Hk5.out.lt); obtain⟨c2,c3,c4,c5,c6,m0,m1,m2⟩:=Hc6.out.c; obtain⟨q0,q1,q2,q3,q4⟩:=box5 Hk6.out; replace hHeld:=And.intro m0 (And.intro m1 q0); clear hq6 c2 c3 c4 c5 c6 m0 m1 m2 q0 q1 q2 q3 q4)
    refine hK.out _ _ hHeld ?_;clear hK K
    try simp only[Act.put,qg,qe,qf,qd,qh,qi]
    refine nx0 7 ?_
    iterate 3 (refine nxD (v:=?_) rfl (by kernel_rfl) (fun _ _ _ h=>h) (by kernel_rfl) ?_ (by assumption) ?_; rotate_left; (focus (intro w hSw; (try dsimp only at hSw); first | (go_simp; done) | (go_simp; with_reducible rfl))); try simp only[Act.put,qg,qe,qf,qd,qh,qi,Nat.reduceAdd])
    refine nx9 ?_;refine wpAnyT_step (i:=10) (by kernel_rfl) rfl (fun K hK=>?_);go_simp;refine hK.out _ _ hHeld ?_;clear hK K
    try simp only[Act.put,qg,qe,qf,qd,qh,qi]
    refine wpAnyT_seq 11 (by omega) (by rfl) (by kernel_rfl) ?_;simp only[List.drop_succ_cons,List.drop_zero];clear hHeld;go_wp2_with fail;refine NoPanic.normal ?_;go_upto_region 7 with fail;obtain⟨q0,q1,q2,q3,q4⟩:=box5 (Hk6.out);go_wp2_with fail;clear q0 q1 q2 q3 q4;refine(fail_any g _ _ _ b2 130 c.p w6 Hc6.out.bk).mono ?_;rintro e w7 ⟨rfl,hk9,hu9⟩;have hn9:=Hc6.out.diag hR hk9 hu9;have Hc7:=qq hn9;have Huw7:=qq hu9;clear hk9 hu9 hn9;have Hk7:=qq (Hk6.out.but Huw7.out hgc);obtain⟨b3,hb3⟩:∃ q,decide ((nf:Int)>8)=q:=⟨_,rfl⟩
    have Hb3:Hid (b3=true↔8<c.fields.length):=qq (by rw[← hb3,hnf]; simp; omega)
    obtain⟨q0,q1,q2,q3,q4⟩:=box5 (Hk7.out);go_wp2_with fail;clear q0 q1 q2 q3 q4;refine(fail_any g _ _ _ b3 3 c.p w7 Hc7.out.bk).mono ?_;rintro e w8 ⟨rfl,hk9,hu9⟩;have hn9:=Hc7.out.diag hR hk9 hu9;have Hc8:=qq hn9;have Huw8:=qq hu9;clear hk9 hu9 hn9;have Hk8:=qq (Hk7.out.but Huw8.out hgc);obtain⟨d3,hd3⟩:∃ q,failD (failD (failD dj b1 3 c.p) b2 130 c.p) b3 3 c.p=q:=⟨_,rfl⟩;have hc8:=Hc8.out;rw[hd3] at hc8;have Hc9:=qq hc8;have Hd3:=qq hd3;clear hc8 Hc8 hd3 Hc4 Hk4 Hc5 Hk5 Hc6 Hk6 Hc7 Hk7 hb3;obtain⟨c2,c3,c4,c5,c6,m0,m1,m2⟩:=(Hc9.out).c;obtain⟨q0,q1,q2,q3,q4⟩:=box5 (Hk8.out)
    by_cases hz:d3.e=0
    · have dz:(d3.e != 0)=false:=by simp[hz]
      have Hz:=qq hz;clear hz
      obtain⟨hci,hlaw⟩:dj.e=0∧(d3=dj∧s.cons.length<100∧c.fields.length≤8∧conE s n x.params c=match fieldsE s.datas x.params c.p c.fields with
        | .error g=>.error g
        | .ok fs=>.ok (addCon s n ⟨c.name,n,fs.map (·.2),fs.map (·.1)⟩)):=by
       have h3:=Hz.out;rw[← Hd3.out] at h3;obtain⟨h2,_⟩:=failD_zero h3 (by decide);obtain⟨h1,_⟩:=failD_zero h2 (by decide);obtain⟨h0,_⟩:=failD_zero h1 (by decide);refine⟨h0,?_⟩
       rcases con_law s n x.params c dj b1 b2 b3 h0 Hb1.out Hb2.out Hb3.out with ⟨q,_⟩ | q
       · exact absurd h3 q
       · rw[Hd3.out] at q; exact q
      obtain⟨hdj,hl100,hl8,hcE⟩:=hlaw;have Hci:=qq hci;have Hdj:=qq hdj;have HcE:=qq hcE
      have hnf8:nf≤8:=by omega
      have hbu:But g w2 w8:=(((((But.of Hb23.out).trans Huw4.out).then Hb45.out).then Hq6.out).trans Huw7.out).trans Huw8.out
      have hBw:B≤w2.heap.size:=by have:=Hws2.out; omega
      have Hf8:=qq (Hf1.out.below (hbu.below hBg hBw))
      have hlow:=Hc9.out.low hBg (by omega) (fun b e=>by have:=(Hrows.out b e).1; omega)
      have Hp8:=qq (HP.out.below hlow);have h28:w2.heap.size≤w8.heap.size:=hbu.size;have h2r:w2.heap.size=wo.heap.size+1:=Hws2.out;clear hci hdj hcE hbu hlow Hb23 Huw4 Hb45 Hq6 Huw7 Huw8 Hf1;go_wp2_with fail;clear c2 c3 c4 c5 c6 m0 m1 m2;clear q0 q1 q2 q3 q4
      go_loopg [10,72] nf (fun gh v10 i wf=>∃ (k:Nat) (fs:List (Int × TyD)) (A5:Option Addr) (c5:Nat) (d4:DiagD),fs.length=k∧k≤nf∧gh=nf - k∧v10=.slice A5 k c5∧i=.int .i64 (k:Nat)∧FdS w8 g (.slice Ad nd cd) (.slice v1 ncs A1) fs A5 c5 d4 wf∧FoldP (fieldS s.datas x.params c.p) [] d3 (c.fields.take k) fs d4)
      case atStart=>exact⟨0,[],none,0,d3,rfl,Nat.zero_le _,rfl,rfl,rfl,FdS.start Hc9.out.bk,FoldP.nil⟩
      case round=>
       obtain⟨k,fs,A5,c5,d4,hfk,hk,rfl,rfl,rfl,hfd,hFF⟩:=hrel;obtain⟨wf,hwf⟩:∃ q,q=wr:=⟨_,rfl⟩;subst hwf
       by_cases hkn:k<nf
       · have d0:decide (k<nf)=true:=by simpa using hkn
         have hk':k<c.fields.length:=by omega
         have hB8:B≤w8.heap.size:=by omega
         obtain⟨b',off',rfl,hbS',hcc'⟩:=fieldsW_at (Hf8.out.below (hfd.bu.below hBg hB8)) (by omega);obtain⟨e0,e1,e2,e3,e4,e5,e6,At,mt,ct,e7,ht⟩:=hcc' k hk';have hst:c.fields.take (k+1)=c.fields.take k++[c.fields[k]]:=List.take_succ_eq_append_getElem hk';obtain⟨f,hf⟩:∃ q,c.fields[k]=q:=⟨_,rfl⟩;rw[hf] at e0 e1 e2 e3 e4 e5 e6 ht hst
         have k3:(0:Int)≤(k:Int):=by omega
         have k4:(k:Int)<nf:=by omega
         have hbx:=below_box (w:=wf) (Obj.cells (fldC f At mt ct) 97);have hkx:=blk_new wf (fldC f At mt ct) 97;have hfd1:=hfd.below hbx
         have ht1:=ht.below (hbx.mono (show B≤wf.heap.size by have:=hfd.bu.size; omega))
         obtain⟨w10,hw10⟩:∃ q,wf.alloc (Obj.cells (fldC f At mt ct) 97)=q:=⟨_,rfl⟩;have hfz:w8.heap.size≤wf.heap.size:=hfd.bu.size;rw[hw10] at hkx hfd1 ht1;unfold fldC at hw10;have Hw10:=qq hw10;have H10:=qq hfd1;have K10:=qq hkx;have T10:=qq ht1;have HFF:=qq hFF;have Hst2:=qq hst;have Hfk:=qq hfk;have Kc10:=qq (Hk8.out.but hfd1.bu hgc);clear hfd hbx hkx hfd1 ht ht1 hFF hst hcc' hf hw10 hfk;go_upto_region 14 with fail;rw[Hw10.out];clear e0 e1 e2 e3 e4 e5 e6 e7
         go_cut [] (fun wx=>∃ bm,(bm=true↔f.m<1∨3<f.m)∧FdS w8 g (.slice Ad nd cd) (.slice v1 ncs A1) fs A5 c5 (failD d4 bm 2 c.p) wx∧But g w10 wx)
         case first=>
          obtain⟨q0,q1,q2,q3,q4⟩:=box5 (Kc10.out);have x0:w10.cell? ⟨wf.heap.size,0,none⟩=some (.int .u8 f.m):=K10.out.cell 0
          by_cases g1:f.m<1
          · have e1:decide (f.m<1)=true:=by simpa using g1
            have G1:=qq g1;clear g1;go_wp2_with fail;clear x0;clear q0 q1 q2 q3 q4;refine(fail_any g _ _ _ true 2 c.p w10 H10.out.bk).mono ?_;rintro e w11 ⟨rfl,hk9,hu9⟩;have hn9:=H10.out.diag hk9 hu9;have H11:=qq hn9;have Huw11:=qq hu9;clear hk9 hu9 hn9;go_wp2_with fail;go_meet;exact⟨true,⟨fun _=>Or.inl G1.out,fun _=>rfl⟩,H11.out,Huw11.out⟩
          · have e1:decide (f.m<1)=false:=by simpa using g1
            obtain⟨bm,hbm⟩:∃ q,decide (f.m>3)=q:=⟨_,rfl⟩
            have G1:Hid (bm=true↔f.m<1∨3<f.m):=qq (by rw[← hbm]; simp; omega)
            clear g1;go_wp2_with fail;clear x0;clear q0 q1 q2 q3 q4;refine(fail_any g _ _ _ bm 2 c.p w10 H10.out.bk).mono ?_;rintro e w11 ⟨rfl,hk9,hu9⟩;have hn9:=H10.out.diag hk9 hu9;have H11:=qq hn9;have Huw11:=qq hu9;clear hk9 hu9 hn9;go_wp2_with fail;go_meet;exact⟨bm,G1.out,H11.out,Huw11.out⟩
         case rest=>
          obtain⟨bm,hbm,h11,hu11⟩:=hcut;obtain⟨w11,hw11⟩:∃ q,q=wc:=⟨_,rfl⟩;subst hw11;have Hbm:=qq hbm;have H11:=qq h11;have Hu11:=qq hu11
          have hgf:wf.heap.size≠g:=by omega
          have K11:=qq (K10.out.but hu11 hgf);have Kc11:=qq (Kc10.out.but hu11 hgc);have hbu11:=h11.bu;have hlow11:=hbu11.below hBg hB8;have hgl11:=h11.bk.lt
          have T11:=T10.out.below (hu11.below hBg (by have:=K10.out.lt; omega))
          have hd11:=Hc9.out.diag hR h11.bk hbu11
          have hoff:∀ b,b<B→Off g w11 b:=fun b hb=>⟨by have:=hbu11.size; omega,by omega⟩
          have hdsl:Sl w11 (Off g w11) encDt 3 s.datas Ad nd cd:=by
           have h:=(show SigM w11 base R s (.slice Ad nd cd) (.slice v1 ncs A1) vs from hd11.sm).dsl (S:=Off g w11) (fun b hb=>⟨(hd11.sm.rowB hb).2,fun e=>hd11.no (e ▸ hb)⟩)
           rw[Hsl.out] at h;exact h
          have hq:=ty_go s.datas x.params Ap np cp Ad nd cd (.slice v1 ncs A1) g hd11.sb.pr _ f.t (Nat.le_refl _) At mt ct (failD d4 bm 2 c.p) w11 (T11.mono hoff) hdsl ((Hp8.out.below hlow11).mono hoff) h11.bk;obtain⟨d5,hd5⟩:∃ q,failD d4 bm 2 c.p=q:=⟨_,rfl⟩;have hdc5:w11.cell? ⟨w.heap.size,5,none⟩=some (.slice Ap np cp):=hd11.c.2.2.2.1;have hdw:w.heap.size<w11.heap.size:=hd11.bb.lt;rw[hd5] at hq;have Hq:=qq hq;have Hd5:=qq hd5;clear hbm h11 hu11 K10 Kc10 T11 hd11 hoff hdsl hq hd5 hlow11;go_upto_region 15 with fail;have x1:w11.cell? ⟨wf.heap.size,1,none⟩=some (.int .u8 f.t.k):=K11.out.cell 1;have x2:w11.cell? ⟨wf.heap.size,2,none⟩=some (.string f.t.s):=K11.out.cell 2;have x3:w11.cell? ⟨wf.heap.size,3,none⟩=some (.int .u8 f.t.m):=K11.out.cell 3;have x4:w11.cell? ⟨wf.heap.size,4,none⟩=some (.int .i64 f.t.p.at_):=K11.out.cell 4;have x5:w11.cell? ⟨wf.heap.size,5,none⟩=some (.int .i64 f.t.p.line):=K11.out.cell 5;have x6:w11.cell? ⟨wf.heap.size,6,none⟩=some (.int .i64 f.t.p.col):=K11.out.cell 6;have x7:w11.cell? ⟨wf.heap.size,7,none⟩=some (.slice At mt ct):=K11.out.cell 7;go_wp2_with fail;clear x1 x2 x3 x4 x5 x6 x7 hdc5;refine Hq.out.mono ?_;rintro e w12 ⟨y,A7,m7,c7,d6,rfl,h7,hk7,hd7,hp7,hu7⟩;have H11':=H11.out;rw[Hd5.out] at H11';have hown:∀ b,(Value.slice A5 fs.length c5).ownBlock=some b→b<w11.heap.size:=fun b e=>(H11'.ow.lt' e).2;have hfd12:=H11'.diag hk7 hu7;have hk12:=K11.out.but hu7 hgf;have hkc12:=Kc11.out.but hu7 hgc;have hu12:=hu7.size;have Hd7:=qq hd7;have Hp7:=qq hp7;have Hown:=qq hown;have hbx:=below_box (w:=w12) (Obj.cells #[.int .u8 y.k,.int .i64 y.n,.int .i64 y.v,.int .u8 y.c,.slice A7 m7 c7] 63);have hkx:=blk_new w12 #[.int .u8 y.k,.int .i64 y.n,.int .i64 y.v,.int .u8 y.c,.slice A7 m7 c7] 63;have H13:=qq (hfd12.below hbx);have K13:=qq (hk12.below hbx hk12.lt);have Kc13:=qq (hkc12.below hbx hkc12.lt);have T13:Hid (TysS (w12.alloc (Obj.cells #[.int .u8 y.k,.int .i64 y.n,.int .i64 y.v,.int .u8 y.c,.slice A7 m7 c7] 63)) (fun b=>w11.heap.size≤b∧b<w12.heap.size) A7 m7 c7 y.l):=qq (tysS_sl.2 ((tysS_sl.1 h7).keep (fun _ h=>h) fun p hp=>hbx.cell hp.2))
          have hbs:(w12.alloc (Obj.cells #[.int .u8 y.k,.int .i64 y.n,.int .i64 y.v,.int .u8 y.c,.slice A7 m7 c7] 63)).heap.size=w12.heap.size+1:=by simp
          obtain⟨w13,hw13⟩:∃ q,w12.alloc (Obj.cells #[.int .u8 y.k,.int .i64 y.n,.int .i64 y.v,.int .u8 y.c,.slice A7 m7 c7] 63)=q:=⟨_,rfl⟩;rw[hw13] at hkx H13 K13 Kc13 T13 hbs;have Kt13:=qq hkx;have Hw13:=qq hw13
          have hgt:w12.heap.size≠g:=by have:=hfd12.bk.lt; omega
          clear h7 hk7 hd7 hp7 hu7 H11' hown hfd12 hk12 hkc12 hbx hkx hw13 H11 K11 Kc11 Hu11 Hq;go_upto_region 16 with fail;rw[Hw13.out]
          go_cut [] (fun wx=>∃ b16,(d6.e=0→b16=bigT y)∧FdS w8 g (.slice Ad nd cd) (.slice v1 ncs A1) fs A5 c5 (failD d6 b16 3 c.p) wx∧But g w13 wx)
          case first=>
           obtain⟨q0,q1,q2,q3,q4⟩:=box5 (Kc13.out);obtain⟨t0,t1,t2,t3,t4⟩:=box5 (Kt13.out);have m2:w13.cell? ⟨g,2,none⟩=some (.int .i64 d6.e):=H13.out.bk.cell 2;refine wp_region_noPanic ?_;refine wp_region_T (fun w'=>w'.cell? ⟨g,2,none⟩=some (.int .i64 d6.e)∧w'.cell? ⟨w12.heap.size,0,none⟩=some (.int .u8 y.k)∧w'.cell? ⟨w12.heap.size,1,none⟩=some (.int .i64 y.n)∧w'.cell? ⟨w12.heap.size,2,none⟩=some (.int .i64 y.v)∧w'.cell? ⟨w12.heap.size,3,none⟩=some (.int .u8 y.c)∧w'.cell? ⟨w12.heap.size,4,none⟩=some (.slice A7 m7 c7)∧w'.cell? ⟨wo.heap.size,1,none⟩=some (.int .i64 c.p.at_)∧w'.cell? ⟨wo.heap.size,2,none⟩=some (.int .i64 c.p.line)∧w'.cell? ⟨wo.heap.size,3,none⟩=some (.int .i64 c.p.col)) 14 (by kernel_rfl) ⟨m2,t0,t1,t2,t3,t4,q1,q2,q3⟩ (fun hHeld=>?_);clear q0 q1 q2 q3 q4;clear t0 t1 t2 t3 t4 m2;have Hb14:=qq (Below.drew (Below.refl w13.heap.size w13));have H14:=qq (H13.out.below Hb14.out);have Kc14:=qq (Kc13.out.below Hb14.out Kc13.out.lt);have Kt14:=qq (Kt13.out.below Hb14.out Kt13.out.lt);have T14:Hid (TysS w13.drew (fun b=>w11.heap.size≤b∧b<w12.heap.size) A7 m7 c7 y.l):=qq (tysS_sl.2 ((tysS_sl.1 T13.out).keep (fun _ h=>h) fun _ _=>rfl))
           have hs14:w12.heap.size<w13.drew.heap.size:=by show w12.heap.size<w13.heap.size; omega
           generalize w13.drew=w14 at hHeld Hb14 H14 Kc14 Kt14 T14 hs14 ⊢
           by_cases hz6:d6.e=0
           · have z6:(d6.e==0)=true:=by simp[hz6]
             clear hz6;refine nx0 0 ?_
             iterate 9 (refine nxD (v:=?_) rfl (by kernel_rfl) (fun _ _ _ h=>h) (by kernel_rfl) ?_ (by assumption) ?_; rotate_left; (focus (intro w hSw; (try dsimp only at hSw); first | (go_simp; done) | (go_simp; with_reducible rfl))); try simp only[Act.put,qg,qe,qf,qd,qh,qi,Nat.reduceAdd])
             refine nx9 ?_;refine nx0 12 ?_
             iterate 2 (refine nxD (v:=?_) rfl (by kernel_rfl) (fun _ _ _ h=>h) (by kernel_rfl) ?_ (by assumption) ?_; rotate_left; (focus (intro w hSw; (try dsimp only at hSw); first | (go_simp; done) | (go_simp; with_reducible rfl))); try simp only[Act.put,qg,qe,qf,qd,qh,qi,Nat.reduceAdd])
             refine nx9 ?_;obtain⟨sz,hsz⟩:∃ q,sizeW y=q:=⟨_,rfl⟩
             have hsq:=size_any y (.agg #[.int .u8 y.k,.int .i64 y.n,.int .i64 y.v,.int .u8 y.c,.slice A7 m7 c7]) w14 ⟨A7,m7,c7,rfl,tysS_lt.1 (T14.out.mono fun b hb=>by omega)⟩
             rw[hsz] at hsq;obtain⟨b16,hb16⟩:∃ q,decide (sz>300)=q:=⟨_,rfl⟩
             have Hb16:Hid (b16=bigT y):=qq (by rw[← hb16]; unfold bigT; rw[hsz])
             have Hsq:=qq hsq;clear hsq hsz;refine wpAnyT_step (i:=9) (by kernel_rfl) rfl (fun K hK=>?_)
             (go_simp; refine Hsq.out.mono ?_; rintro e w15 ⟨rfl,hq15⟩; have H15:=qq (H14.out.below hq15); have Kc15:=qq (Kc14.out.below hq15 Kc14.out.lt); have Kt15:=qq (Kt14.out.below hq15 Kt14.out.lt); obtain⟨q0,q1,q2,q3,q4⟩:=box5 Kc15.out; obtain⟨t0,t1,t2,t3,t4⟩:=box5 Kt15.out; have m2:w15.cell? ⟨g,2,none⟩=some (.int .i64 d6.e):=H15.out.bk.cell 2; replace hHeld:=And.intro m2 (And.intro t0 (And.intro t1 (And.intro t2 (And.intro t3 (And.intro t4 (And.intro q1 (And.intro q2 q3))))))); have Hq15:=qq hq15; clear hq15 q0 q1 q2 q3 q4 t0 t1 t2 t3 t4 m2)
             refine hK.out _ _ hHeld ?_;clear hK K
             try simp only[Act.put,qg,qe,qf,qd,qh,qi]
             refine nx0 10 ?_
             iterate 2 (refine nxD (v:=?_) rfl (by kernel_rfl) (fun _ _ _ h=>h) (by kernel_rfl) ?_ (by assumption) ?_; rotate_left; (focus (intro w hSw; (try dsimp only at hSw); first | (go_simp; done) | (go_simp; with_reducible rfl))); try simp only[Act.put,qg,qe,qf,qd,qh,qi,Nat.reduceAdd])
             refine nx9 ?_;refine wpAnyT_seq 14 (by omega) (by rfl) (by kernel_rfl) ?_;simp only[List.drop_succ_cons,List.drop_zero];clear hHeld;go_wp2_with fail;refine(fail_any g _ _ _ b16 3 c.p w15 H15.out.bk).mono ?_;rintro e w16 ⟨rfl,hk9,hu9⟩;have hn9:=H15.out.diag hk9 hu9;have H16:=qq hn9;have Huw16:=qq hu9;clear hk9 hu9 hn9;go_wp2_with fail;refine NoPanic.normal ?_;go_wp2_with fail;go_meet;exact⟨b16,fun _=>Hb16.out,H16.out,((But.of Hb14.out).then Hq15.out).trans Huw16.out⟩
           · have z6:(d6.e==0)=false:=by simpa using hz6
             have Hz6:=qq hz6;clear hz6;refine nx0 0 ?_
             iterate 8 (refine nxD (v:=?_) rfl (by kernel_rfl) (fun _ _ _ h=>h) (by kernel_rfl) ?_ (by assumption) ?_; rotate_left; (focus (intro w hSw; (try dsimp only at hSw); first | (go_simp; done) | (go_simp; with_reducible rfl))); try simp only[Act.put,qg,qe,qf,qd,qh,qi,Nat.reduceAdd])
             refine nx9 ?_;refine nx0 8 ?_
             iterate 3 (refine nxkD rfl (by kernel_rfl) (fun _ _ _ h=>h) (by kernel_rfl) (by assumption) ?_; try simp only[Act.put,qg,qe,qf,qd,qh,qi,Nat.reduceAdd])
             refine nx9 ?_;refine nx0 11 ?_
             iterate 3 (refine nxD (v:=?_) rfl (by kernel_rfl) (fun _ _ _ h=>h) (by kernel_rfl) ?_ (by assumption) ?_; rotate_left; (focus (intro w hSw; (try dsimp only at hSw); first | (go_simp; done) | (go_simp; with_reducible rfl))); try simp only[Act.put,qg,qe,qf,qd,qh,qi,Nat.reduceAdd])
             refine nx9 ?_;refine wpAnyT_seq 14 (by omega) (by rfl) (by kernel_rfl) ?_;simp only[List.drop_succ_cons,List.drop_zero];clear hHeld;go_wp2_with fail;refine(fail_any g _ _ _ false 3 c.p w14 H14.out.bk).mono ?_;rintro e w16 ⟨rfl,hk9,hu9⟩;have hn9:=H14.out.diag hk9 hu9;have H16:=qq hn9;have Huw16:=qq hu9;clear hk9 hu9 hn9;go_wp2_with fail;refine NoPanic.normal ?_;go_wp2_with fail;go_meet;exact⟨false,fun q=>absurd q Hz6.out,H16.out,(But.of Hb14.out).trans Huw16.out⟩
          case rest=>
           obtain⟨b16,hb16,h16,hu16⟩:=hcut;obtain⟨w16,hw16⟩:∃ q,q=wc:=⟨_,rfl⟩;subst hw16;have Hb16:=qq hb16;have H16:=qq h16;have K16:=K13.out.but hu16 hgf;have Kt16:=Kt13.out.but hu16 hgt
           have hs16:w12.heap.size<w16.heap.size:=by have:=hu16.size; omega
           have hfl:=field_law Hbm.out Hd5.out.symm Hd7.out Hp7.out hb16 rfl fs
           have hFn:FoldP (fieldS s.datas x.params c.p) [] d3 (c.fields.take (k+1)) (fs++[(f.m,y)]) (failD d6 b16 3 c.p):=by
            rw[Hst2.out]
            by_cases h4:d4.e=0
            · obtain⟨r1,r2⟩:=hfl.1 h4
              exact HFF.out.go (fieldS_ne _ _ _) h4 r1 r2
            · rw[hfl.2 h4]
              exact HFF.out.stop h4 _
           have HFn:=qq hFn
           have hcV:CelsV w16 (fun b=>b<w16.heap.size∧some b≠(Value.slice A5 k c5).ownBlock∧¬ b<w8.heap.size) (encFt (f.m,y)) [.int .u8 f.m,.int .u8 y.k,.int .i64 y.n,.int .i64 y.v,.int .u8 y.c,.slice A7 m7 c7]:=⟨celIn_v.2 rfl,tyC (tysS_sl.2 ((tysS_sl.1 T13.out).keep (fun q hq=>by
            obtain⟨hq1,hq2⟩:=hq
            refine⟨by omega,fun e=>?_,by have:=hbu11.size; omega⟩
            have:=Hown.out q (by rw[Hfk.out]; exact e.symm)
            omega) fun p hp=>hu16.cell (by have:=hp.2; have:=Kt13.out.lt; omega) (by have:=hp.1; omega)))⟩
           have HcV:=qq hcV;have y0:w16.cell? ⟨wf.heap.size,0,none⟩=some (.int .u8 f.m):=K16.cell 0;obtain⟨t0,t1,t2,t3,t4⟩:=box5 Kt16;have hwo:=h16.ow;rw[Hfk.out] at hwo;have Hwo:=qq hwo;obtain⟨i0,hi0,hz0,hz1,hz2⟩:=info_parts fieldInfo;have hs8:w8.heap.size≤w16.heap.size:=h16.bu.size;clear hb16 h16 hu16 K16 Kt16 hfl hFn hcV hwo HFF
           go_wp2_with (at_builtin; refine wpList_append_cel (B0:=w8.heap.size) w16 w16 rfl (.tmp 109) (.tmp 114) 141 rfl w8.heap.size 109 i0 _ 6 64 Tryd.underlying141 hi0 hz0 hz1 hz2 rfl (by omega) (fun b=>b<w8.heap.size) (.slice A5 k c5) k _ rfl [.int .u8 f.m,.int .u8 y.k,.int .i64 y.n,.int .i64 y.v,.int .u8 y.c,.slice A7 m7 c7] _ rfl (by intro u hu; simp at hu; rcases hu with rfl | rfl | rfl | rfl | rfl | rfl <;> rfl) rfl Hwo.out HcV.out (by unfold maxLen; omega) (by omega) ⟨rfl,rfl,rfl,Nat.le_refl _,fun _ _=>rfl⟩ (Nat.le_refl _) hs8 ?_; intro A8 c8 w17 ho8 hbel8 hg8 hsz8 hn8)
           have hpush:=H16.out.push (f.m,y) (A6:=A8) (c6:=c8) (by rw[Hfk.out]; exact ho8) (by rw[Hfk.out]; exact hg8)
           have Hpush:=qq hpush;clear ho8 hbel8 hg8 hsz8 hn8 hpush y0 t0 t1 t2 t3 t4;go_wp2_with fail;go_roundg (nf - (k+1))
           case measure=>omega
           case rel=>exact⟨k+1,fs++[(f.m,y)],A8,c8,_,by rw[List.length_append,Hfk.out]; rfl,by omega,rfl,rfl,by go_num,Hpush.out,HFn.out⟩
       · have d0:decide (k<nf)=false:=by simpa using hkn
         obtain rfl:k=nf:=by omega
         have hall:c.fields.take k=c.fields:=List.take_of_length_le (by omega);rw[hall] at hFF;obtain⟨r1,r2⟩:=con_end (s:=s) (n:=n) (ps:=x.params) (c:=c) Hz.out HcE.out hFF;have hd9:=Hc9.out.diag hR hfd.bk hfd.bu;have hkc:=Hk8.out.but hfd.bu hgc;have hfz:w8.heap.size≤wf.heap.size:=hfd.bu.size
         have hsl:=(hfd.ow.cel (R':=fun b=>b<w8.heap.size) (fun _ h=>h) (fun b hb h=>by omega))
         rw[hfk] at hsl;obtain⟨A',m',c',e',hsl'⟩:=(sl_iff encFt_len (by omega)).1 hsl
         injection e' with e1 e2 e3
         subst e1; subst e2; subst e3
         have hrow8:∀ b,RowB (.slice Ad nd cd) (.slice v1 ncs A1) vs b→b<w8.heap.size:=fun b e=>(Hc9.out.sm.rowB e).2;have hw8:w.heap.size<w8.heap.size:=Hc9.out.bb.lt
         have hcq:=con_any g base R s (.slice Ad nd cd) (.slice v1 ncs A1) vs d4 n c.name fs A5 k c5 wf hfd.bk hd9.sm hd9.no hR (fun b h=>by have:=HRb.out b h; omega) (hsl'.mono fun b hb=>by
          obtain⟨hb1,hb2⟩:=hb;refine⟨hb1,fun q=>?_,fun q=>?_⟩
          · rcases q with q | q | q
            · have:=HRb.out b q; omega
            · have:=hrow8 b (Or.inl q); omega
            · have:=hrow8 b (Or.inr (Or.inr q)); omega
          · have:=hrow8 b (Or.inr (Or.inl q.symm)); omega) (by rw[Hsl.out]; exact hn) (by omega) (by omega) (fun z hz=>by have:=hd9.sb.nm z hz; have:=hd9.sb.ln; omega) (by omega) hd9.sb.dl
         have Hcq:=qq hcq;have Hd9:=qq hd9;have hcn0:wf.cell? ⟨wo.heap.size,0,none⟩=some (.string c.name):=hkc.cell 0
         have hFo:FoldP (fun s c=>conE s n x.params c) s0 (failD d b0 2 x.p) (x.cons.take (j+1)) (addCon s n ⟨c.name,n,fs.map Prod.snd,fs.map Prod.fst⟩) d4:=by
          rw[Hst.out];refine HF.out.go (fun _ _ _=>conE_ne) Hci.out ?_ r2;rw[← Hdj.out];exact r1
         have HFo:=qq hFo;clear hall hFF r1 r2 hd9 hkc hsl hsl' hcq hFo HF;go_wp2_with fail;clear hcn0;refine Hcq.out.mono ?_;rintro e w18 ⟨rfl,vc',vn,hk18,hs18,hb18,hr18⟩
         have hcn:=Hd9.out.con (by omega) (n:=n) (c:=⟨c.name,n,fs.map Prod.snd,fs.map Prod.fst⟩) (vc':=vc') (vn:=vn) hl100 hk18 hs18 hb18 hr18 (by have:=hfd.gw; omega) (fun b e=>(Hrows.out b e).2)
         have Hcn:=qq hcn
         have hs18:w.heap.size<w18.heap.size:=by have:=hb18.size; omega
         clear hcn hk18 hb18 hr18;go_wp2_with fail;go_roundg (nc - (j+1))
         case measure=>omega
         case rel=>exact⟨j+1,_,vc',_,d4,by omega,rfl,by go_num,hs18,Hcn.out,HFo.out,by rw[addCon_datas]; exact Hsl.out⟩
    · have dz:(d3.e != 0)=true:=by simpa using hz
      have hstop:=con_stop (r:=x.cons.drop (j+1)) HF.out Hb1.out Hb2.out Hb3.out Hd3.out.symm hz;rw[Hrs.out] at hstop;have HQ:=qq (Hc9.out.post Hh0.out Hb0.out hstop (Hsl.out.trans Hnd.out.symm));clear hz hstop;go_wp2_with fail;clear c2 c3 c4 c5 c6 m0 m1 m2;clear q0 q1 q2 q3 q4
      go_end0
      exact HQ.out
  · have d0:decide (j<nc)=false:=by simpa using hjn
    have hall:x.cons.take j=x.cons:=List.take_of_length_le (by omega);rw[hall] at hF;have HQ:=qq (hcn.post Hh0.out Hb0.out hF (hsl.trans Hnd.out.symm));clear hcn hF hsl hall;go_wp2_with fail
    go_end0
    exact HQ.out
end Go.Proofs.YtgpeijkjmkocgaaDoor
