import Derived.Test.YtgpeijkjmkocgaaDoorM36
set_option linter.unusedVariables false
set_option linter.unusedSimpArgs false
set_option maxHeartbeats 8000000
set_option maxRecDepth 100000
namespace Go.Proofs.YtgpeijkjmkocgaaDoor
open Go.RowKit
theorem refCheck_any (A:Option Addr) (n c:Nat) (l:List DeclD) (w:World) (hl:Sl w (Lt w.heap.size) encD 16 l A n c) (h1:∀ d∈l,d.one) (hbig:n * 208≤140737488355328):
  Calls Tryd.prog 21 #[.slice A n c] w (CheckPost l w):=by
 obtain⟨wz,hwz,hbz,hz0,hz1,hsz⟩:∃ wz,(w.alloc (Obj.cells #[.slice none 0 0,.slice none 0 0] 25)).alloc (Obj.cells #[.int .i64 0,.int .i64 0,.int .i64 0,.int .i64 0] 30)=wz∧Below w.heap.size w wz∧Blk wz w.heap.size 25 #[.slice none 0 0,.slice none 0 0]∧Blk wz (w.heap.size+1) 30 #[.int .i64 0,.int .i64 0,.int .i64 0,.int .i64 0]∧wz.heap.size=w.heap.size+1+1:=by
  have g1:=below_box (w:=w) (Obj.cells #[.slice none 0 0,.slice none 0 0] 25);have k1:=blk_new w #[.slice none 0 0,.slice none 0 0] 25;obtain⟨wa,ha⟩:∃ q,w.alloc (Obj.cells #[.slice none 0 0,.slice none 0 0] 25)=q:=⟨_,rfl⟩
  have sa:wa.heap.size=w.heap.size+1:=by rw[← ha]; simp
  rw[ha] at g1 k1 ⊢;have g2:=below_box (w:=wa) (Obj.cells #[.int .i64 0,.int .i64 0,.int .i64 0,.int .i64 0] 30);have k2:=blk_new wa #[.int .i64 0,.int .i64 0,.int .i64 0,.int .i64 0] 30;rw[sa] at k2
  exact⟨_,rfl,g1.trans (g2.mono g1.size),k1.below g2 k1.lt,k2,by rw[World.size_alloc,sa]⟩
 have hlen:=hl.len;have n63:n≤9223372036854775807:=hl.cap;have HWz:=qq hwz;have Hbz:=qq hbz;have Hz0:=qq hz0;have Hz1:=qq hz1;have HL:=qq hl;have H1:=qq h1;clear hwz hbz hz0 hz1 hl h1
 go_enter Tryd.func21,Tryd.ntmps21
 go_upto_region 1 with fail;rw[HWz.out];go_wp2_with fail;refine(refGivenM_any wz).mono ?_;rintro e w2 ⟨Ad,cd,Ac,cc,vs0,rfl,hsm,hb2⟩;go_upto_region 2 with fail;have hbx:=below_box (w:=w2) (Obj.cells #[.slice Ad 9 cd,.slice Ac 15 cc] 25);have hkx:=blk_new w2 #[.slice Ad 9 cd,.slice Ac 15 cc] 25;obtain⟨w3,hw3⟩:∃ q,w2.alloc (Obj.cells #[.slice Ad 9 cd,.slice Ac 15 cc] 25)=q:=⟨_,rfl⟩;rw[hw3] at hbx hkx ⊢;obtain⟨g,hg⟩:∃ q,w2.heap.size=q:=⟨_,rfl⟩
 have hrk:RKs wz g w.heap.size (.slice none 0 0) 0 [] givenS (.slice Ad 9 cd) (.slice Ac 15 cc) vs0 w3:=by
  rw[← hg]
  refine⟨hkx,((hsm.weak (R':=fun b=>b<wz.heap.size∨b=w2.heap.size∨(Value.slice none 0 0).ownBlock=some b) (fun b hb e=>?_)).base (by omega)).below hbx,fun e=>by have:=(hsm.rowB e).2; omega,fun b e=>absurd e (by simp[Value.ownBlock]),⟨rfl,[],World.ownsRow_nil _ _ _ _,fun i h=>absurd h (by simp)⟩,hb2.trans (hbx.mono hb2.size),hb2.size,Hbz.out.size⟩
  rcases e with e | e | e
  · omega
  · omega
  · cases e
 rw[hg];have HR0:=qq hrk;have hgz:wz.heap.size≤g:=hrk.gz;clear hbx hkx hsm hb2 hw3 hg hrk HWz;go_wp2_with fail
 go_loopg [5,6] n (fun gh so i wr=>∃ (k:Nat) (Ao:Option Addr) (co:Nat) (s:SigD) (Ad:Option Addr) (cd:Nat) (Ac:Option Addr) (cc:Nat) (vs:List Value),k≤n∧gh=n - k∧so=.slice Ao (ownL (l.take k)).length co∧i=.int .i64 (k:Nat)∧RKs wz g w.heap.size (.slice Ao (ownL (l.take k)).length co) (ownL (l.take k)).length (ownL (l.take k)) s (.slice Ad s.datas.length cd) (.slice Ac s.cons.length cc) vs wr∧Heads (ownL (l.take k)) s)
 case atStart=>
  refine⟨0,none,0,givenS,Ad,cd,Ac,cc,vs0,Nat.zero_le _,rfl,rfl,rfl,?_,Heads.nil⟩;rw[given_datas,given_cons];exact HR0.out
 case round=>
  clear HR0;obtain⟨k,Ao,co,s,Ad,cd,Ac,cc,vs,hk,rfl,rfl,rfl,hrk,hhd⟩:=hrel;obtain⟨wo,hwo⟩:∃ q,q=wr:=⟨_,rfl⟩;subst hwo;have HR:=qq hrk;have HH:=qq hhd;have hd40:=hhd.le
  have hlk:(ownL (l.take k)).length≤k:=Nat.le_trans (List.length_filter_le _ _) (by rw[List.length_take]; omega)
  obtain⟨J,hJ⟩:∃ J,(ownL (l.take k)).length=J:=⟨_,rfl⟩;rw[hJ] at HR hlk ⊢;have HJ:=qq hJ;clear hrk hhd hJ
  by_cases hkn:k<n
  · have d0:decide (k<n)=true:=by simpa using hkn
    have hk':k<l.length:=by omega
    obtain⟨b,off,rfl,hb,hc⟩:=decl_at HL.out (by omega);replace hb:b<w.heap.size:=hb;obtain⟨Ap,np,cp,Ac2,nc,cc2,hrg,hp,hcs⟩:=hc k hk';have h1c:=H1.out _ (List.getElem_mem hk');have hno:=fun h=>ownL_take_not hk' h;have hye:=fun h=>ownL_take_own hk' h;have herr:=fun(h:l[k].k≠2) (hx:headN s l[k]≠0)=>HH.out.err hk' h hx;obtain⟨x,hx⟩:∃ x,l[k]=x:=⟨_,rfl⟩;rw[hx] at hrg hp hcs h1c;simp only[hx] at hno hye herr;have hbw:Below w.heap.size w wo:=Hbz.out.trans (HR.out.bel.mono Hbz.out.size);have hrgo:wo.rangeAt b (off+k * 16) (dlCells x Ap np cp Ac2 nc cc2).toList:=range_below hrg hbw;have e0:wo.cell? ⟨b,off+k * 16,none⟩=some (.int .u8 x.k):=hrgo 0 _ rfl;have e1:wo.cell? ⟨b,off+k * 16+1,none⟩=some (.string x.name):=hrgo 1 _ rfl;have e2:wo.cell? ⟨b,off+k * 16+2,none⟩=some (.int .i64 x.p.at_):=hrgo 2 _ rfl;have e3:wo.cell? ⟨b,off+k * 16+3,none⟩=some (.int .i64 x.p.line):=hrgo 3 _ rfl;have e4:wo.cell? ⟨b,off+k * 16+4,none⟩=some (.int .i64 x.p.col):=hrgo 4 _ rfl;have e5:wo.cell? ⟨b,off+k * 16+5,none⟩=some (.slice Ap np cp):=hrgo 5 _ rfl;have Hrg:=qq hrg;have Hp:=qq hp;have Hcs:=qq hcs;have H1c:=qq h1c;have Hno:=qq hno;have Hye:=qq hye;have Herr:=qq herr;have Hbw:=qq hbw
    have j1:(0:Int)≤(k:Int):=by omega
    have j2:(k:Int)<n:=by omega
    clear hrg hp hcs h1c hno hye herr hx hc hbw hk'
    by_cases h2:x.k=2
    · have d2:(x.k==2)=true:=by simp[h2]
      have Ho:=qq (Hno.out h2);clear h2 hrgo;go_wp2_with fail;go_roundg (n - (k+1))
      case measure=>omega
      case rel=>exact⟨k+1,Ao,co,s,Ad,cd,Ac,cc,vs,by omega,rfl,by rw[Ho.out,HJ.out],by go_num,by rw[Ho.out,HJ.out]; exact HR.out,by rw[Ho.out]; exact HH.out⟩
    · have d2:(x.k==2)=false:=by simpa using h2
      go_upto_region 7 with fail;obtain⟨y0,y1⟩:=HR.out.c;refine wp_region_noPanic ?_;refine wp_region_T (fun w'=>w'.cell? ⟨g,0,none⟩=some (.slice Ad s.datas.length cd)∧w'.cell? ⟨g,1,none⟩=some (.slice Ac s.cons.length cc)∧w'.rangeAt b (off+k * 16) (dlCells x Ap np cp Ac2 nc cc2).toList∧True) 7 (by kernel_rfl) ⟨y0,y1,hrgo,trivial⟩ (fun hHeld=>?_);have hbd:Below wo.heap.size wo wo.drew:=Below.drew (Below.refl _ _);have HR9:=qq (HR.out.below hbd);have Hb9:=qq (Hbw.out.trans (hbd.mono Hbw.out.size));clear HR y0 y1 hrgo e0 e1 e2 e3 e4 e5 hbd Hbw;generalize wo.drew=w9 at hHeld HR9 Hb9 ⊢;refine nx0 0 ?_
      iterate 4 (refine nx (v:=?_) rfl (by kernel_rfl) (fun _ _ _ h=>h) (by kernel_rfl) ?_ (by assumption) ?_; rotate_left; (focus (intro w hSw; (try dsimp only at hSw); first | (go_simp; done) | (go_simp; with_reducible rfl))); try simp only[Act.put,qg,qe,qf,qd,qh,qi,Nat.reduceAdd])
      refine nx9 ?_;refine wpAnyT_take (i:=4) (v:=.agg (dlCells x Ap np cp Ac2 nc cc2)) rfl (by kernel_rfl) (by kernel_rfl) (by kernel_rfl) (by kernel_rfl) (fun _ _ _ h=>h) (yieldsIf_load_mid (by kernel_rfl) 40 (.tmp 29) rfl b (off+k * 16) (by rfl) (dlCells x Ap np cp Ac2 nc cc2).toList _ (fun w h=>h.2.2.1) Tryd.underlying40 rfl (by kernel_rfl)) (by assumption) ?_
      try simp only[Act.put,qg,qe,qf,qd,qh,qi]
      have HZ:Hid (HeldK g (.slice Ad s.datas.length cd) (.slice Ac s.cons.length cc) b (off+k * 16) (dlCells x Ap np cp Ac2 nc cc2).toList w9):=qq hHeld;have Hq:=qq (refHead_any s Ad s.datas.length cd Ac s.cons.length cc x Ap np cp Ac2 nc cc2 w9 HR9.out.sig (Hp.out.fresh Hb9.out) hd40);clear hHeld;obtain⟨er,her⟩:∃ q,headN s x=q:=⟨_,rfl⟩;rw[her] at Hq;have Her:=qq her;clear her;refine wpAnyT_step (i:=5) (by kernel_rfl) rfl (fun K hK=>?_)
      (go_simp; refine Hq.out.mono ?_; rintro e w10 ⟨rfl,hb10⟩; have HR10:=qq (HR9.out.below hb10); have Hb10:=qq (Hb9.out.trans (hb10.mono Hb9.out.size)); have HZ10:=qq (HZ.out.below hb10); clear hb10)
      refine hK.out _ _ HZ10.out ?_;clear hK K
      try simp only[Act.put,qg,qe,qf,qd,qh,qi]
      have hHeld:=HZ10.out
      refine wpAnyT_take (i:=6) (v:=?_) rfl (by kernel_rfl) (by kernel_rfl) (by kernel_rfl) (by kernel_rfl) (fun _ _ _ h=>h) (Or.inl ⟨by kernel_rfl,?_⟩) (by assumption) ?_
      rotate_left
      · (intro w hSw; (try dsimp only at hSw); first | (go_simp; done) | (go_simp; with_reducible rfl))
      try simp only[Act.put,qg,qe,qf,qd,qh,qi]
      clear hHeld;refine wpAnyT_seq 7 (by omega) (by rfl) (by kernel_rfl) ?_;simp only[List.drop_succ_cons,List.drop_zero];go_wp2_with fail;refine NoPanic.normal ?_;clear HR9 Hb9 HZ Hq;have hrgo:w10.rangeAt b (off+k * 16) (dlCells x Ap np cp Ac2 nc cc2).toList:=HZ10.out.2.2.1;have e1:w10.cell? ⟨b,off+k * 16+1,none⟩=some (.string x.name):=hrgo 1 _ rfl;have e2:w10.cell? ⟨b,off+k * 16+2,none⟩=some (.int .i64 x.p.at_):=hrgo 2 _ rfl;have e3:w10.cell? ⟨b,off+k * 16+3,none⟩=some (.int .i64 x.p.line):=hrgo 3 _ rfl;have e4:w10.cell? ⟨b,off+k * 16+4,none⟩=some (.int .i64 x.p.col):=hrgo 4 _ rfl;have e5:w10.cell? ⟨b,off+k * 16+5,none⟩=some (.slice Ap np cp):=hrgo 5 _ rfl;clear hrgo
      by_cases hz:er=0
      · have dz:(er != 0)=false:=by simp[hz]
        have hhn:=HH.out.go (Her.out.trans hz);have Hhn:=qq hhn
        have hd40':s.datas.length+1≤40:=by have:=hhn.le; simpa using this
        clear hz hhn;go_upto_region 10 with fail;obtain⟨y0,y1⟩:=HR10.out.c;obtain⟨i0,hi0,hz0,hz1,hz2⟩:=info_parts dataInfo;have hpl:x.params.length=np:=Hp.out.len;refine wp_region_noPanic ?_;refine wp_region_T (fun w'=>w'.cell? ⟨g,0,none⟩=some (.slice Ad s.datas.length cd)∧w'.cell? ⟨b,off+k * 16+1,none⟩=some (.string x.name)∧w'.cell? ⟨b,off+k * 16+5,none⟩=some (.slice Ap np cp)∧True) 16 (by kernel_rfl) ⟨y0,e1,e5,trivial⟩ (fun hHeld=>?_);have hbd:Below w10.heap.size w10 w10.drew:=Below.drew (Below.refl _ _);have HR11:=qq (HR10.out.below hbd);have HZ11:=qq (HZ10.out.below hbd);have Hb11:=qq (Hb10.out.trans (hbd.mono Hb10.out.size));clear HR10 y0 y1 e1 e2 e3 e4 e5 hbd Hb10 HZ10;generalize w10.drew=w11 at hHeld HR11 HZ11 Hb11 ⊢;refine nx0 0 ?_
        iterate 14 (refine nx (v:=?_) rfl (by kernel_rfl) (fun _ _ _ h=>h) (by kernel_rfl) ?_ (by assumption) ?_; rotate_left; (focus (intro w hSw; (try dsimp only at hSw); first | (go_simp; done) | (go_simp; with_reducible rfl))); try simp only[Act.put,qg,qe,qf,qd,qh,qi,Nat.reduceAdd])
        refine nx9 ?_;have HA:Hid (HeldL [(⟨g,0,none⟩,.slice Ad s.datas.length cd),(⟨b,off+k * 16+1,none⟩,.string x.name),(⟨b,off+k * 16+5,none⟩,.slice Ap np cp)] w11):=qq hHeld;have hbx:=below_box (w:=w11) (Obj.cells #[.string x.name,.int .i64 np,.slice none 0 0] 52);have HA12:=qq (HA.out.below hbx);have HR12:=qq (HR11.out.below hbx);have Hrd:=qq (rd_newk w11 [.string x.name,.int .i64 np,.slice none 0 0] 3 rfl 52);have Hbx:=qq hbx;have hgo:some g≠(Value.slice Ad s.datas.length cd).ownBlock:=fun e=>HR11.out.ng (Or.inl e.symm)
        have hbo:some b≠(Value.slice Ad s.datas.length cd).ownBlock:=fun e=>by have:=(HR11.out.sm.rowB (Or.inl e.symm)).1; have:=Hbz.out.size; omega
        have hgl:g<w11.heap.size:=HR11.out.bk.lt;have hs11:=Hb11.out.size;clear hbx hHeld HA;refine wpAnyT_step (i:=14) (by kernel_rfl) rfl (fun K hK=>?_);go_simp;refine hK.out _ _ HA12.out ?_;clear hK K
        try simp only[Act.put,qg,qe,qf,qd,qh,qi]
        refine wpAnyT_step (i:=15) (by kernel_rfl) rfl (fun K hK=>?_)
        (refine step_append_rd _ (by rfl) (.tmp 43) (.tmp 56) 22 (by rfl) wz.heap.size 52 i0 _ 3 48 Tryd.underlying22 hi0 hz0 hz1 hz2 rfl (by omega) (.slice Ad s.datas.length cd) s.datas.length (dCells s.datas vs) (by rfl) HR12.out.sm.od _ _ 1 1 [.string x.name,.int .i64 np,.slice none 0 0] (by rfl) Hrd.out (by intro u hu; simp at hu; rcases hu with rfl | rfl | rfl <;> rfl) (by unfold maxLen; omega) (by omega) HR12.out.bel.size ?_; intro v7 w13 ho7 hg7 hat7; obtain⟨A7,c7,rfl⟩:=ownsRow_form ho7)
        refine hK.out _ _ (HA12.out.blocks (by simp; exact⟨hg7.block g (by simp; omega) hgo,hg7.block b (by simp; omega) hbo⟩)) ?_
        clear hK K
        try simp only[Act.put,qg,qe,qf,qd,qh,qi]
        have hk13:=HR12.out.bk.grown hg7 hgo;have x0:w13.cell? ⟨g,0,none⟩=some (.slice Ad s.datas.length cd):=hk13.cell 0;have fx:=hk13.frozen 0;have hs7:=HR12.out.sm.data ho7 hg7 hat7
        have hg7':¬ RowB (.slice A7 (s.datas.length+1) c7) (.slice Ac s.cons.length cc) (vs++[.slice none 0 0]) g:=fun h=>by
         rcases h with h | h | ⟨v,hv,h⟩
         · rcases hat7 with q | q
           · exact HR11.out.ng (Or.inl (q ▸ h))
           · rw[q] at h
             injection h with h
             simp at h;omega
         · exact HR11.out.ng (Or.inr (Or.inl h))
         · rcases List.mem_append.1 hv with q | q
           · exact HR11.out.ng (Or.inr (Or.inr ⟨v,q,h⟩))
           · rw[List.mem_singleton.1 q] at h
             cases h
        have hnx:=HR11.out.next (hk13.set_ 0 (.slice A7 (s.datas.length+1) c7)) (hs7.setR (p:=⟨g,0,none⟩) hg7' (Or.inr (Or.inl rfl)) (.slice A7 (s.datas.length+1) c7)) (((ButS.of Hbx.out).grown hg7 (fun b e=>Or.inl e)).set (Or.inl rfl) 0 (.slice A7 (s.datas.length+1) c7)) (fun b' h=>by
         rcases h with h | h | ⟨v,hv,h⟩
         · rcases hat7 with q | q
           · exact Or.inl (Or.inl (q ▸ h))
           · rw[q] at h
             injection h with h
             simp at h;exact Or.inr (by omega)
         · exact Or.inl (Or.inr (Or.inl h))
         · rcases List.mem_append.1 hv with q | q
           · exact Or.inl (Or.inr (Or.inr ⟨v,q,h⟩))
           · rw[List.mem_singleton.1 q] at h
             cases h)
        have Hnx:=qq hnx;clear hs7 hg7' hnx ho7 hg7 hat7 hk13 HR11 HR12 Hrd HA12;refine wpAnyT_seq 16 (by omega) (by rfl) (by kernel_rfl) ?_;simp only[List.drop_succ_cons,List.drop_zero];go_wp2_with fail;refine NoPanic.normal ?_;obtain⟨w14,hw14⟩:∃ q,w13.setCell ⟨g,0,none⟩ (.slice A7 (s.datas.length+1) c7)=q:=⟨_,rfl⟩;rw[hw14] at Hnx ⊢;clear x0 fx hw14;have Hb14:Hid (Below w.heap.size w w14):=qq (Hbz.out.trans (Hnx.out.bel.mono Hbz.out.size));have hrg14:w14.rangeAt b (off+k * 16) (dlCells x Ap np cp Ac2 nc cc2).toList:=range_below Hrg.out Hb14.out
        have h1cc:(dlCells x Ap np cp Ac2 nc cc2).all (·.oneCell')=true:=Array.all_eq_true_iff_forall_mem.2 fun v hv=>dlCells_one x H1c.out Ap np cp Ac2 nc cc2 v (by simpa using hv)
        go_upto_region 11 with fail;refine wp_region_list ?_;refine wpList_plain rfl fun K hK=>?_;go_simp;refine hK _ _ ?_;clear hK K;refine wpList_plain rfl fun K hK=>?_;go_simp;refine hK _ _ ?_;clear hK K;refine wpList_plain rfl fun K hK=>?_;go_simp;refine hK _ _ ?_;clear hK K;refine wpList_plain rfl fun K hK=>?_;go_simp;refine hK _ _ ?_;clear hK K;refine wpList_load_mid rfl 40 (.tmp 62) rfl b (off+k * 16) rfl (dlCells x Ap np cp Ac2 nc cc2).toList _ hrg14 Tryd.underlying40 rfl (by kernel_rfl) ?_;clear hrg14;refine wpList_build1 rfl 42 40 (.tmp 63) rfl (dlCells x Ap np cp Ac2 nc cc2) rfl (build_dl x Ap np cp Ac2 nc cc2 w14) ?_;have hbx:=below_box (w:=w14) (Obj.cells (dlCells x Ap np cp Ac2 nc cc2) 40);have HR15:=qq (Hnx.out.below hbx);have Hrd:=qq (rd_newk w14 (dlCells x Ap np cp Ac2 nc cc2).toList 16 rfl 40);rw[Array.toArray_toList] at Hrd
        have hs15:(w14.alloc (Obj.cells (dlCells x Ap np cp Ac2 nc cc2) 40)).heap.size=w14.heap.size+1:=by simp
        have Hb15:=qq (Hb14.out.trans (hbx.mono Hb14.out.size));have Hbx:=qq hbx;obtain⟨w15,hw15⟩:∃ q,w14.alloc (Obj.cells (dlCells x Ap np cp Ac2 nc cc2) 40)=q:=⟨_,rfl⟩;rw[hw15] at HR15 Hrd hs15 Hb15 Hbx ⊢;clear hbx hw15;obtain⟨hol,cs,hor,ho16⟩:=HR15.out.ow;have Ho16:=qq ho16;obtain⟨j0,hj0,hy0,hy1,hy2⟩:=info_parts declInfo;have hcs:cs.length=J * 16:=hor.1;have h1l:∀ u∈(dlCells x Ap np cp Ac2 nc cc2).toList,u.oneCell'=true:=dlCells_one x H1c.out Ap np cp Ac2 nc cc2
        refine wpList_append_rd _ rfl (.tmp 59) (.tmp 64) 42 rfl (g+1) 40 j0 _ 16 208 Tryd.underlying42 hj0 hy0 hy1 hy2 rfl (by omega) (.slice Ao J co) J cs rfl hor (w14.heap.size+1) (some ⟨w14.heap.size,0,none⟩) 1 1 (dlCells x Ap np cp Ac2 nc cc2).toList rfl Hrd.out h1l (by unfold maxLen; omega) (by omega) (by have:=HR15.out.bk.lt; omega) ?_
        intro v7 w16 ho7 hg7 hat7;obtain⟨A8,c8,rfl⟩:=ownsRow_form ho7;go_wp2_with fail
        have hb16:Below w.heap.size w w16:=⟨hg7.os.trans Hb15.out.os,hg7.tape.trans Hb15.out.tape,hg7.output.trans Hb15.out.output,Nat.le_trans Hb15.out.size hg7.size,fun i hi=>(hg7.block i (Nat.lt_of_lt_of_le hi Hb15.out.size) (fun e=>by have:=(HR15.out.ow.lt e.symm).1; have:=Hbz.out.size; omega)).trans (Hb15.out.block i hi)⟩
        have hown:OwnD w16 (g+1) w.heap.size (.slice A8 (J+1) c8) (J+1) (ownL (l.take k)++[x]):=by
         refine⟨by rw[List.length_append,HJ.out]; rfl,_,ho7,fun i hi=>?_⟩
         rcases Nat.lt_or_ge i J with h | h
         · have hi':i<(ownL (l.take k)).length:=by rw[HJ.out]; exact h
           rw[List.getElem_append_left hi']
           exact((Ho16.out i hi').keep fun p hp=>(hb16.cell hp).trans (Hb15.out.cell hp).symm).congr fun q h1 h2=>by rw[List.getElem?_append_left (by omega)]
         · have hiJ:i=J:=by have:=hi; rw[List.length_append,HJ.out] at this; simp at this; omega
           subst hiJ
           rw[List.getElem_append_right (by rw[HJ.out]; exact Nat.le_refl _)]
           have e0:(ownL (l.take k)).length=i:=HJ.out;simp only[e0,Nat.sub_self,qe];refine⟨Ap,np,cp,Ac2,nc,cc2,fun q hq=>?_,Hp.out.keep (fun _ h=>h) fun p hp=>hb16.cell hp,Hcs.out.keep (fun _ h=>h) fun p hp=>hb16.cell hp,H1c.out⟩
           rw[List.getElem?_append_right (by omega),hcs,show i * 16+q - i * 16=q from by omega]
           simp
        have hrn:=HR15.out.row hg7 hown (hat7.imp id fun e=>⟨_,e,Nat.le_refl _⟩);have Hrn:=qq hrn;have Hy:=qq (Hye.out h2);clear hb16 hown hrn ho7 hg7 hat7 hor ho16
        have hN:(s.datas++[(⟨x.name,x.params.length,[]⟩:DataD)]).length=s.datas.length+1:=by simp
        go_roundg (n - (k+1))
        case measure=>omega
        case rel=>
         refine⟨k+1,A8,c8,⟨s.datas++[⟨x.name,x.params.length,[]⟩],s.cons⟩,A7,c7,Ac,cc,vs++[.slice none 0 0],by omega,rfl,by rw[Hy.out,List.length_append,HJ.out]; rfl,by go_num,?_,by rw[Hy.out]; exact Hhn.out⟩
         rw[Hy.out,hN,List.length_append,HJ.out,hpl];exact Hrn.out
      · have dz:(er != 0)=true:=by simpa using hz
        have HE:Hid (checkE givenS l=.error ⟨er,x.p⟩):=qq (by have:=Herr.out h2 (by rw[Her.out]; exact hz); rw[Her.out] at this; exact this)
        clear hz e1 e5;go_upto_region 9 with fail;refine wp_region_noPanic ?_;refine wp_region_T (fun w'=>w'.cell? ⟨b,off+k * 16+2,none⟩=some (.int .i64 x.p.at_)∧w'.cell? ⟨b,off+k * 16+3,none⟩=some (.int .i64 x.p.line)∧w'.cell? ⟨b,off+k * 16+4,none⟩=some (.int .i64 x.p.col)∧True) 9 (by kernel_rfl) ⟨e2,e3,e4,trivial⟩ (fun hHeld=>?_);have H9:=qq ((HR10.out).below (Below.drew (Below.refl (w10).heap.size w10)));generalize (w10).drew=w9 at hHeld H9 ⊢;refine nx0 0 ?_
        iterate 8 (refine nx (v:=?_) rfl (by kernel_rfl) (fun _ _ _ h=>h) (by kernel_rfl) ?_ (by assumption) ?_; rotate_left; (focus (intro w hSw; (try dsimp only at hSw); first | (go_simp; done) | (go_simp; with_reducible rfl))); try simp only[Act.put,qg,qe,qf,qd,qh,qi,Nat.reduceAdd])
        refine nx9 ?_;have HQ:Hid (HeldL [(⟨b,off+k * 16+2,none⟩,.int .i64 x.p.at_),(⟨b,off+k * 16+3,none⟩,.int .i64 x.p.line),(⟨b,off+k * 16+4,none⟩,.int .i64 x.p.col)] w9):=qq hHeld;have hk0:=Hz0.out.below (H9.out).bel Hz0.out.lt;have hk1:=Hz1.out.below (H9.out).bel Hz1.out.lt;have r0:(w9).cell? ⟨w.heap.size,0,none⟩=some (.slice none 0 0):=hk0.cell 0;have r1:(w9).cell? ⟨w.heap.size,1,none⟩=some (.slice none 0 0):=hk0.cell 1;have u0:(w9).cell? ⟨w.heap.size+1,0,none⟩=some (.int .i64 0):=hk1.cell 0;have u1:(w9).cell? ⟨w.heap.size+1,1,none⟩=some (.int .i64 0):=hk1.cell 1;have u2:(w9).cell? ⟨w.heap.size+1,2,none⟩=some (.int .i64 0):=hk1.cell 2;have u3:(w9).cell? ⟨w.heap.size+1,3,none⟩=some (.int .i64 0):=hk1.cell 3;have s0:=hk0.frozen 0;have s1:=hk0.frozen 1;have t0:=hk1.frozen 0;have t1:=hk1.frozen 1;have t2:=hk1.frozen 2;have t3:=hk1.frozen 3;have Hk0:=qq hk0;have Hk1:=qq hk1;clear hk0 hk1;refine wpAnyT_step (i:=8) (by kernel_rfl) rfl (fun K hK=>?_);go_simp
        refine hK.out _ _ (HQ.out.setL (g:=w.heap.size) [(0,.slice none 0 0),(1,.slice none 0 0)] (by simp <;> omega)) ?_
        clear hK K
        try simp only[Act.put,qg,qe,qf,qd,qh,qi]
        refine wpAnyT_seq 9 (by omega) (by rfl) (by kernel_rfl) ?_;simp only[List.drop_succ_cons,List.drop_zero];go_wp2_with fail;refine NoPanic.normal ?_;go_wp2_with fail;clear r0 r1 u0 u1 u2 u3 s0 s1 t0 t1 t2 t3;have q0:=Blk.setL (g:=w.heap.size+1) (b:=w.heap.size) (by omega) [(0,.int .i64 ((⟨er,x.p⟩:DiagD)).e),(1,.int .i64 ((⟨er,x.p⟩:DiagD)).p.at_),(2,.int .i64 ((⟨er,x.p⟩:DiagD)).p.line),(3,.int .i64 ((⟨er,x.p⟩:DiagD)).p.col)] (blk_setL [(0,.slice none 0 0),(1,.slice none 0 0)] Hk0.out);have q1:=blk_setL [(0,.int .i64 ((⟨er,x.p⟩:DiagD)).e),(1,.int .i64 ((⟨er,x.p⟩:DiagD)).p.at_),(2,.int .i64 ((⟨er,x.p⟩:DiagD)).p.line),(3,.int .i64 ((⟨er,x.p⟩:DiagD)).p.col)] (Blk.setL (g:=w.heap.size) (b:=w.heap.size+1) (by omega) [(0,.slice none 0 0),(1,.slice none 0 0)] Hk1.out);have qb:=setL_below (g:=w.heap.size+1) (B:=w.heap.size) (by omega) [(0,.int .i64 ((⟨er,x.p⟩:DiagD)).e),(1,.int .i64 ((⟨er,x.p⟩:DiagD)).p.at_),(2,.int .i64 ((⟨er,x.p⟩:DiagD)).p.line),(3,.int .i64 ((⟨er,x.p⟩:DiagD)).p.col)] _ (setL_below (g:=w.heap.size) (Nat.le_refl _) [(0,.slice none 0 0),(1,.slice none 0 0)] _ (Hbz.out.trans (H9.out.bel.mono Hbz.out.size)));obtain⟨wf,hwf⟩:∃ q,setL (w.heap.size+1) [(0,.int .i64 ((⟨er,x.p⟩:DiagD)).e),(1,.int .i64 ((⟨er,x.p⟩:DiagD)).p.at_),(2,.int .i64 ((⟨er,x.p⟩:DiagD)).p.line),(3,.int .i64 ((⟨er,x.p⟩:DiagD)).p.col)] (setL w.heap.size [(0,.slice none 0 0),(1,.slice none 0 0)] w9)=q:=⟨_,rfl⟩;rw[hwf] at q0 q1 qb;simp only[setL] at hwf;rw[hwf];have v0:wf.cell? ⟨w.heap.size,0,none⟩=some (.slice none 0 0):=q0.cell 0;have v1:wf.cell? ⟨w.heap.size,1,none⟩=some (.slice none 0 0):=q0.cell 1;have v2:wf.cell? ⟨w.heap.size+1,0,none⟩=some (.int .i64 ((⟨er,x.p⟩:DiagD)).e):=q1.cell 0;have v3:wf.cell? ⟨w.heap.size+1,1,none⟩=some (.int .i64 ((⟨er,x.p⟩:DiagD)).p.at_):=q1.cell 1;have v4:wf.cell? ⟨w.heap.size+1,2,none⟩=some (.int .i64 ((⟨er,x.p⟩:DiagD)).p.line):=q1.cell 2;have v5:wf.cell? ⟨w.heap.size+1,3,none⟩=some (.int .i64 ((⟨er,x.p⟩:DiagD)).p.col):=q1.cell 3;exact bodyPost_ret (v:=.tuple #[.agg #[.slice none 0 0,.slice none 0 0],.agg #[.int .i64 ((⟨er,x.p⟩:DiagD)).e,.int .i64 ((⟨er,x.p⟩:DiagD)).p.at_,.int .i64 ((⟨er,x.p⟩:DiagD)).p.line,.int .i64 ((⟨er,x.p⟩:DiagD)).p.col]]) (by simp[results,Tryd.results21,go_sem,v0,v1,v2,v3,v4,v5]) rfl ⟨none,0,0,none,0,0,(⟨er,x.p⟩:DiagD),rfl,qb,Or.inl ⟨_,HE.out,rfl,rfl,rfl,rfl,rfl,rfl,rfl⟩⟩
  · have d0:decide (k<n)=false:=by simpa using hkn
    have hall:l.take k=l:=List.take_of_length_le (by omega);rw[hall] at HR HH HJ;obtain⟨own,hown⟩:∃ q,ownL l=q:=⟨_,rfl⟩;rw[hown] at HR HJ
    have HHb:Hid (HdB own.length s):=qq (by have:=heads_B own 0 givenS s given_B (by rw[← hown]; exact HH.out.ok); rwa [Nat.zero_add] at this)
    have Hck:Hid (checkE givenS l=match foldE bodyS (9,s) own with
     | .error g=>.error g
     | .ok q=>.ok q.2):=qq (by rw[← hown]; exact HH.out.check)
    have hJ40:J≤31:=by have h1:=HHb.out.le; have h2:=HHb.out.dl; have h3:=HJ.out; omega
    clear hall HH hkn hd40 hlk hown;go_wp2_with fail
    go_loopg [8] J (fun gh i wr=>∃ (k:Nat) (s':SigD) (Ad:Option Addr) (cd:Nat) (Ac:Option Addr) (cc:Nat) (vs:List Value),k≤J∧gh=J - k∧i=.int .i64 (k:Nat)∧RKs wz g w.heap.size (.slice Ao J co) J own s' (.slice Ad s'.datas.length cd) (.slice Ac s'.cons.length cc) vs wr∧foldE bodyS (9,s) (own.take k)=.ok (9+k,s')∧SigB s'∧s'.datas.length=9+J)
    case atStart=>exact⟨0,s,Ad,cd,Ac,cc,vs,Nat.zero_le _,rfl,rfl,HR.out,rfl,HHb.out.sb,by rw[HHb.out.dl,HJ.out]⟩
    case round=>
     clear HR;obtain⟨k,s2,Ad,cd,Ac,cc,vs,hk,rfl,rfl,hrk,hfd,hsb,hdl⟩:=hrel;obtain⟨w1,hw1⟩:∃ q,q=wr:=⟨_,rfl⟩;subst hw1;have HR:=qq hrk;have Hfd:=qq hfd;have Hsb:=qq hsb;have hln:=hsb.ln;clear hrk hfd hsb
     by_cases hkn:k<J
     · have d0:decide (k<J)=true:=by simpa using hkn
       have hk':k<own.length:=by rw[HJ.out]; exact hkn
       obtain⟨go,rfl⟩:=HR.out.at_ (by omega);obtain⟨Ap,np,cp,Ac2,nc,cc2,hc,hp,hcs⟩:=HR.out.dcl hk';have hferr:=fun gg (h:bodyE (9+k) s2 own[k]=.error gg)=>fold_err hk' Hfd.out (bodyS_err (q:=(9+k,s2)) h);have hfok:=fun s' (h:bodyE (9+k) s2 own[k]=.ok s')=>fold_ok hk' Hfd.out (bodyS_go (q:=(9+k,s2)) h);obtain⟨x,hx⟩:∃ x,own[k]=x:=⟨_,rfl⟩;rw[hx] at hc hp hcs;simp only[hx] at hferr hfok;have e2:w1.cell? ⟨go,k * 16+2,none⟩=some (.int .i64 x.p.at_):=hc 2 (by omega);have e3:w1.cell? ⟨go,k * 16+3,none⟩=some (.int .i64 x.p.line):=hc 3 (by omega);have e4:w1.cell? ⟨go,k * 16+4,none⟩=some (.int .i64 x.p.col):=hc 4 (by omega);have e6:w1.cell? ⟨go,k * 16+6,none⟩=some (.slice Ac2 nc cc2):=hc 6 (by omega);have Hx:=qq hx;have Hferr:=qq hferr;have Hfok:=qq hfok;have hncl:x.cons.length=nc:=hcs.len;have nc63:nc≤9223372036854775807:=hcs.cap;obtain⟨y0,y1⟩:=HR.out.c
       have j1:(0:Int)≤(k:Int):=by omega
       have j2:(k:Int)<J:=by omega
       have hgo1:g+1≤go:=(HR.out.ow.lt rfl).1;have hgo2:go<w1.heap.size:=(HR.out.ow.lt rfl).2;clear hc hx hferr hfok
       by_cases hnc:nc=0
       · have dz:((nc:Int)==0)=true:=by simp[hnc]
         have dzn:(nc==0)=true:=by simp[hnc]
         have HE:Hid (checkE givenS l=.error ⟨2,x.p⟩):=qq (by rw[Hck.out,Hferr.out _ (bodyE_nil (List.eq_nil_of_length_eq_zero (by rw[hncl]; exact hnc)))])
         clear hnc hp hcs;go_upto_region 17 with fail;refine wp_region_noPanic ?_;refine wp_region_T (fun w'=>w'.cell? ⟨go,k * 16+2,none⟩=some (.int .i64 x.p.at_)∧w'.cell? ⟨go,k * 16+3,none⟩=some (.int .i64 x.p.line)∧w'.cell? ⟨go,k * 16+4,none⟩=some (.int .i64 x.p.col)∧True) 8 (by kernel_rfl) ⟨e2,e3,e4,trivial⟩ (fun hHeld=>?_);have H9:=qq ((HR.out).below (Below.drew (Below.refl (w1).heap.size w1)));generalize (w1).drew=w9 at hHeld H9 ⊢;refine nx0 0 ?_
         iterate 7 (refine nx (v:=?_) rfl (by kernel_rfl) (fun _ _ _ h=>h) (by kernel_rfl) ?_ (by assumption) ?_; rotate_left; (focus (intro w hSw; (try dsimp only at hSw); first | (go_simp; done) | (go_simp; with_reducible rfl))); try simp only[Act.put,qg,qe,qf,qd,qh,qi,Nat.reduceAdd])
         refine nx9 ?_;have HQ:Hid (HeldL [(⟨go,k * 16+2,none⟩,.int .i64 x.p.at_),(⟨go,k * 16+3,none⟩,.int .i64 x.p.line),(⟨go,k * 16+4,none⟩,.int .i64 x.p.col)] w9):=qq hHeld;have hk0:=Hz0.out.below (H9.out).bel Hz0.out.lt;have hk1:=Hz1.out.below (H9.out).bel Hz1.out.lt;have r0:(w9).cell? ⟨w.heap.size,0,none⟩=some (.slice none 0 0):=hk0.cell 0;have r1:(w9).cell? ⟨w.heap.size,1,none⟩=some (.slice none 0 0):=hk0.cell 1;have u0:(w9).cell? ⟨w.heap.size+1,0,none⟩=some (.int .i64 0):=hk1.cell 0;have u1:(w9).cell? ⟨w.heap.size+1,1,none⟩=some (.int .i64 0):=hk1.cell 1;have u2:(w9).cell? ⟨w.heap.size+1,2,none⟩=some (.int .i64 0):=hk1.cell 2;have u3:(w9).cell? ⟨w.heap.size+1,3,none⟩=some (.int .i64 0):=hk1.cell 3;have s0:=hk0.frozen 0;have s1:=hk0.frozen 1;have t0:=hk1.frozen 0;have t1:=hk1.frozen 1;have t2:=hk1.frozen 2;have t3:=hk1.frozen 3;have Hk0:=qq hk0;have Hk1:=qq hk1;clear hk0 hk1;refine wpAnyT_step (i:=7) (by kernel_rfl) rfl (fun K hK=>?_);go_simp
         refine hK.out _ _ (HQ.out.setL (g:=w.heap.size) [(0,.slice none 0 0),(1,.slice none 0 0)] (by simp <;> omega)) ?_
         clear hK K
         try simp only[Act.put,qg,qe,qf,qd,qh,qi]
         refine wpAnyT_seq 8 (by omega) (by rfl) (by kernel_rfl) ?_;simp only[List.drop_succ_cons,List.drop_zero];go_wp2_with fail;refine NoPanic.normal ?_;go_wp2_with fail;clear r0 r1 u0 u1 u2 u3 s0 s1 t0 t1 t2 t3;have q0:=Blk.setL (g:=w.heap.size+1) (b:=w.heap.size) (by omega) [(0,.int .i64 ((⟨2,x.p⟩:DiagD)).e),(1,.int .i64 ((⟨2,x.p⟩:DiagD)).p.at_),(2,.int .i64 ((⟨2,x.p⟩:DiagD)).p.line),(3,.int .i64 ((⟨2,x.p⟩:DiagD)).p.col)] (blk_setL [(0,.slice none 0 0),(1,.slice none 0 0)] Hk0.out);have q1:=blk_setL [(0,.int .i64 ((⟨2,x.p⟩:DiagD)).e),(1,.int .i64 ((⟨2,x.p⟩:DiagD)).p.at_),(2,.int .i64 ((⟨2,x.p⟩:DiagD)).p.line),(3,.int .i64 ((⟨2,x.p⟩:DiagD)).p.col)] (Blk.setL (g:=w.heap.size) (b:=w.heap.size+1) (by omega) [(0,.slice none 0 0),(1,.slice none 0 0)] Hk1.out);have qb:=setL_below (g:=w.heap.size+1) (B:=w.heap.size) (by omega) [(0,.int .i64 ((⟨2,x.p⟩:DiagD)).e),(1,.int .i64 ((⟨2,x.p⟩:DiagD)).p.at_),(2,.int .i64 ((⟨2,x.p⟩:DiagD)).p.line),(3,.int .i64 ((⟨2,x.p⟩:DiagD)).p.col)] _ (setL_below (g:=w.heap.size) (Nat.le_refl _) [(0,.slice none 0 0),(1,.slice none 0 0)] _ (Hbz.out.trans (H9.out.bel.mono Hbz.out.size)));obtain⟨wf,hwf⟩:∃ q,setL (w.heap.size+1) [(0,.int .i64 ((⟨2,x.p⟩:DiagD)).e),(1,.int .i64 ((⟨2,x.p⟩:DiagD)).p.at_),(2,.int .i64 ((⟨2,x.p⟩:DiagD)).p.line),(3,.int .i64 ((⟨2,x.p⟩:DiagD)).p.col)] (setL w.heap.size [(0,.slice none 0 0),(1,.slice none 0 0)] w9)=q:=⟨_,rfl⟩;rw[hwf] at q0 q1 qb;simp only[setL] at hwf;rw[hwf];have v0:wf.cell? ⟨w.heap.size,0,none⟩=some (.slice none 0 0):=q0.cell 0;have v1:wf.cell? ⟨w.heap.size,1,none⟩=some (.slice none 0 0):=q0.cell 1;have v2:wf.cell? ⟨w.heap.size+1,0,none⟩=some (.int .i64 ((⟨2,x.p⟩:DiagD)).e):=q1.cell 0;have v3:wf.cell? ⟨w.heap.size+1,1,none⟩=some (.int .i64 ((⟨2,x.p⟩:DiagD)).p.at_):=q1.cell 1;have v4:wf.cell? ⟨w.heap.size+1,2,none⟩=some (.int .i64 ((⟨2,x.p⟩:DiagD)).p.line):=q1.cell 2;have v5:wf.cell? ⟨w.heap.size+1,3,none⟩=some (.int .i64 ((⟨2,x.p⟩:DiagD)).p.col):=q1.cell 3;exact bodyPost_ret (v:=.tuple #[.agg #[.slice none 0 0,.slice none 0 0],.agg #[.int .i64 ((⟨2,x.p⟩:DiagD)).e,.int .i64 ((⟨2,x.p⟩:DiagD)).p.at_,.int .i64 ((⟨2,x.p⟩:DiagD)).p.line,.int .i64 ((⟨2,x.p⟩:DiagD)).p.col]]) (by simp[results,Tryd.results21,go_sem,v0,v1,v2,v3,v4,v5]) rfl ⟨none,0,0,none,0,0,(⟨2,x.p⟩:DiagD),rfl,qb,Or.inl ⟨_,HE.out,rfl,rfl,rfl,rfl,rfl,rfl,rfl⟩⟩
       · have dz:((nc:Int)==0)=false:=by simp; omega
         have dzn:(nc==0)=false:=by simp; omega
         have Hgo:Hid (bodyE (9+k) s2 x=foldE (conS (9+k) x.params) s2 x.cons):=qq (bodyE_go (fun h=>hnc (by rw[← hncl,h]; rfl)))
         have Hdl:=qq hdl;clear hnc hp hcs e2 e3 e4;go_wp2_with fail;clear e6 y0 y1 hdl
         rw[show(9+(k:Int))=((9+k:Nat):Int) from by omega]
         obtain⟨nn,hn9⟩:∃ nn,9+k=nn:=⟨_,rfl⟩;rw[hn9];rw[hn9] at Hgo
         have hnJ:nn<9+J:=by omega
         have Hn9:=qq hn9;clear hn9
         go_loopg [10] nc (fun gh i wr=>∃ (j:Nat) (s3:SigD) (Ad:Option Addr) (cd:Nat) (Ac:Option Addr) (cc:Nat) (vs:List Value),j≤nc∧gh=nc - j∧i=.int .i64 (j:Nat)∧RKs wz g w.heap.size (.slice (some ⟨go,0,none⟩) J co) J own s3 (.slice Ad s3.datas.length cd) (.slice Ac s3.cons.length cc) vs wr∧foldE (conS nn x.params) s2 (x.cons.take j)=.ok s3∧SigB s3∧s3.datas.length=9+J)
         case atStart=>exact⟨0,s2,Ad,cd,Ac,cc,vs,Nat.zero_le _,rfl,rfl,HR.out,rfl,Hsb.out,Hdl.out⟩
         case round=>
          clear HR Hsb;obtain⟨j,s3,Ad,cd,Ac,cc,vs,hj,rfl,rfl,hrk,hfd3,hsb,hdl3⟩:=hrel;obtain⟨w4,hw4⟩:∃ q,q=wr:=⟨_,rfl⟩;subst hw4;have HR:=qq hrk;have Hfd3:=qq hfd3;have Hsb:=qq hsb;have hln3:=hsb.ln;clear hrk hfd3 hsb;obtain⟨Ap,np,cp,Ac2,nc',cc2,hc,hp,hcs⟩:=HR.out.dcl hk';rw[Hx.out] at hc hp hcs;obtain rfl:nc=nc':=hncl.symm.trans hcs.len;have e5:w4.cell? ⟨go,k * 16+5,none⟩=some (.slice Ap np cp):=hc 5 (by omega);have e6:w4.cell? ⟨go,k * 16+6,none⟩=some (.slice Ac2 nc cc2):=hc 6 (by omega);clear hc
          by_cases hjn:j<nc
          · have d0:decide (j<nc)=true:=by simpa using hjn
            have hj':j<x.cons.length:=by rw[hncl]; exact hjn
            obtain⟨bc,offc,rfl,hbc,hcc⟩:=condecl_at hcs (by omega);replace hbc:bc<w.heap.size:=hbc;obtain⟨c0,c1,c2,c3,Af,nf,cf,c4,hf⟩:=hcc j hj';have herr:=fun gg (h:conE s3 nn x.params x.cons[j]=.error gg)=>fold_err (step:=conS nn x.params) hj' Hfd3.out h;have hok:=fun s' (h:conE s3 nn x.params x.cons[j]=.ok s')=>fold_ok (step:=conS nn x.params) hj' Hfd3.out h;obtain⟨y,hy⟩:∃ y,x.cons[j]=y:=⟨_,rfl⟩;rw[hy] at c0 c1 c2 c3 hf;simp only[hy] at herr hok
            have HE0:Hid (∀ gg,conE s3 nn x.params y=.error gg→checkE givenS l=.error gg):=qq fun gg h=>by rw[Hck.out,Hferr.out gg (by rw[Hn9.out,Hgo.out,herr gg h])]
            have Hok:=qq hok;have Hf:=qq hf;have Hp:=qq hp;have Hdl3:=qq hdl3
            have k1:(0:Int)≤(j:Int):=by omega
            have k2:(j:Int)<nc:=by omega
            clear hcc herr hok hy hf hp hcs hj' hdl3;go_upto_region 21 with fail;obtain⟨y0,y1⟩:=HR.out.c;refine wp_region_noPanic ?_;refine wp_region_T (fun w'=>w'.cell? ⟨g,0,none⟩=some (.slice Ad s3.datas.length cd)∧w'.cell? ⟨g,1,none⟩=some (.slice Ac s3.cons.length cc)∧w'.cell? ⟨go,k * 16+5,none⟩=some (.slice Ap np cp)∧w'.cell? ⟨go,k * 16+6,none⟩=some (.slice (some ⟨bc,offc,none⟩) nc cc2)∧w'.cell? ⟨bc,offc+j * 5,none⟩=some (.string y.name)∧w'.cell? ⟨bc,offc+j * 5+1,none⟩=some (.int .i64 y.p.at_)∧w'.cell? ⟨bc,offc+j * 5+2,none⟩=some (.int .i64 y.p.line)∧w'.cell? ⟨bc,offc+j * 5+3,none⟩=some (.int .i64 y.p.col)∧w'.cell? ⟨bc,offc+j * 5+4,none⟩=some (.slice Af nf cf)∧True) 23 (by kernel_rfl) ⟨y0,y1,e5,e6,c0,c1,c2,c3,c4,trivial⟩ (fun hHeld=>?_);have hbd:Below w4.heap.size w4 w4.drew:=Below.drew (Below.refl _ _);have HR9:=qq (HR.out.below hbd)
            have hlw:w.heap.size≤w4.heap.size:=by have h1:=Hbz.out.size; have h2:=HR.out.bel.size; omega
            have Hf9:=qq (Hf.out.keep (S':=Lt w4.drew.heap.size) (fun b hb=>Nat.lt_of_lt_of_le hb (Nat.le_trans hlw hbd.size)) fun p hp=>hbd.cell (Nat.lt_of_lt_of_le hp hlw));have Hp9:=qq (Hp.out.keep (S':=Lt w4.drew.heap.size) (fun b hb=>Nat.lt_of_lt_of_le hb (Nat.le_trans hlw hbd.size)) fun p hp=>hbd.cell (Nat.lt_of_lt_of_le hp hlw));clear HR y0 y1 e5 e6 c0 c1 c2 c3 c4 hbd Hf Hp;generalize w4.drew=w9 at hHeld HR9 Hf9 Hp9 ⊢;refine nx0 0 ?_
            iterate 15 (refine nx (v:=?_) rfl (by kernel_rfl) (fun _ _ _ h=>h) (by kernel_rfl) ?_ (by assumption) ?_; rotate_left; (focus (intro w hSw; (try dsimp only at hSw); first | (go_simp; done) | (go_simp; with_reducible rfl))); try simp only[Act.put,qg,qe,qf,qd,qh,qi,Nat.reduceAdd])
            refine nx9 ?_;have HZ:Hid (HeldL [(⟨g,0,none⟩,.slice Ad s3.datas.length cd),(⟨g,1,none⟩,.slice Ac s3.cons.length cc),(⟨go,k * 16+5,none⟩,.slice Ap np cp),(⟨go,k * 16+6,none⟩,.slice (some ⟨bc,offc,none⟩) nc cc2),(⟨bc,offc+j * 5,none⟩,.string y.name),(⟨bc,offc+j * 5+1,none⟩,.int .i64 y.p.at_),(⟨bc,offc+j * 5+2,none⟩,.int .i64 y.p.line),(⟨bc,offc+j * 5+3,none⟩,.int .i64 y.p.col),(⟨bc,offc+j * 5+4,none⟩,.slice Af nf cf)] w9):=qq hHeld;clear hHeld
            refine wpAnyT_call2 (c:=15) (sc:=120) (sm:=104) (s0:=121) (s1:=122) (sx:=11) (sy:=12) (T0:=58) (T1:=30) (cn4 ⟨#[]⟩ 0 (.slice none 0 0) (.slice none 0 0)) (dgC diagZ) #[.agg #[.slice Ad s3.datas.length cd,.slice Ac s3.cons.length cc],.int .i64 nn,.agg #[.string y.name,.int .i64 y.p.at_,.int .i64 y.p.line,.int .i64 y.p.col,.slice Af nf cf],.slice Ap np cp] rfl (by kernel_rfl) ⟨_,rfl,rfl,rfl,rfl⟩ rfl (fun _ _=>rfl) (by kernel_rfl) (by kernel_rfl) ⟨_,rfl,rfl,rfl,rfl⟩ (Or.inl rfl) ⟨_,rfl,rfl,rfl,rfl⟩ ⟨_,rfl,rfl,rfl,rfl⟩ ⟨_,rfl,rfl,rfl,rfl⟩ ⟨_,rfl,rfl,rfl,rfl⟩ ⟨_,rfl,rfl,rfl,rfl⟩ ⟨_,rfl,rfl,rfl,rfl⟩
             (by kernel_rfl) (by kernel_rfl) (by kernel_rfl) (by kernel_rfl) (by kernel_rfl) (by decide) (by kernel_rfl) (fun w'=>by first | rfl | (go_simp; rfl)) (fun w'=>by first | rfl | (go_simp; rfl)) (by rw[con_info]; rfl) dg_info (ConK s3 x.params nn y) (fun R u0 u1 w w' h1 _ h3 _ _=>h1.keep h3) ?_ (fun w' hb=>HZ.out.below hb) (by kernel_rfl) (by decide +kernel) (by decide +kernel) ?_
            · intro w1 hb1
              refine(refConE_any s3 x.params Ap np cp Ad s3.datas.length cd Ac s3.cons.length cc Hsb.out.pr nn (by omega) y Af nf cf w1 (Hf9.out.fresh hb1) (HR9.out.below hb1).sig (Hp9.out.fresh hb1) hln3).mono ?_;rintro e w2 ⟨lf,A5,c5,A6,c6,d,rfl,hC,hsp,hb2⟩;exact⟨fun q=>w1.heap.size≤q∧q<w2.heap.size,_,_,rfl,rfl,rfl,cn4_one _ _ _ _ _ _ _ _,dgC_one _,fun q h=>h,⟨lf,A5,c5,A6,c6,d,rfl,rfl,hC,hsp⟩,hb2⟩
            · rintro R u0 u1 X Y w10 hXY hX hY kX kY hb10 ⟨lf,A5,c5,A6,c6,d,rfl,rfl,hC,hsp⟩ hR
              have HR10:=qq (HR9.out.below hb10);have z0:w10.cell? ⟨Y,0,none⟩=some (.int .i64 d.e):=kY.cell 0;have z1:w10.cell? ⟨Y,1,none⟩=some (.int .i64 d.p.at_):=kY.cell 1;have z2:w10.cell? ⟨Y,2,none⟩=some (.int .i64 d.p.line):=kY.cell 2;have z3:w10.cell? ⟨Y,3,none⟩=some (.int .i64 d.p.col):=kY.cell 3;have HkX:=qq kX;have HC:=qq hC;have Hsp:=qq hsp;have HRr:=qq hR;have hb10s:=hb10.size;have hg9:g<w9.heap.size:=HR9.out.bk.lt;have hgz9:=HR9.out.gz;have Hgo2:Hid (∀ q,(Value.slice (some ⟨go,0,none⟩) J co).ownBlock=some q→q<w9.heap.size):=qq fun q e=>(HR9.out.ow.lt e).2;have Hrow9:Hid (∀ q,RowB (.slice Ad s3.datas.length cd) (.slice Ac s3.cons.length cc) vs q→q<w9.heap.size):=qq fun q h=>(HR9.out.sm.rowB h).2;clear kX kY hb10 hC hsp hR HR9 Hf9 Hp9 HZ;simp only[Act.put,qd,qh,qi];refine NoPanic.normal ?_
              by_cases hz:d.e=0
              · have dz:(d.e != 0)=false:=by simp[hz]
                obtain⟨s',hs'⟩:∃ s',conE s3 nn x.params y=.ok s':=by
                 cases hq:conE s3 nn x.params y with
                 | error gg=>exact absurd ((Hsp.out.1 gg hq) ▸ hz) (conE_ne hq)
                 | ok s'=>exact⟨s',rfl⟩
                have hse:=(Hsp.out.2 s' hs').2;obtain⟨_,_,_,hlt,_⟩:=conE_ok hs';have hfn:=Hok.out _ hs';rw[hse] at hfn;have Hfn:=qq hfn;clear hz hs' hse hfn z1 z2 z3;go_upto_region 24 with fail;have hN3:s3.datas.length=9+J:=Hdl3.out
                have hnv:nn<vs.length:=by rw[HR10.out.sm.len]; omega
                have hnn:nn<s3.datas.length:=by omega
                have d63:s3.datas.length≤9223372036854775807:=by omega
                clear hN3;obtain⟨gd,rfl,hgd,hgd1,hgd2,hdc,hdf⟩:=own_addr HR10.out.sm.od (by omega);have hcell:=hdc (nn * 3+2) _ (dCells_get HR10.out.sm.len nn hnn hnv).2.2;obtain⟨Av,cv,hv⟩:=ownsRow_form (HR10.out.sm.oi nn hnv hnn);have hoi:=HR10.out.sm.oi nn hnv hnn;have hvm:=List.getElem_mem hnv;rw[hv] at hcell hoi
                have hcl:s3.datas[nn].cons.length≤1000:=by have:=Hsb.out.nm _ (List.getElem_mem hnn); omega
                obtain⟨L,hL⟩:∃ L,s3.datas[nn].cons.length=L:=⟨_,rfl⟩;rw[hL] at hcell hoi hcl;have HL2:=qq hL;have Hv:=qq hv;obtain⟨y0,y1⟩:=HR10.out.c
                have n1:(0:Int)≤(nn:Int):=by omega
                have n2:(nn:Int)<s3.datas.length:=by omega
                have m63:s3.cons.length≤9223372036854775807:=by omega
                obtain⟨p0,hp0,hq0,hq1,hq2⟩:=info_parts int13Info;have xk0:w10.cell? ⟨X,0,none⟩=some (.string y.name):=HkX.out.cell 0;refine wp_region_noPanic ?_;refine wp_region_T (fun w'=>w'.cell? ⟨g,0,none⟩=some (.slice (some ⟨gd,0,none⟩) s3.datas.length cd)∧w'.cell? ⟨g,1,none⟩=some (.slice Ac s3.cons.length cc)∧w'.cell? ⟨gd,nn * 3+2,none⟩=some (.slice Av L cv)∧True) 14 (by kernel_rfl) ⟨y0,y1,hcell,trivial⟩ (fun hHeld=>?_);have hbd:Below w10.heap.size w10 w10.drew:=Below.drew (Below.refl _ _);have HR11:=qq (HR10.out.below hbd);have HkX11:=qq (HkX.out.below hbd HkX.out.lt);have HC11:=qq (HC.out.keep (fun _ h=>h) fun p hp=>hbd.cell (HRr.out _ hp).2.1);have HoI0:=qq (ownsRow_beyond hoi hbd);have hfz:Hid (∀ j,w10.drew.frozen? ⟨gd,j,none⟩=false):=qq hdf;have hgd2':gd<w10.drew.heap.size:=Nat.lt_of_lt_of_le hgd2 hbd.size;have hs11:=hbd.size;have hXl:X<w10.heap.size:=HkX.out.lt;clear HR10 HkX HC hoi hdc hdf hcell y0 y1 hbd xk0 hL hv z0 hgd2;generalize w10.drew=w11 at hHeld HR11 HkX11 HC11 HoI0 hfz hgd2' hs11 ⊢;refine nx0 0 ?_
                iterate 12 (refine nx (v:=?_) rfl (by kernel_rfl) (fun _ _ _ h=>h) (by kernel_rfl) ?_ (by assumption) ?_; rotate_left; (focus (intro w hSw; (try dsimp only at hSw); first | (go_simp; done) | (go_simp; with_reducible rfl))); try simp only[Act.put,qg,qe,qf,qd,qh,qi,Nat.reduceAdd])
                refine nx9 ?_;have HA:Hid (HeldL [(⟨g,0,none⟩,.slice (some ⟨gd,0,none⟩) s3.datas.length cd),(⟨g,1,none⟩,.slice Ac s3.cons.length cc),(⟨gd,nn * 3+2,none⟩,.slice Av L cv)] w11):=qq hHeld;have hbI:=below_box (w:=w11) (Obj.cells #[.int .i64 s3.cons.length] 3);have HA12:=qq (HA.out.below hbI);have HR12:=qq (HR11.out.below hbI);have HoI:=qq (ownsRow_beyond HoI0.out hbI);have HrI:=qq (rd_newk w11 [.int .i64 s3.cons.length] 1 rfl 3);have HbI:=qq hbI;have hgl:g<w11.heap.size:=HR11.out.bk.lt
                have hgv:some g≠(Value.slice Av L cv).ownBlock:=fun e=>HR11.out.ng (Or.inr (Or.inr ⟨vs[nn],hvm,by rw[Hv.out,HL2.out]; exact e.symm⟩))
                have hgdv:some gd≠(Value.slice Av L cv).ownBlock:=fun e=>HR11.out.sm.sd gd hgd vs[nn] hvm (by rw[Hv.out,HL2.out]; exact e.symm)
                have hgdg:gd≠g:=fun e=>HR11.out.ng (e ▸ Or.inl hgd)
                have hXv:some X≠(Value.slice Av L cv).ownBlock:=fun e=>by have:=Hrow9.out X (Or.inr (Or.inr ⟨vs[nn],hvm,by rw[Hv.out,HL2.out]; exact e.symm⟩)); omega
                have hXd:gd≠X:=fun e=>by have:=Hrow9.out X (Or.inl (e ▸ hgd)); omega
                clear hHeld HA HoI0 hbI;refine wpAnyT_step (i:=12) (by kernel_rfl) rfl (fun K hK=>?_);go_simp;refine hK.out _ _ HA12.out ?_;clear hK K
                try simp only[Act.put,qg,qe,qf,qd,qh,qi]
                refine wpAnyT_step (i:=13) (by kernel_rfl) rfl (fun K hK=>?_)
                (refine step_append_rd _ (by rfl) (.tmp 136) (.tmp 140) 50 (by rfl) wz.heap.size 3 p0 _ 1 8 Tryd.underlying50 hp0 hq0 hq1 hq2 rfl (by omega) (.slice Av L cv) L _ (by rfl) HoI.out _ _ 1 1 [.int .i64 s3.cons.length] (by rfl) HrI.out (by intro u hu; simp at hu; subst hu; rfl) (by unfold maxLen; omega) (by omega) HR12.out.bel.size ?_; intro v7 w13 ho7 hg7 hat7; obtain⟨A9,c9,rfl⟩:=ownsRow_form ho7)
                refine hK.out _ _ (HA12.out.blocks (by simp; exact⟨hg7.block g (by simp; omega) hgv,hg7.block gd (by simp; omega) hgdv⟩)) ?_
                clear hK K
                try simp only[Act.put,qg,qe,qf,qd,qh,qi]
                have hk13:=HR12.out.bk.grown hg7 hgv
                have hgI:gd<(w11.alloc (Obj.cells #[.int .i64 s3.cons.length] 3)).heap.size:=by simp; omega
                have hbZ:w13.heap[gd]?=w11.heap[gd]?:=(hg7.block gd hgI hgdv).trans (Below.heap_alloc _ _ _ hgd2');have fz:w13.frozen? ⟨gd,nn * 3+2,none⟩=false:=(World.frozen?_of_block hbZ).trans (hfz.out _);have xz:w13.cell? ⟨gd,nn * 3+2,none⟩=some (.slice Av L cv):=(World.cell?_of_block (hg7.block gd hgI hgdv)).trans HA12.out.2.2.1
                have hsN:=HR12.out.sm.num hnn (v':=.slice A9 (L+1) c9) (x:=(s3.cons.length:Int)) hnv (by rw[HL2.out]; exact ho7) (by rw[Hv.out,HL2.out]; exact hg7) (by rw[Hv.out,HL2.out]; exact hat7.imp id fun e=>⟨_,e,Nat.le_refl _⟩) hgd
                have hrow1:∀ b,(Value.slice Av L cv).ownBlock=some b→RowB (.slice (some ⟨gd,0,none⟩) s3.datas.length cd) (.slice Ac s3.cons.length cc) vs b:=fun b e=>Or.inr (Or.inr ⟨vs[nn],hvm,by rw[Hv.out,HL2.out]; exact e⟩)
                have hrow2:RowB (.slice (some ⟨gd,0,none⟩) s3.datas.length cd) (.slice Ac s3.cons.length cc) vs gd:=Or.inl hgd;have hbt:ButS g (RowB (.slice (some ⟨gd,0,none⟩) s3.datas.length cd) (.slice Ac s3.cons.length cc) vs) w11 (w13.setCell ⟨gd,nn * 3+2,none⟩ (.slice A9 (L+1) c9)):=((ButS.of HbI.out).grown hg7 hrow1).set (Or.inr hrow2) (nn * 3+2) (.slice A9 (L+1) c9)
                have hnx:=HR11.out.next (hk13.other hgdg (nn * 3+2) (.slice A9 (L+1) c9)) hsN hbt (fun b' h=>by
                 rcases h with h | h | ⟨v,hv',h⟩
                 · exact Or.inl (Or.inl h)
                 · exact Or.inl (Or.inr (Or.inl h))
                 · rcases List.mem_or_eq_of_mem_set hv' with q | q
                   · exact Or.inl (Or.inr (Or.inr ⟨v,q,h⟩))
                   · subst q
                     rcases hat7 with q | q
                     · exact Or.inl (Or.inr (Or.inr ⟨vs[nn],hvm,by rw[Hv.out,HL2.out,← q]; exact h⟩))
                     · rw[q] at h
                       injection h with h
                       simp at h
                       exact Or.inr (by omega))
                have hkX13:=((HkX11.out.below HbI.out HkX11.out.lt).grown hg7 hXv).other hXd (nn * 3+2) (.slice A9 (L+1) c9)
                have hC13:=HC11.out.keep (S':=fun b=>R b) (w':=w13.setCell ⟨gd,nn * 3+2,none⟩ (.slice A9 (L+1) c9)) (fun _ h=>h) fun p hp=>by
                 have h1:=HRr.out _ hp
                 refine World.cell?_of_block ((Below.heap_setCell _ _ _ _ (fun e=>?_)).trans ((hg7.block _ (by simp; omega) (fun e=>?_)).trans (Below.heap_alloc _ _ _ (by omega))))
                 · have:=Hrow9.out p.block (Or.inl (e ▸ hgd)); omega
                 · have:=Hrow9.out p.block (Or.inr (Or.inr ⟨vs[nn],hvm,by rw[Hv.out,HL2.out]; exact e.symm⟩)); omega
                have hsz13:w11.heap.size+1≤(w13.setCell ⟨gd,nn * 3+2,none⟩ (.slice A9 (L+1) c9)).heap.size:=by have:=hg7.size; simpa using this
                have Hnx:=qq hnx;have HkX13:=qq hkX13;have HC13:=qq hC13
                have Hat7:Hid (∀ q,(Value.slice A9 (L+1) c9).ownBlock=some q→(Value.slice Av L cv).ownBlock=some q∨w11.heap.size≤q):=qq fun q e=>by
                 rcases hat7 with q' | q'
                 · exact Or.inl (q' ▸ e)
                 · rw[q'] at e
                   injection e with e
                   simp at e;exact Or.inr (by omega)
                clear hsN hnx hbt hrow1 hrow2 hkX13 hC13 hk13 ho7 hg7 hat7 hbZ HR11 HR12 HoI HrI HbI HA12 HkX11 HC11;refine wpAnyT_seq 14 (by omega) (by rfl) (by kernel_rfl) ?_;simp only[List.drop_succ_cons,List.drop_zero];go_wp2_with fail;refine NoPanic.normal ?_;clear fz xz;obtain⟨w14,hw14⟩:∃ q,w13.setCell ⟨gd,nn * 3+2,none⟩ (.slice A9 (L+1) c9)=q:=⟨_,rfl⟩;rw[hw14] at Hnx HkX13 HC13 hsz13 ⊢;clear hw14;go_upto_region 25 with fail;obtain⟨l0,hl0,ha0,ha1,ha2⟩:=info_parts conInfo;obtain⟨y0,y1⟩:=Hnx.out.c;have x0:w14.cell? ⟨X,0,none⟩=some (.string y.name):=HkX13.out.cell 0;have x1:w14.cell? ⟨X,1,none⟩=some (.int .i64 nn):=HkX13.out.cell 1;have x2:w14.cell? ⟨X,2,none⟩=some (.slice A5 lf.length c5):=HkX13.out.cell 2;have x3:w14.cell? ⟨X,3,none⟩=some (.slice A6 lf.length c6):=HkX13.out.cell 3
                have hcV:CelsV w14 (fun b=>b<w14.heap.size∧some b≠(Value.slice Ac s3.cons.length cc).ownBlock∧¬ Apart (fun b=>b<wz.heap.size∨b=g∨(Value.slice (some ⟨go,0,none⟩) J co).ownBlock=some b) (.slice (some ⟨gd,0,none⟩) s3.datas.length cd) (vs.set nn (.slice A9 (L+1) c9)) b) (encCn ⟨y.name,nn,lf.map Prod.snd,lf.map Prod.fst⟩) [.string y.name,.int .i64 nn,.slice A5 lf.length c5,.slice A6 lf.length c6]:=HC13.out.keep (fun b hb=>by
                 have h1:=HRr.out b hb
                 refine⟨by omega,fun e=>by have:=Hrow9.out b (Or.inr (Or.inl e.symm)); omega,fun h=>?_⟩
                 rcases h with (h | h | h) | h | ⟨v,hv',h⟩
                 · omega
                 · omega
                 · have:=Hgo2.out b h; omega
                 · have:=Hrow9.out b (Or.inl h); omega
                 · rcases List.mem_or_eq_of_mem_set hv' with q | q
                   · have:=Hrow9.out b (Or.inr (Or.inr ⟨v,q,h⟩)); omega
                   · subst q
                     rcases Hat7.out b h with q | q
                     · have:=Hrow9.out b (Or.inr (Or.inr ⟨vs[nn],hvm,by rw[Hv.out,HL2.out]; exact q⟩)); omega
                     · omega) fun p hp=>rfl
                have HcV:=qq hcV;have hgo:some g≠(Value.slice Ac s3.cons.length cc).ownBlock:=fun e=>Hnx.out.ng (Or.inr (Or.inl e.symm));have hgl2:g<w14.heap.size:=Hnx.out.bk.lt;clear hcV
                go_wp2_with (at_builtin; refine wpList_append_cel (B0:=wz.heap.size) w14 w14 rfl (.tmp 145) (.tmp 147) 23 rfl wz.heap.size 58 l0 _ 4 72 Tryd.underlying23 hl0 ha0 ha1 ha2 rfl (by omega) (Apart (fun b=>b<wz.heap.size∨b=g∨(Value.slice (some ⟨go,0,none⟩) J co).ownBlock=some b) (.slice (some ⟨gd,0,none⟩) s3.datas.length cd) (vs.set nn (.slice A9 (L+1) c9))) (.slice Ac s3.cons.length cc) s3.cons.length _ rfl [.string y.name,.int .i64 nn,.slice A5 lf.length c5,.slice A6 lf.length c6] (encCn ⟨y.name,nn,lf.map Prod.snd,lf.map Prod.fst⟩) rfl (by intro u hu; simp at hu; rcases hu with rfl | rfl | rfl | rfl <;> rfl) rfl Hnx.out.sm.oc HcV.out (by unfold maxLen; omega) (by omega) (Below.refl _ _) (Nat.le_refl _) Hnx.out.bel.size ?_; intro A8 c8 w15 ho8 hbel8 hg8 hz8 hn8; have hk15:=Hnx.out.bk.grown hg8 hgo; have y1':w15.cell? ⟨g,1,none⟩=some (.slice Ac s3.cons.length cc):=hk15.cell 1; have fy:=hk15.frozen 1)
                have hg8':¬ RowB (.slice (some ⟨gd,0,none⟩) s3.datas.length cd) (.slice A8 (s3.cons.length+1) c8) (vs.set nn (.slice A9 (L+1) c9)) g:=fun h=>by
                 rcases h with h | h | h
                 · exact Hnx.out.ng (Or.inl h)
                 · rcases hn8 with q | q
                   · exact Hnx.out.ng (Or.inr (Or.inl (q ▸ h)))
                   · rw[q] at h
                     injection h with h
                     omega
                 · exact Hnx.out.ng (Or.inr (Or.inr h))
                have hs9:=(Hnx.out.sm.con ho8 hg8 hz8 (hn8.imp id fun e=>⟨_,e,by omega⟩)).setR (p:=⟨g,1,none⟩) hg8' (Or.inr (Or.inl rfl)) (.slice A8 (s3.cons.length+1) c8)
                have hrow3:∀ b,(Value.slice Ac s3.cons.length cc).ownBlock=some b→RowB (.slice (some ⟨gd,0,none⟩) s3.datas.length cd) (.slice Ac s3.cons.length cc) (vs.set nn (.slice A9 (L+1) c9)) b:=fun b e=>Or.inr (Or.inl e);have hbt:ButS g (RowB (.slice (some ⟨gd,0,none⟩) s3.datas.length cd) (.slice Ac s3.cons.length cc) (vs.set nn (.slice A9 (L+1) c9))) w14 (w15.setCell ⟨g,1,none⟩ (.slice A8 (s3.cons.length+1) c8)):=((ButS.of (Below.refl _ _)).grown hg8 hrow3).set (Or.inl rfl) 1 (.slice A8 (s3.cons.length+1) c8)
                have hnx2:=Hnx.out.next (hk15.set_ 1 (.slice A8 (s3.cons.length+1) c8)) hs9 hbt (fun b' h=>by
                 rcases h with h | h | h
                 · exact Or.inl (Or.inl h)
                 · rcases hn8 with q | q
                   · exact Or.inl (Or.inr (Or.inl (q ▸ h)))
                   · rw[q] at h
                     injection h with h
                     exact Or.inr (by omega)
                 · exact Or.inl (Or.inr (Or.inr h)))
                have Hnx2:=qq hnx2;have hdc:(addCon s3 nn ⟨y.name,nn,lf.map Prod.snd,lf.map Prod.fst⟩).datas.length=s3.datas.length:=addCon_datas _ _ _
                have hcn:(addCon s3 nn ⟨y.name,nn,lf.map Prod.snd,lf.map Prod.fst⟩).cons.length=s3.cons.length+1:=by simp[addCon]
                have hsb2:=Hsb.out.add nn ⟨y.name,nn,lf.map Prod.snd,lf.map Prod.fst⟩ hlt;go_roundg (nc - (j+1))
                case measure=>omega
                case rel=>exact⟨j+1,addCon s3 nn ⟨y.name,nn,lf.map Prod.snd,lf.map Prod.fst⟩,some ⟨gd,0,none⟩,cd,A8,c8,vs.set nn (.slice A9 (L+1) c9),by omega,rfl,by go_num,by rw[hdc,hcn]; exact Hnx2.out,Hfn.out,hsb2,by rw[hdc]; exact Hdl3.out⟩
              · have dz:(d.e != 0)=true:=by simpa using hz
                have HE:Hid (checkE givenS l=.error d):=qq (by
                 cases hq:conE s3 nn x.params y with
                 | error gg=>rw[Hsp.out.1 gg hq]; exact HE0.out gg hq
                 | ok s'=>exact absurd (by rw[(Hsp.out.2 s' hq).1]; rfl) hz)
                clear hz;go_upto_region 23 with fail;refine wp_region_noPanic ?_;refine wp_region_T (fun w'=>w'.cell? ⟨Y,0,none⟩=some (.int .i64 d.e)∧w'.cell? ⟨Y,1,none⟩=some (.int .i64 d.p.at_)∧w'.cell? ⟨Y,2,none⟩=some (.int .i64 d.p.line)∧w'.cell? ⟨Y,3,none⟩=some (.int .i64 d.p.col)∧True) 3 (by kernel_rfl) ⟨z0,z1,z2,z3,trivial⟩ (fun hHeld=>?_);have H9:=qq ((HR10.out).below (Below.drew (Below.refl (w10).heap.size w10)));generalize (w10).drew=w9 at hHeld H9 ⊢;refine nx0 0 ?_
                iterate 2 (refine nx (v:=?_) rfl (by kernel_rfl) (fun _ _ _ h=>h) (by kernel_rfl) ?_ (by assumption) ?_; rotate_left; (focus (intro w hSw; (try dsimp only at hSw); first | (go_simp; done) | (go_simp; with_reducible rfl))); try simp only[Act.put,qg,qe,qf,qd,qh,qi,Nat.reduceAdd])
                refine nx9 ?_;have HQ:Hid (HeldL [(⟨Y,0,none⟩,.int .i64 d.e),(⟨Y,1,none⟩,.int .i64 d.p.at_),(⟨Y,2,none⟩,.int .i64 d.p.line),(⟨Y,3,none⟩,.int .i64 d.p.col)] w9):=qq hHeld;have hk0:=Hz0.out.below (H9.out).bel Hz0.out.lt;have hk1:=Hz1.out.below (H9.out).bel Hz1.out.lt;have r0:(w9).cell? ⟨w.heap.size,0,none⟩=some (.slice none 0 0):=hk0.cell 0;have r1:(w9).cell? ⟨w.heap.size,1,none⟩=some (.slice none 0 0):=hk0.cell 1;have u0:(w9).cell? ⟨w.heap.size+1,0,none⟩=some (.int .i64 0):=hk1.cell 0;have u1:(w9).cell? ⟨w.heap.size+1,1,none⟩=some (.int .i64 0):=hk1.cell 1;have u2:(w9).cell? ⟨w.heap.size+1,2,none⟩=some (.int .i64 0):=hk1.cell 2;have u3:(w9).cell? ⟨w.heap.size+1,3,none⟩=some (.int .i64 0):=hk1.cell 3;have s0:=hk0.frozen 0;have s1:=hk0.frozen 1;have t0:=hk1.frozen 0;have t1:=hk1.frozen 1;have t2:=hk1.frozen 2;have t3:=hk1.frozen 3;have Hk0:=qq hk0;have Hk1:=qq hk1;clear hk0 hk1;refine wpAnyT_step (i:=2) (by kernel_rfl) rfl (fun K hK=>?_);go_simp
                refine hK.out _ _ (HQ.out.setL (g:=w.heap.size) [(0,.slice none 0 0),(1,.slice none 0 0)] (by simp <;> omega)) ?_
                clear hK K
                try simp only[Act.put,qg,qe,qf,qd,qh,qi]
                refine wpAnyT_seq 3 (by omega) (by rfl) (by kernel_rfl) ?_;simp only[List.drop_succ_cons,List.drop_zero];go_wp2_with fail;refine NoPanic.normal ?_;go_wp2_with fail;clear r0 r1 u0 u1 u2 u3 s0 s1 t0 t1 t2 t3;have q0:=Blk.setL (g:=w.heap.size+1) (b:=w.heap.size) (by omega) [(0,.int .i64 (d).e),(1,.int .i64 (d).p.at_),(2,.int .i64 (d).p.line),(3,.int .i64 (d).p.col)] (blk_setL [(0,.slice none 0 0),(1,.slice none 0 0)] Hk0.out);have q1:=blk_setL [(0,.int .i64 (d).e),(1,.int .i64 (d).p.at_),(2,.int .i64 (d).p.line),(3,.int .i64 (d).p.col)] (Blk.setL (g:=w.heap.size) (b:=w.heap.size+1) (by omega) [(0,.slice none 0 0),(1,.slice none 0 0)] Hk1.out);have qb:=setL_below (g:=w.heap.size+1) (B:=w.heap.size) (by omega) [(0,.int .i64 (d).e),(1,.int .i64 (d).p.at_),(2,.int .i64 (d).p.line),(3,.int .i64 (d).p.col)] _ (setL_below (g:=w.heap.size) (Nat.le_refl _) [(0,.slice none 0 0),(1,.slice none 0 0)] _ (Hbz.out.trans (H9.out.bel.mono Hbz.out.size)));obtain⟨wf,hwf⟩:∃ q,setL (w.heap.size+1) [(0,.int .i64 (d).e),(1,.int .i64 (d).p.at_),(2,.int .i64 (d).p.line),(3,.int .i64 (d).p.col)] (setL w.heap.size [(0,.slice none 0 0),(1,.slice none 0 0)] w9)=q:=⟨_,rfl⟩;rw[hwf] at q0 q1 qb;simp only[setL] at hwf;rw[hwf];have v0:wf.cell? ⟨w.heap.size,0,none⟩=some (.slice none 0 0):=q0.cell 0;have v1:wf.cell? ⟨w.heap.size,1,none⟩=some (.slice none 0 0):=q0.cell 1;have v2:wf.cell? ⟨w.heap.size+1,0,none⟩=some (.int .i64 (d).e):=q1.cell 0;have v3:wf.cell? ⟨w.heap.size+1,1,none⟩=some (.int .i64 (d).p.at_):=q1.cell 1;have v4:wf.cell? ⟨w.heap.size+1,2,none⟩=some (.int .i64 (d).p.line):=q1.cell 2;have v5:wf.cell? ⟨w.heap.size+1,3,none⟩=some (.int .i64 (d).p.col):=q1.cell 3;exact bodyPost_ret (v:=.tuple #[.agg #[.slice none 0 0,.slice none 0 0],.agg #[.int .i64 (d).e,.int .i64 (d).p.at_,.int .i64 (d).p.line,.int .i64 (d).p.col]]) (by simp[results,Tryd.results21,go_sem,v0,v1,v2,v3,v4,v5]) rfl ⟨none,0,0,none,0,0,d,rfl,qb,Or.inl ⟨_,HE.out,rfl,rfl,rfl,rfl,rfl,rfl,rfl⟩⟩
          · have d0:decide (j<nc)=false:=by simpa using hjn
            have hall:x.cons.take j=x.cons:=List.take_of_length_le (by omega);have Hnx:Hid (foldE bodyS (9,s) (own.take (k+1))=.ok (9+k+1,s3)):=qq (Hfok.out _ (by rw[Hn9.out,Hgo.out,← Hfd3.out,hall]));clear hall hp hcs;go_wp2_with fail;clear e5 e6;go_roundg (J - (k+1))
            case measure=>omega
            case rel=>exact⟨k+1,s3,Ad,cd,Ac,cc,vs,by omega,rfl,by go_num,HR.out,Hnx.out,Hsb.out,hdl3⟩
     · have d0:decide (k<J)=false:=by simpa using hkn
       have hall:own.take k=own:=List.take_of_length_le (by rw[HJ.out]; omega)
       have HE:Hid (checkE givenS l=.ok s2):=qq (by rw[Hck.out,← hall,Hfd.out]);have HR9:=HR;obtain⟨y0,y1⟩:=HR.out.c;have hk0:=Hz0.out.below (HR9.out).bel Hz0.out.lt;have hk1:=Hz1.out.below (HR9.out).bel Hz1.out.lt;have r0:(w1).cell? ⟨w.heap.size,0,none⟩=some (.slice none 0 0):=hk0.cell 0;have r1:(w1).cell? ⟨w.heap.size,1,none⟩=some (.slice none 0 0):=hk0.cell 1;have u0:(w1).cell? ⟨w.heap.size+1,0,none⟩=some (.int .i64 0):=hk1.cell 0;have u1:(w1).cell? ⟨w.heap.size+1,1,none⟩=some (.int .i64 0):=hk1.cell 1;have u2:(w1).cell? ⟨w.heap.size+1,2,none⟩=some (.int .i64 0):=hk1.cell 2;have u3:(w1).cell? ⟨w.heap.size+1,3,none⟩=some (.int .i64 0):=hk1.cell 3;have s0:=hk0.frozen 0;have s1:=hk0.frozen 1;have t0:=hk1.frozen 0;have t1:=hk1.frozen 1;have t2:=hk1.frozen 2;have t3:=hk1.frozen 3;have Hk0:=qq hk0;have Hk1:=qq hk1;clear hk0 hk1;clear hall hdl;go_wp2_with fail;clear r0 r1 u0 u1 u2 u3 s0 s1 t0 t1 t2 t3 y0 y1;have q0:=Blk.setL (g:=w.heap.size+1) (b:=w.heap.size) (by omega) [(0,.int .i64 0),(1,.int .i64 0),(2,.int .i64 0),(3,.int .i64 0)] (blk_setL [(0,.slice Ad s2.datas.length cd),(1,.slice Ac s2.cons.length cc)] Hk0.out);have q1:=blk_setL [(0,.int .i64 0),(1,.int .i64 0),(2,.int .i64 0),(3,.int .i64 0)] (Blk.setL (g:=w.heap.size) (b:=w.heap.size+1) (by omega) [(0,.slice Ad s2.datas.length cd),(1,.slice Ac s2.cons.length cc)] Hk1.out);have qb:=setL_below (g:=w.heap.size+1) (B:=w.heap.size) (by omega) [(0,.int .i64 0),(1,.int .i64 0),(2,.int .i64 0),(3,.int .i64 0)] _ (setL_below (g:=w.heap.size) (Nat.le_refl _) [(0,.slice Ad s2.datas.length cd),(1,.slice Ac s2.cons.length cc)] _ (Hbz.out.trans (HR9.out.bel.mono Hbz.out.size)))
       have z0:w.heap.size<wz.heap.size:=by omega
       have z1:w.heap.size+1<wz.heap.size:=by omega
       have qs:=(((((HR9.out.sm.set (p:=⟨w.heap.size,0,none⟩) z0 (Or.inl z0) (.slice Ad s2.datas.length cd)).set (p:=⟨w.heap.size,1,none⟩) z0 (Or.inl z0) (.slice Ac s2.cons.length cc)).set (p:=⟨w.heap.size+1,0,none⟩) z1 (Or.inl z1) (.int .i64 0)).set (p:=⟨w.heap.size+1,1,none⟩) z1 (Or.inl z1) (.int .i64 0)).set (p:=⟨w.heap.size+1,2,none⟩) z1 (Or.inl z1) (.int .i64 0)).set (p:=⟨w.heap.size+1,3,none⟩) z1 (Or.inl z1) (.int .i64 0);have qr:=qs.sigR;obtain⟨wf,hwf⟩:∃ q,setL (w.heap.size+1) [(0,.int .i64 0),(1,.int .i64 0),(2,.int .i64 0),(3,.int .i64 0)] (setL w.heap.size [(0,.slice Ad s2.datas.length cd),(1,.slice Ac s2.cons.length cc)] w1)=q:=⟨_,rfl⟩;rw[hwf] at q0 q1 qb;simp only[setL] at hwf;rw[hwf] at qr ⊢;have v0:wf.cell? ⟨w.heap.size,0,none⟩=some (.slice Ad s2.datas.length cd):=q0.cell 0;have v1:wf.cell? ⟨w.heap.size,1,none⟩=some (.slice Ac s2.cons.length cc):=q0.cell 1;have v2:wf.cell? ⟨w.heap.size+1,0,none⟩=some (.int .i64 0):=q1.cell 0;have v3:wf.cell? ⟨w.heap.size+1,1,none⟩=some (.int .i64 0):=q1.cell 1;have v4:wf.cell? ⟨w.heap.size+1,2,none⟩=some (.int .i64 0):=q1.cell 2;have v5:wf.cell? ⟨w.heap.size+1,3,none⟩=some (.int .i64 0):=q1.cell 3;exact bodyPost_ret (v:=.tuple #[.agg #[.slice Ad s2.datas.length cd,.slice Ac s2.cons.length cc],.agg #[.int .i64 0,.int .i64 0,.int .i64 0,.int .i64 0]]) (by simp[results,Tryd.results21,go_sem,v0,v1,v2,v3,v4,v5]) rfl ⟨_,_,_,_,_,_,diagZ,rfl,qb,Or.inr ⟨s2,HE.out,rfl,qr⟩⟩
end Go.Proofs.YtgpeijkjmkocgaaDoor
