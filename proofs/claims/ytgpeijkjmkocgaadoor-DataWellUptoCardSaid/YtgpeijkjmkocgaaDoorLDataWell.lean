/- DataWell holds: what data.Check tells may be, begins with what is given, has all that is declared. Conditions: what it reads is of bulk at most 1048576. -/
import Derived.Test.YtgpeijkjmkocgaaDoorM28
import Derived.Test.YtgpeijkjmkocgaaDoorM29
import Derived.Deep.DeepHandedRow
set_option linter.unusedVariables false
set_option linter.unusedSimpArgs false
set_option maxHeartbeats 8000000
set_option maxRecDepth 100000
namespace Go.Proofs.YtgpeijkjmkocgaaDoor
open Go.ChangeShapes Go.WideShapes Go.ChangeAt Go.RowKit
theorem walk_dataWell {H:Type} {w:World} {d0:DataW H} (ht:Tab w) (hk:Rows.uptoBulkAll [d0]≤1048576) (v0:Value) (w0:DclsB w v0 d0):Calls Tryd.prog 5 #[v0] w fun e w'=>e=.returned (.bool true)∧Below w.heap.size w w':=by
  obtain⟨A,n,c,l,rfl,hl,hn,hok⟩:=w0
  have hbk:Rows.uptoBulk d0≤1048576:=by simp only[Rows.uptoBulkAll] at hk; omega
  have hn6:n≤1048576:=by omega
  have hlen:l.length=n:=hl.len;have Hone:Hid (∀ d∈l,d.one):=qq fun d hd=>(hok d hd).1
  have Hnm:Hid (∀ d∈l,d.name.size≤1048576∧∀ c∈d.cons,c.name.size≤1048576):=qq fun d hd=>⟨by have:=(hok d hd).2.1; omega,fun c hc=>by have:=(hok d hd).2.2 c hc; omega⟩
  have Ht:=qq ht;have HL:=qq hl;have hq:=great13_any A n c l w hl Hone.out;have Hq:=qq hq;clear ht hk hn hok hl hbk hq
  go_enter Tryd.func5,Tryd.ntmps5
  go_wp2_with fail;refine Hq.out.mono ?_;rintro e w1 ⟨⟨r,rfl⟩,hb1⟩;have Hb1:=qq hb1;clear hb1 Hq
  cases r with
  | true=>
    go_wp2_with fail;refine(works_any w1 (Ht.out.below Hb1.out)).mono ?_;rintro e w2 ⟨rfl,hb2⟩;have Hb2:=qq (Hb1.out.trans (hb2.mono Hb1.out.size));clear hb2;go_wp2_with fail;go_ret;exact⟨rfl,Hb2.out⟩
  | false=>
    go_wp2_with fail;refine(check_any A n c l w1 (HL.out.fresh Hb1.out) Hone.out (by omega)).mono ?_;rintro e w2 ⟨A1,n1,c1,A2,n2,c2,dg,rfl,hb2,hor⟩;have Hb2:=qq (Hb1.out.trans (hb2.mono Hb1.out.size));have Hor:=qq hor;clear hb2 hor Hb1;go_upto_region 4 with fail;have g3:=below_box (w:=w2) (Obj.cells #[.slice A1 n1 c1,.slice A2 n2 c2] 25);have k3:=blk_new w2 #[.slice A1 n1 c1,.slice A2 n2 c2] 25;obtain⟨w3,hw3⟩:∃ q,w2.alloc (Obj.cells #[.slice A1 n1 c1,.slice A2 n2 c2] 25)=q:=⟨_,rfl⟩
    have s3:w3.heap.size=w2.heap.size+1:=by rw[← hw3]; simp
    rw[hw3] at g3 k3 ⊢;have g4:=below_box (w:=w3) (Obj.cells #[.int .i64 dg.e,.int .i64 dg.p.at_,.int .i64 dg.p.line,.int .i64 dg.p.col] 30);have k4:=blk_new w3 #[.int .i64 dg.e,.int .i64 dg.p.at_,.int .i64 dg.p.line,.int .i64 dg.p.col] 30;obtain⟨w4,hw4⟩:∃ q,w3.alloc (Obj.cells #[.int .i64 dg.e,.int .i64 dg.p.at_,.int .i64 dg.p.line,.int .i64 dg.p.col] 30)=q:=⟨_,rfl⟩;rw[hw4,s3] at k4;rw[hw4] at g4 ⊢;have hb24:=g3.trans (g4.mono g3.size);have Hk4:=qq (k3.below g4 k3.lt);have Hb24:=qq hb24;have Hb4:=qq (Hb2.out.trans (hb24.mono Hb2.out.size));obtain⟨bs,hbs⟩:∃ q,w2.heap.size=q:=⟨_,rfl⟩;have x0:w4.cell? ⟨bs,0,none⟩=some (.slice A1 n1 c1):=hbs ▸ Hk4.out.cell 0;have x1:w4.cell? ⟨bs,1,none⟩=some (.slice A2 n2 c2):=hbs ▸ Hk4.out.cell 1;have z0:w4.cell? ⟨bs+1,0,none⟩=some (.int .i64 dg.e):=hbs ▸ k4.cell 0;rw[hbs] at Hk4 ⊢;clear g3 g4 k3 k4 hw3 hw4 s3 hb24
    rcases Hor.out with ⟨g,hg,rfl,rfl,rfl,rfl,rfl,rfl,rfl⟩ | ⟨z,hz,rfl,hsig⟩
    · have hge:=checkE_ne hg
      have d0e:(dg.e != 0)=true:=by simpa using hge
      clear hge hg Hor;go_wp2_with fail;refine(works_any w4 (Ht.out.below Hb4.out)).mono ?_;rintro e w5 ⟨rfl,hb5⟩;have Hb5:=qq (Hb4.out.trans (hb5.mono Hb4.out.size));clear hb5 x0 x1 z0;go_wp2_with fail;go_ret;exact⟨rfl,Hb5.out⟩
    · have Hck:=qq (checked hz)
      have Hsig:=qq (hsig.fresh Hb24.out);have hn1:z.datas.length=n1:=hsig.datas.len;have hn2:z.cons.length=n2:=hsig.cons.len;have hdl:=Hck.out.dlen;have hcl:=Hck.out.clen;have h40:=Hck.out.good.dl;have h100:=Hck.out.good.cl;have hc1:n1≤c1:=hsig.datas.2.1;have hc2:n2≤c2:=hsig.cons.2.1;have c163:c1≤9223372036854775807:=hsig.datas.2.2.1;have c263:c2≤9223372036854775807:=hsig.cons.2.2.1;clear Hor hz hsig;simp only[diagZ,posZ] at z0 ⊢;go_wp2_with fail;refine(given_sig w4).mono ?_;rintro e w5 ⟨A3,n3,c3,A5,n5,c5,rfl,hgs,hb5⟩;have hn3:givenS.datas.length=n3:=hgs.datas.len;have hn5:givenS.cons.length=n5:=hgs.cons.len;rw[given_datas] at hn3;rw[given_cons] at hn5
      subst hn3; subst hn5
      have Hgs:=qq hgs;have Hb5:=qq hb5;clear hgs hb5 x0 x1 z0;go_upto_region 7 with fail;have g6:=below_box (w:=w5) (Obj.cells #[.slice A3 9 c3,.slice A5 15 c5] 25);have k6:=blk_new w5 #[.slice A3 9 c3,.slice A5 15 c5] 25;obtain⟨w6,hw6⟩:∃ q,w5.alloc (Obj.cells #[.slice A3 9 c3,.slice A5 15 c5] 25)=q:=⟨_,rfl⟩;rw[hw6] at g6 k6 ⊢;obtain⟨bg,hbg⟩:∃ q,w5.heap.size=q:=⟨_,rfl⟩;have hb46:=Hb5.out.trans (g6.mono Hb5.out.size);have Hks:=qq (Hk4.out.below hb46 Hk4.out.lt);rw[hbg] at k6 ⊢;have Hkg:=qq k6;have Hgs6:=qq (Hgs.out.fresh g6);have Hsig6:=qq (Hsig.out.fresh hb46);have Hb6:=qq (Hb4.out.trans (hb46.mono Hb4.out.size));clear g6 k6 hw6 hbg hb46 Hgs Hsig Hb5 Hk4 Hb4 Hb24 Hb2;have x0:w6.cell? ⟨bs,0,none⟩=some (.slice A1 n1 c1):=Hks.out.cell 0;have x1:w6.cell? ⟨bs,1,none⟩=some (.slice A2 n2 c2):=Hks.out.cell 1;have y0:w6.cell? ⟨bg,0,none⟩=some (.slice A3 9 c3):=Hkg.out.cell 0;have y1:w6.cell? ⟨bg,1,none⟩=some (.slice A5 15 c5):=Hkg.out.cell 1
      have l1:decide ((n1:Int)<9)=false:=by simp; omega
      have l1n:decide (n1<9)=false:=by simp; omega
      have l2:decide ((n2:Int)<15)=false:=by simp; omega
      have l2n:decide (n2<15)=false:=by simp; omega
      have l3:(9:Int)≤(c1:Int):=by omega
      have l4:(15:Int)≤(c2:Int):=by omega
      refine wp_region_noPanic ?_;refine wp_region_T (fun w'=>w'.cell? ⟨bs,0,none⟩=some (.slice A1 n1 c1)∧w'.cell? ⟨bs,1,none⟩=some (.slice A2 n2 c2)∧w'.cell? ⟨bg,0,none⟩=some (.slice A3 9 c3)∧w'.cell? ⟨bg,1,none⟩=some (.slice A5 15 c5)) 39 (by kernel_rfl) ⟨x0,x1,y0,y1⟩ (fun hHeld=>?_);have H7:=qq (Below.drew (Below.refl w6.heap.size w6));clear x0 x1 y0 y1;generalize w6.drew=w7 at hHeld H7 ⊢;refine nx0 0 ?_
      iterate 1 (refine nx (v:=?_) rfl (by kernel_rfl) (fun _ _ _ h=>h) (by kernel_rfl) ?_ (by assumption) ?_; rotate_left; (focus (intro w hSw; (try dsimp only at hSw); first | (go_simp; done) | (go_simp; with_reducible rfl))); try simp only[Act.put,qg,qe,qf,qd,qh,qi,Nat.reduceAdd])
      refine nx9 ?_;refine wpAnyT_step (i:=1) (by kernel_rfl) rfl (fun K hK=>?_)
      (go_simp; refine(may13_any z _ n1 c1 _ n2 c2 w7 (Hsig6.out.fresh H7.out) (fun x hx=>(Hck.out.names Hnm.out).1 x hx) (fun x hx=>(Hck.out.names Hnm.out).2 x hx)).mono ?_; rintro e w8 ⟨rfl,hq8⟩; have H8:=qq (H7.out.trans (hq8.mono H7.out.size)); rw[Hck.out.may]; replace hHeld:=And.intro ((hq8.cell (block_lt_of_cell hHeld.1)).trans hHeld.1) (And.intro ((hq8.cell (block_lt_of_cell hHeld.2.1)).trans hHeld.2.1) (And.intro ((hq8.cell (block_lt_of_cell hHeld.2.2.1)).trans hHeld.2.2.1) ((hq8.cell (block_lt_of_cell hHeld.2.2.2)).trans hHeld.2.2.2))); clear hq8)
      refine hK.out _ _ hHeld ?_;clear hK K
      try simp only[Act.put,qg,qe,qf,qd,qh,qi]
      clear H7;refine nx0 2 ?_
      iterate 34 (refine nx (v:=?_) rfl (by kernel_rfl) (fun _ _ _ h=>h) (by kernel_rfl) ?_ (by assumption) ?_; rotate_left; (focus (intro w hSw; (try dsimp only at hSw); first | (go_simp; done) | (go_simp; with_reducible rfl))); try simp only[Act.put,qg,qe,qf,qd,qh,qi,Nat.reduceAdd])
      refine nx9 ?_;refine wpAnyT_step (i:=36) (by kernel_rfl) rfl (fun K hK=>?_)
      (go_simp; refine(refSame13_any givenS A3 9 c3 A5 15 c5 A1 9 c1 A2 15 c2 w8 (Hgs6.out.fresh H8.out) ⟨by have:=(Hsig6.out.fresh H8.out).datas.take (i:=9) (by omega); rw[Hck.out.td] at this; exact this,by have:=(Hsig6.out.fresh H8.out).cons.take (i:=15) (by omega); rw[Hck.out.tk] at this; exact this⟩ given_mf).mono ?_; rintro e w9 ⟨rfl,hq9⟩; have H9:=qq (H8.out.trans (hq9.mono H8.out.size)); replace hHeld:=And.intro ((hq9.cell (block_lt_of_cell hHeld.1)).trans hHeld.1) (And.intro ((hq9.cell (block_lt_of_cell hHeld.2.1)).trans hHeld.2.1) (And.intro ((hq9.cell (block_lt_of_cell hHeld.2.2.1)).trans hHeld.2.2.1) ((hq9.cell (block_lt_of_cell hHeld.2.2.2)).trans hHeld.2.2.2))); clear hq9)
      refine hK.out _ _ hHeld ?_;clear hK K
      try simp only[Act.put,qg,qe,qf,qd,qh,qi]
      clear H8;refine nx0 37 ?_
      iterate 2 (refine nx (v:=?_) rfl (by kernel_rfl) (fun _ _ _ h=>h) (by kernel_rfl) ?_ (by assumption) ?_; rotate_left; (focus (intro w hSw; (try dsimp only at hSw); first | (go_simp; done) | (go_simp; with_reducible rfl))); try simp only[Act.put,qg,qe,qf,qd,qh,qi,Nat.reduceAdd])
      refine nx9 ?_;clear hHeld;refine wpAnyT_seq 39 (by omega) (by rfl) (by kernel_rfl) ?_;simp only[List.drop_succ_cons,List.drop_zero];go_wp2_with fail;refine NoPanic.normal ?_;go_upto_region 9 with fail;have Hks9:=qq (Hks.out.below H9.out Hks.out.lt);have Hkg9:=qq (Hkg.out.below H9.out Hkg.out.lt);have y0:w9.cell? ⟨bg,0,none⟩=some (.slice A3 9 c3):=Hkg9.out.cell 0;have y1:w9.cell? ⟨bg,1,none⟩=some (.slice A5 15 c5):=Hkg9.out.cell 1;refine wp_region_noPanic ?_;refine wp_region_T (fun w'=>w'.cell? ⟨bg,0,none⟩=some (.slice A3 9 c3)∧w'.cell? ⟨bg,1,none⟩=some (.slice A5 15 c5)) 8 (by kernel_rfl) ⟨y0,y1⟩ (fun hHeld=>?_);have H10:=qq (H9.out.trans ((Below.drew (Below.refl w9.heap.size w9)).mono H9.out.size));clear y0 y1 Hks9 Hkg9;generalize w9.drew=w10 at hHeld H10 ⊢;clear H9;refine nx0 0 ?_
      iterate 8 (refine nx (v:=?_) rfl (by kernel_rfl) (fun _ _ _ h=>h) (by kernel_rfl) ?_ (by assumption) ?_; rotate_left; (focus (intro w hSw; (try dsimp only at hSw); first | (go_simp; done) | (go_simp; with_reducible rfl))); try simp only[Act.put,qg,qe,qf,qd,qh,qi,Nat.reduceAdd])
      refine nx9 ?_;clear hHeld;refine wpAnyT_seq 8 (by omega) (by rfl) (by kernel_rfl) ?_;simp only[List.drop_succ_cons,List.drop_zero];go_wp2_with fail;refine NoPanic.normal ?_;go_wp2_with fail
      go_loopg [6,7,84] n (fun gh s6 s7 i wr=>∃ k:Nat,k≤n∧gh=n - k∧s6=.int .i64 ((9+(ownL (l.take k)).length:Nat):Int)∧s7=.int .i64 ((15+sumC (ownL (l.take k)):Nat):Int)∧i=.int .i64 (k:Nat)∧Below w6.heap.size w6 wr)
      case atStart=>exact⟨0,Nat.zero_le _,rfl,rfl,rfl,rfl,H10.out⟩
      case round=>
        clear H10;obtain⟨k,hk,rfl,rfl,rfl,rfl,hbel⟩:=hrel;obtain⟨w11,hw11⟩:∃ q,q=wr:=⟨_,rfl⟩;subst hw11;obtain⟨J,hJ⟩:∃ J,9+(ownL (l.take k)).length=J:=⟨_,rfl⟩;obtain⟨C,hC⟩:∃ C,15+sumC (ownL (l.take k))=C:=⟨_,rfl⟩;rw[hJ,hC];have HJ:=qq hJ;have HC:=qq hC;have Hbel:=qq hbel;have Hbw:=qq (Hb6.out.trans (hbel.mono Hb6.out.size));clear hbel hJ hC
        by_cases hkn:k<n
        · have d0:decide (k<n)=true:=by simpa using hkn
          have hk':k<l.length:=by omega
          obtain⟨b,off,rfl,hb,hc⟩:=decl_at HL.out (by omega);obtain⟨Ap,np,cp,Ac,nc,cc,hrg,hp,hcs⟩:=hc k hk';have h1c:=Hone.out _ (List.getElem_mem hk');have hno:=fun h=>ownL_take_not hk' h;have hye:=fun h=>ownL_take_own hk' h;have hat:=fun h=>ownL_at hk' h;obtain⟨x,hx⟩:∃ x,l[k]=x:=⟨_,rfl⟩;rw[hx] at hrg hp hcs h1c;simp only[hx] at hno hye hat;have p63:np≤9223372036854775807:=hp.cap;have c63:nc≤9223372036854775807:=hcs.cap;have hpl:x.params.length=np:=hp.len;have hcl':x.cons.length=nc:=hcs.len;have hrg5:w11.rangeAt b (off+k * 16) (dlCells x Ap np cp Ac nc cc).toList:=fun j v hj=>(Hbw.out.cell (p:=⟨b,off+k * 16+j,none⟩) hb).trans (hrg j v hj);have H1c:=qq (Array.all_eq_true_iff_forall_mem.2 fun v hv=>dlCells_one x h1c Ap np cp Ac nc cc v (by simpa using hv));have Hcs:=qq hcs;have Hno:=qq hno;have Hye:=qq hye;have Hat:=qq hat
          have j1:(0:Int)≤(k:Int):=by omega
          have j2:(k:Int)<n:=by omega
          clear hc hrg hp hcs h1c hx hno hye hat;go_upto_region 12 with fail;refine wp_region_list ?_;refine wpList_plain rfl fun K hK=>?_;go_simp;refine hK _ _ ?_;clear hK K;refine wpList_load_mid rfl 40 (.tmp 86) rfl b (off+k * 16) rfl (dlCells x Ap np cp Ac nc cc).toList _ hrg5 Tryd.underlying40 rfl (by kernel_rfl) ?_;clear hrg5;refine wpList_plain rfl fun K hK=>?_;go_simp;refine hK _ _ ?_;clear hK K;refine wpList_store_new rfl 40 (.tmp 9) (.tmp 87) rfl #[.int .u8 0,.string ByteArray.empty,.int .i64 0,.int .i64 0,.int .i64 0,.slice none 0 0,.slice none 0 0,.bool false,.int .u8 0,.string ByteArray.empty,.int .i64 0,.int .i64 0,.int .i64 0,.int .i64 0,.slice none 0 0,.slice none 0 0] (dlCells x Ap np cp Ac nc cc) rfl rfl (by kernel_rfl) rfl H1c.out ?_;have hbx:=below_box (w:=w11) (Obj.cells (dlCells x Ap np cp Ac nc cc) 40);have hkx:=blk_new w11 (dlCells x Ap np cp Ac nc cc) 40;obtain⟨w12,hw12⟩:∃ q,w11.alloc (Obj.cells (dlCells x Ap np cp Ac nc cc) 40)=q:=⟨_,rfl⟩;rw[hw12] at hbx hkx ⊢;obtain⟨b9,hb9⟩:∃ q,w11.heap.size=q:=⟨_,rfl⟩;rw[hb9] at hkx ⊢;have H12:=qq (Hbel.out.trans (hbx.mono Hbel.out.size));have Hkx:=qq hkx;have y0:w12.cell? ⟨b9,0,none⟩=some (.int .u8 x.k):=hkx.cell 0;clear hbx hkx hw12 hb9 Hbel Hbw
          by_cases h2:x.k=2
          · have e1:(x.k != 1)=true:=by simp[h2]
            have ho:=Hno.out h2;have Ho:=qq ho;clear h2 ho;go_wp2_with fail;go_roundg (n - (k+1))
            case measure=>omega
            case rel=>exact⟨k+1,by omega,rfl,by rw[Ho.out,HJ.out],by rw[Ho.out,HC.out],by go_num,H12.out⟩
          · obtain⟨hj,hoj,htk⟩:=Hat.out h2
            obtain⟨j,hjj⟩:∃ j,(ownL (l.take k)).length=j:=⟨_,rfl⟩
            have hkk:x.k=1:=by
              have:=Hck.out.kk _ (List.getElem_mem hj);rw[hoj] at this;exact this
            have e1:(x.k != 1)=false:=by simp[hkk]
            obtain⟨hd,hd1,hd2,hd3⟩:=Hck.out.dat hj;rw[hoj] at hd1 hd2 hd3;have HyE:=qq (Hye.out h2)
            have hqa:=fun q (hq:q<x.cons.length)=>Hck.out.at_ (q:=q) hj (by rw[hoj]; exact hq)
            have hjJ:9+(ownL (l.take k)).length=J:=HJ.out;obtain⟨b',off',rfl,hb',hcd⟩:=datas_at (Hsig6.out.fresh H12.out).datas (by omega);obtain⟨q0,q1,Am,mc,cm,q2,hM⟩:=hcd _ hd;have hml:=hM.len;rw[hd1] at q0;rw[hd2] at q1;rw[hjJ] at q0 q1 q2
            have hmc:mc=nc:=by rw[← hml,hd3,hcl']
            rw[hpl] at q1;rw[hmc] at q2
            have hJn:J<n1:=by rw[← hjJ]; omega
            have m1:(0:Int)≤(J:Int):=by omega
            have m2:(J:Int)<n1:=by omega
            have g1:decide ((J:Int)≥(n1:Int))=false:=by simp; omega
            have g1':decide ((n1:Int)≤(J:Int))=false:=by simp; omega
            have g1n:decide (n1≤J)=false:=by simp; omega
            have g2:((np:Int) != (np:Int))=false:=by simp
            have g3:((nc:Int) != (nc:Int))=false:=by simp
            have Hqa:Hid (∀ q (hq:q<x.cons.length),∃ hc:C+q<z.cons.length,z.cons[C+q].name=x.cons[q].name∧z.cons[C+q].data=(J:Int)∧z.cons[C+q].fields.length=x.cons[q].fields.length∧idxC z.cons x.cons[q].name=((C+q:Nat):Int)):=qq fun q hq=>by
              obtain⟨h1,h2,h3,h4,h5⟩:=hqa q hq;simp only[htk,HC.out,hoj,HJ.out] at h1 h2 h3 h4 h5;exact⟨h1,h2,h3,h4,h5⟩
            have y1:w12.cell? ⟨b9,1,none⟩=some (.string x.name):=Hkx.out.cell 1;have y5:w12.cell? ⟨b9,5,none⟩=some (.slice Ap np cp):=Hkx.out.cell 5;have y6:w12.cell? ⟨b9,6,none⟩=some (.slice Ac nc cc):=Hkx.out.cell 6;have Hks12:=qq (Hks.out.below H12.out Hks.out.lt);have x0:w12.cell? ⟨bs,0,none⟩=some (.slice (some ⟨b',off',none⟩) n1 c1):=Hks12.out.cell 0;clear hqa hcd hml hd1 hd2 hd3 hkk hoj htk hM hjJ h2 hmc;go_upto_region 14 with fail;refine wp_region_noPanic ?_;refine wp_region_T (fun w'=>w'.cell? ⟨bs,0,none⟩=some (.slice (some ⟨b',off',none⟩) n1 c1)∧w'.cell? ⟨b',off'+J * 3,none⟩=some (.string x.name)∧w'.cell? ⟨b',off'+J * 3+1,none⟩=some (.int .i64 (np:Nat))∧w'.cell? ⟨b',off'+J * 3+2,none⟩=some (.slice Am nc cm)∧w'.cell? ⟨b9,1,none⟩=some (.string x.name)∧w'.cell? ⟨b9,5,none⟩=some (.slice Ap np cp)∧w'.cell? ⟨b9,6,none⟩=some (.slice Ac nc cc)) 41 (by kernel_rfl) ⟨x0,q0,q1,q2,y1,y5,y6⟩ (fun hHeld=>?_);have H13:=qq (H12.out.trans ((Below.drew (Below.refl w12.heap.size w12)).mono H12.out.size));have Hkx3:=qq (Hkx.out.below (Below.drew (Below.refl w12.heap.size w12)) Hkx.out.lt);clear x0 q0 q1 q2 y0 y1 y5 y6 Hks12;generalize w12.drew=w13 at hHeld H13 Hkx3 ⊢;clear H12 Hkx;refine nx0 0 ?_
            iterate 41 (refine nx (v:=?_) rfl (by kernel_rfl) (fun _ _ _ h=>h) (by kernel_rfl) ?_ (by assumption) ?_; rotate_left; (focus (intro w hSw; (try dsimp only at hSw); first | (go_simp; done) | (go_simp; with_reducible rfl))); try simp only[Act.put,qg,qe,qf,qd,qh,qi,Nat.reduceAdd])
            refine nx9 ?_;clear hHeld;refine wpAnyT_seq 41 (by omega) (by rfl) (by kernel_rfl) ?_;simp only[List.drop_succ_cons,List.drop_zero];go_wp2_with fail;refine NoPanic.normal ?_;have y6:w13.cell? ⟨b9,6,none⟩=some (.slice Ac nc cc):=Hkx3.out.cell 6;go_wp2_with fail;clear y6
            go_loopg [7,135] nc (fun gh s7 i wr=>∃ q:Nat,q≤nc∧gh=nc - q∧s7=.int .i64 ((C+q:Nat):Int)∧i=.int .i64 (q:Nat)∧Below w6.heap.size w6 wr)
            case atStart=>exact⟨0,Nat.zero_le _,rfl,rfl,rfl,H13.out⟩
            case round=>
              clear H13 Hkx3;obtain⟨q,hq,rfl,rfl,rfl,hbel⟩:=hrel;obtain⟨w14,hw14⟩:∃ q,q=wr:=⟨_,rfl⟩;subst hw14;obtain⟨P,hP⟩:∃ P,C+q=P:=⟨_,rfl⟩;rw[hP];have HP:=qq hP;have Hbel:=qq hbel;have Hbw:=qq (Hb6.out.trans (hbel.mono Hb6.out.size));clear hbel hP
              by_cases hqn:q<nc
              · have d1:decide (q<nc)=true:=by simpa using hqn
                have hq':q<x.cons.length:=by omega
                obtain⟨bc,oc,rfl,hbc,hcc⟩:=condecl_at Hcs.out (by omega);obtain⟨t0,t1,t2,t3,Af,nf,cf,t4,hF⟩:=hcc q hq';obtain⟨hPc,a1,a2,a3,a4⟩:=Hqa.out q hq';obtain⟨y,hy⟩:∃ y,y=x.cons[q]'hq':=⟨_,rfl⟩;rw[← hy] at t0 t1 t2 t3 hF a1 a3 a4;simp only[HP.out] at hPc a1 a2 a3 a4;have f63:nf≤9223372036854775807:=hF.cap;have hfl:y.fields.length=nf:=hF.len;rw[hfl] at a3;have u0:=(Hbw.out.cell (p:=⟨bc,oc+q * 5,none⟩) hbc).trans t0;have u1:=(Hbw.out.cell (p:=⟨bc,oc+q * 5+1,none⟩) hbc).trans t1;have u2:=(Hbw.out.cell (p:=⟨bc,oc+q * 5+2,none⟩) hbc).trans t2;have u3:=(Hbw.out.cell (p:=⟨bc,oc+q * 5+3,none⟩) hbc).trans t3;have u4:=(Hbw.out.cell (p:=⟨bc,oc+q * 5+4,none⟩) hbc).trans t4
                have v1:(0:Int)≤(q:Int):=by omega
                have v2:(q:Int)<nc:=by omega
                have A2':=qq a2;have A3':=qq a3;have A4':=qq a4;clear t0 t1 t2 t3 t4 hcc hF hy hq' a1 a2 a3 a4 hfl;go_upto_region 19 with fail;have hbx:=below_box (w:=w14) (Obj.cells #[.string y.name,.int .i64 y.p.at_,.int .i64 y.p.line,.int .i64 y.p.col,.slice Af nf cf] 71);have hkx:=blk_new w14 #[.string y.name,.int .i64 y.p.at_,.int .i64 y.p.line,.int .i64 y.p.col,.slice Af nf cf] 71;obtain⟨w15,hw15⟩:∃ q,w14.alloc (Obj.cells #[.string y.name,.int .i64 y.p.at_,.int .i64 y.p.line,.int .i64 y.p.col,.slice Af nf cf] 71)=q:=⟨_,rfl⟩;rw[hw15] at hbx hkx ⊢;obtain⟨b8,hb8⟩:∃ q,w14.heap.size=q:=⟨_,rfl⟩;rw[hb8] at hkx ⊢;have H15:=qq (Hbel.out.trans (hbx.mono Hbel.out.size));have Hkx5:=qq hkx;have Hks15:=qq (Hks.out.below H15.out Hks.out.lt);clear u0 u1 u2 u3 u4 hbx hkx hw15 hb8 Hbel Hbw;have u0:w15.cell? ⟨b8,0,none⟩=some (.string y.name):=Hkx5.out.cell 0;have x0:w15.cell? ⟨bs,0,none⟩=some (.slice (some ⟨b',off',none⟩) n1 c1):=Hks15.out.cell 0;have x1:w15.cell? ⟨bs,1,none⟩=some (.slice A2 n2 c2):=Hks15.out.cell 1;have hqc:=dataCon_any (some ⟨b',off',none⟩) n1 c1 A2 n2 c2 z y.name w15 (Lt w15.heap.size) (fun b h=>h) (Hsig6.out.fresh H15.out).cons;rw[A4'.out] at hqc
                have hmx:max ((P:Nat):Int) 0=(P:Nat):=by omega
                have hge:decide (((P:Nat):Int)≥0)=true:=by simp
                rw[hmx,hge] at hqc;have Hqc:=qq hqc;clear hqc hmx hge;go_wp2_with fail;refine Hqc.out.mono ?_;rintro e w16 ⟨rfl,hb16⟩;have H16:=qq (H15.out.trans (hb16.mono H15.out.size));have Hkx6:=qq (Hkx5.out.below hb16 Hkx5.out.lt);clear u0 x0 x1 hb16 Hqc H15 Hkx5 Hks15;obtain⟨b2,off2,rfl,hb2,hcn⟩:=cons_at (Hsig6.out.fresh H16.out).cons (by omega);obtain⟨_,q1,⟨Ag,mg,cg,q2,hG⟩,_⟩:=hcn P hPc;have hgl:=hG.len;rw[A3'.out] at hgl;rw[A2'.out] at q1;rw[← hgl] at q2;have Hks16:=qq (Hks.out.below H16.out Hks.out.lt);have x1:w16.cell? ⟨bs,1,none⟩=some (.slice (some ⟨b2,off2,none⟩) n2 c2):=Hks16.out.cell 1;have u4:w16.cell? ⟨b8,4,none⟩=some (.slice Af nf cf):=Hkx6.out.cell 4
                have r1:(0:Int)≤(P:Int):=by omega
                have r2:(P:Int)<n2:=by omega
                have r3:((P:Int) != (P:Int))=false:=by simp
                have r4:((J:Int) != (J:Int))=false:=by simp
                have r5:((nf:Int) != (nf:Int))=false:=by simp
                clear hcn hG hgl A2' A3' A4';go_upto_region 20 with fail;refine wp_region_noPanic ?_;refine wp_region_T (fun w'=>w'.cell? ⟨bs,1,none⟩=some (.slice (some ⟨b2,off2,none⟩) n2 c2)∧w'.cell? ⟨b2,off2+P * 4+1,none⟩=some (.int .i64 (J:Nat))∧w'.cell? ⟨b2,off2+P * 4+2,none⟩=some (.slice Ag nf cg)∧w'.cell? ⟨b8,4,none⟩=some (.slice Af nf cf)) 30 (by kernel_rfl) ⟨x1,q1,q2,u4⟩ (fun hHeld=>?_);have H17:=qq (H16.out.trans ((Below.drew (Below.refl w16.heap.size w16)).mono H16.out.size));clear x1 q1 q2 u4 Hks16;generalize w16.drew=w17 at hHeld H17 ⊢;clear H16 Hkx6;refine nx0 0 ?_
                iterate 30 (refine nx (v:=?_) rfl (by kernel_rfl) (fun _ _ _ h=>h) (by kernel_rfl) ?_ (by assumption) ?_; rotate_left; (focus (intro w hSw; (try dsimp only at hSw); first | (go_simp; done) | (go_simp; with_reducible rfl))); try simp only[Act.put,qg,qe,qf,qd,qh,qi,Nat.reduceAdd])
                refine nx9 ?_;clear hHeld;refine wpAnyT_seq 30 (by omega) (by rfl) (by kernel_rfl) ?_;simp only[List.drop_succ_cons,List.drop_zero];go_wp2_with fail;refine NoPanic.normal ?_
                have hP63:P+1≤1000:=by omega
                go_wp2_with fail;go_roundg (nc - (q+1))
                case measure=>omega
                case rel=>exact⟨q+1,by omega,rfl,by rw[show C+(q+1)=P+1 from by have:=HP.out; omega]; go_num,by go_num,H17.out⟩
              · have d1:decide (q<nc)=false:=by simpa using hqn
                have hqe:q=nc:=by omega
                subst hqe;have HSc:Hid (sumC (ownL (l.take (k+1)))=sumC (ownL (l.take k))+q):=qq (by rw[HyE.out,sumC_snoc,hcl'])
                have HSj:Hid ((ownL (l.take (k+1))).length=(ownL (l.take k)).length+1):=qq (by rw[HyE.out]; simp)
                have hJ63:J+1≤1000:=by omega
                go_wp2_with fail;go_roundg (n - (k+1))
                case measure=>omega
                case rel=>exact⟨k+1,by omega,rfl,by rw[HSj.out,show 9+((ownL (l.take k)).length+1)=J+1 from by have:=HJ.out; omega]; go_num,by rw[HSc.out,show 15+(sumC (ownL (l.take k))+q)=P from by have:=HC.out; have:=HP.out; omega],by go_num,Hbel.out⟩
        · have d0:decide (k<n)=false:=by simpa using hkn
          have hke:k=n:=by omega
          subst hke;have hta:l.take k=l:=List.take_of_length_le (by omega);have hJ1:=HJ.out;have hC1:=HC.out;rw[hta] at hJ1 hC1
          obtain rfl:J=n1:=by omega
          obtain rfl:C=n2:=by omega
          have Hks11:=qq (Hks.out.below Hbel.out Hks.out.lt);have x0:w11.cell? ⟨bs,0,none⟩=some (.slice A1 J c1):=Hks11.out.cell 0;have x1:w11.cell? ⟨bs,1,none⟩=some (.slice A2 C c2):=Hks11.out.cell 1
          have r1:((J:Int)==(J:Int))=true:=by simp
          have r2:((C:Int)==(C:Int))=true:=by simp
          clear hta hJ1 hC1;go_wp2_with fail;refine(works_any w11 (Ht.out.below Hbw.out)).mono ?_;rintro e w12 ⟨rfl,hb12⟩;have Hb12:=qq (Hbw.out.trans (hb12.mono Hbw.out.size));clear hb12 x0 x1;go_wp2_with fail;go_ret;exact⟨rfl,Hb12.out⟩

namespace dataWell
theorem reads (os:Os) {H:Type} (enc:TypeId × Value→H):∃ places,DataW.whole enc Tryd.prog ((World.doorLaid Tryd.prog 400 os).forCall (fun _ _=>0) ⟨#[],#[.slice none 0 0],[]⟩).memory Tryd.f5.params.toList Rows.dataWellSpec.vars false (#[.slice none 0 0]:Array Value).toList 8=some ([.nil],[],places):=
  ⟨[],by kernel_rfl⟩
theorem lifted (os:Os) (started:os.Started) (H:Type) (enc:TypeId × Value→H) (F:Stop.Interp):
    ReturnsInHanded {} Tryd.checked os 5 .any ((Rows.OpenSpec.upto Rows.dataWellSpec).preRow enc Tryd.prog Tryd.f5 Rows.dataWellUptoRow.domain false Rows.dataWellUptoRow.laid) (((Rows.OpenSpec.upto Rows.dataWellSpec).at F).post enc Tryd.prog Tryd.f5 false true false false):=by
  obtain⟨places,hx⟩:=reads os enc
  refine returnsInHanded_of_row (C:=Tryd.checked) (s:=Rows.OpenSpec.upto Rows.dataWellSpec) own started (by kernel_rfl) Tryd.func5
    (witness_row_at (enc:=enc) (C:=Tryd.checked) false (World.doorLaid Tryd.prog 400 os) #[.slice none 0 0] rfl (by kernel_rfl) (by kernel_rfl) (by kernel_rfl)
      (OpenSpec.preRow_of_cond 8 hx (by kernel_rfl) (fun k hk=>by cases hk; kernel_rfl) (by kernel_rfl) (door_met os _))) ?_
  intro W base args ds gs before hval0 hW _ hcond _ hL _ _;have hk0:=of_decide_eq_true (hcond _ rfl);have hval:∀ (j:Nat) t v,Tryd.f5.params[j]?=some t→args[j]?=some v→Value.okWide Tryd.prog W .any base t v:=hval0;have hW':=hW;obtain⟨p,q,hA0,hV,rfl,hfz,hnd⟩:=hW;have hA:DataW.TrodAll enc Tryd.prog W 0 (fun _=>true) true Tryd.f5.params.toList args.toList ds p:=hA0;rw[Tryd.params5] at hA hval;obtain⟨v0,vs0,d0,ds0,p0,q0,hargs,rfl,rfl,h0,r_0⟩:=trodAll_cons hA;obtain⟨rfl,rfl,rfl⟩:=trodAll_nil r_0
  obtain rfl:args=#[v0]:=by cases args; simp_all
  obtain⟨rfl,rfl⟩:=trodVars_none hV;have hk:Rows.uptoBulkAll [d0]≤1048576:=hk0;have w0:=rd_dcls (hval 0 42 v0 rfl rfl) h0;refine(walk_dataWell (w:=W) (tab_of_laid hL) hk v0 w0).mono fun e W' ⟨he,bel⟩=>?_;subst he;exact⟨_,rfl,law_post laidOut (by kernel_rfl) rfl rfl Tryd.underlying4 hW' rfl rfl rfl bel⟩
theorem over:Rows.DataWellUptoSaid:=
  OpenClaim.holds_of_cond 5 Tryd.f5 rfl rfl rfl rfl rfl rfl rfl ⟨rfl,rfl,rfl,rfl,rfl⟩ rfl rfl rfl rfl rfl (by kernel_rfl) Tryd.func5 (by kernel_rfl)
    (of_decide_eq_true (by kernel_rfl)) (by unfold Func.isWrapper; first | (rw[if_pos (by decide +kernel)]; kernel_rfl) | (rw[if_neg (by decide +kernel)]; exact⟨rfl,rfl⟩))
    (fun os started H enc _ F=>by rw[OpenClaim.pre_eq_preRow]; exact lifted os started H enc F)
theorem card:Rows.DataWellUptoCardSaid:=
  Claim7.holds_tied_plain_at .later [] _ _ _ _ over (fun _ h=>by cases h) (by kernel_rfl) (fun _ h=>by cases h) dataWellUpto_row_tie rfl ⟨rfl,rfl⟩ (by kernel_rfl) rfl
    (fun f fn hf hfn=>by
      obtain rfl:f=5:=Option.some.inj ((show Tryd.prog.funcNamed "usufruct/usufructlaw13.DataWell"=some 5 by kernel_rfl).symm.trans hf) |>.symm
      obtain rfl:fn=Tryd.f5:=(Option.some.inj (Tryd.func5.symm.trans hfn)).symm
      exact⟨by kernel_rfl,fun j t ht=>by
        rw[Tryd.params5] at ht
        have hm:t∈[42]:=by simpa using Array.mem_of_getElem? ht
        have hall:([42].all fun u=>!Tryd.prog.wantsStandIn u)=true:=by kernel_rfl
        exact(show Tryd.prog.wantsStandIn t=false by simpa using List.all_eq_true.1 hall t hm)⟩)
    (by kernel_rfl)
theorem proved:Rows.DataWellUptoCardSaid:=card
#print axioms proved
end dataWell
end Go.Proofs.YtgpeijkjmkocgaaDoor
