import Derived.Test.YtdmakpmbknindaaGreatDoorM14
import Derived.Deep.DeepCutAuto
import Derived.Deep.CutBlock
set_option linter.unusedVariables false
set_option linter.unusedSimpArgs false
set_option maxHeartbeats 16000000
set_option maxRecDepth 100000
namespace Go.Proofs.YtdmakpmbknindaaGreatDoor
open Go.RowKit
def Mark (n:Nat):Prop:=n=n
theorem mark (n:Nat) {p:Prop} (h:Mark n→p):p:=h rfl
theorem unmark {n:Nat} {p:Prop} (h:p):Mark n→p:=fun _=>h
theorem may_cD {x:IneqD} {n:Int} (h:mayL x n=true):1≤x.c∧x.c≤3:=by
 unfold mayL mayX mayQ at h;simp only[Bool.and_eq_true,decide_eq_true_eq] at h;exact⟨h.1.1.1.1.1.2,h.1.1.1.1.2⟩
theorem project_anyF (n:Int) (Al:Option Addr) (nl cl:Nat) (xs:List IneqD) (Ak:Option Addr) (nk ck:Nat) (keep:List Int) (w:World) (hx:IneqsV w w.heap.size Al nl cl xs) (hk:RdI .i64 w w.heap.size Ak nk ck keep):
 Calls Tryz.prog 48 #[.int .i64 n,.slice Al nl cl,.slice Ak nk ck] w (ProjPostF n xs keep w):=by
 have hxl:=hx.len;have hkl:=hk.len;have nl63:nl≤9223372036854775807:=Nat.le_trans hx.2.1 hx.2.2.1;have nk63:nk≤9223372036854775807:=Nat.le_trans hk.2.1 hk.2.2;obtain⟨w1,hw1⟩:∃ w1,w.alloc (Obj.cells #[.slice none 0 0,.slice none 0 0,.slice none 0 0] 38)=w1:=⟨_,rfl⟩;have hres:=blk_new w #[.slice none 0 0,.slice none 0 0,.slice none 0 0] 38;have hb1:=below_box (w:=w) (Obj.cells #[.slice none 0 0,.slice none 0 0,.slice none 0 0] 38);rw[hw1] at hres hb1;have Hw1:=qq hw1;have Hx:=qq hx;have Hk:=qq hk;clear hw1 hx hk
 by_cases hlong:nk>150
 · have hd:decide ((nk:Int)>150)=true:=by simp; omega
   have HR:Hid (ProjR n xs keep emptyT 3):=qq (.inl ⟨by omega,rfl,rfl⟩)
   have d0:=hres.cell 0;have d1:=hres.cell 1;have d2:=hres.cell 2;rw[← Hw1.out] at d0 d1 d2 hb1;simp only[qc,qb,qa] at d0 d1 d2;clear hlong hres
   go_enter Tryz.func48,Tryz.ntmps48
   go_wp2_with fail;exact bodyPost_ret (v:=.tuple #[.agg #[.slice none 0 0,.slice none 0 0,.slice none 0 0],.int .i64 (3)]) (by simp[results,Tryz.results48,go_sem,d0,d1,d2]) rfl ⟨_,emptyT,_,rfl,TabV.empty _ _,HR.out,hb1,FrT.nil _⟩
 · have hd:decide ((nk:Int)>150)=false:=by simp; omega
   have Hres:=qq hres;have Hb1:=qq hb1;clear hres hb1
   go_enter Tryz.func48,Tryz.ntmps48
   go_wp2_with fail;rw[Hw1.out];have hs1:=Hb1.out.size;refine(solve_any n none 0 0 [] Al nl cl xs w1 RdI.nil ((Hx.out.below Hb1.out).more hs1)).mono ?_;rintro e w2 ⟨A,m,c,A2,m2,c2,a,core,er,rfl,hra,_,hS,hb2⟩;have hs2:=hb2.size;have hr1:w.heap.size<w1.heap.size:=Hres.out.lt;have hbx:=below_box (w:=w2) (Obj.cells #[.slice A m c] 35);have hkx:=blk_new w2 #[.slice A m c] 35;obtain⟨w3,hw3⟩:∃ w3,w2.alloc (Obj.cells #[.slice A m c] 35)=w3:=⟨_,rfl⟩;rw[hw3] at hbx hkx;obtain⟨b8,hb8⟩:∃ b,w2.heap.size=b:=⟨_,rfl⟩;rw[hb8] at hkx
   have hs3:w3.heap.size=b8+1:=by rw[← hw3,← hb8]; simp
   have hb13:Below w1.heap.size w1 w3:=hb2.trans (hbx.mono hs2);have hb03:Below w.heap.size w w3:=Hb1.out.trans (hb13.mono hs1);have hres3:=Hres.out.below hb13 hr1;have hra3:=(hra.below hbx).more hbx.size;have hx3:=(Hx.out.below hb03).more hb03.size;have hk3:=(Hk.out.below hb03).more hb03.size;have Hw3:=qq hw3;have HS:=qq hS;have H8:=qq hkx;have Hb03:=qq hb03;have Hres3:=qq hres3;have Hra3:=qq hra3;have Hx3:=qq hx3;have Hk3:=qq hk3;have HB8:=qq hb8
   have h8w:w.heap.size<b8:=by omega
   clear hra hS hb2 hbx hkx hw3 hb13 hb03 hres3 hra3 hx3 hk3;go_upto_region 4 with fail;rw[Hw3.out]
   by_cases her:er=0
   · subst her
     go_wp2_with fail
     go_loopg [42] nk (fun gh i wr=>∃ k:Nat,k≤nk∧gh=nk - k∧i=.int .i64 k∧wr=w3∧KeepK n keep k)
     case atStart=>exact⟨0,Nat.zero_le _,rfl,rfl,rfl,KeepK.start⟩
     case round=>
      obtain⟨k,hk,rfl,rfl,hwr,hkk⟩:=hrel;rw[hwr];clear hwr;have Hkk:=qq hkk;clear hkk
      by_cases hkn:k<nk
      · have d0:decide (k<nk)=true:=by simpa using hkn
        have hk':k<keep.length:=by omega
        obtain⟨b,off,rfl,_,hc⟩:=Hk3.out.at_ (by omega);have e0:=hc k hk'
        have i1:(0:Int)≤(k:Int):=by omega
        have i2:(k:Int)<nk:=by omega
        have i3:k≤nk:=hk;clear hc;obtain⟨v,hv⟩:∃ v,keep[k]=v:=⟨_,rfl⟩;rw[hv] at e0
        by_cases hv0:v<0
        · have f0:decide (v<0)=true:=by simpa using hv0
          have HR:Hid (ProjR n xs keep emptyT 2):=qq (.inr ⟨by omega,a,core,0,HS.out,.inr (.inl ⟨rfl,KeepOk.bad hk' (.inl (by rw[hv]; exact hv0)),rfl,rfl⟩)⟩)
          clear hlong hv hv0;have hk3:=(Hres3.out).set3 (.slice none 0 0) (.slice none 0 0) (.slice none 0 0);have hb3:=(((Hb03.out).setCell (p:=⟨w.heap.size,0,none⟩) (Nat.le_refl _) (.slice none 0 0)).setCell (p:=⟨w.heap.size,1,none⟩) (Nat.le_refl _) (.slice none 0 0)).setCell (p:=⟨w.heap.size,2,none⟩) (Nat.le_refl _) (.slice none 0 0);have r0:(w3).cell? ⟨w.heap.size,0,none⟩=some (.slice none 0 0):=(Hres3.out).cell 0;have r1:(w3).cell? ⟨w.heap.size,1,none⟩=some (.slice none 0 0):=(Hres3.out).cell 1;have r2:(w3).cell? ⟨w.heap.size,2,none⟩=some (.slice none 0 0):=(Hres3.out).cell 2;have f0:=(Hres3.out).frozen 0;have f1:=(Hres3.out).frozen 1;have f2:=(Hres3.out).frozen 2;have Hb3:=qq hb3;have Hk3:=qq hk3;clear hb3 hk3;go_wp2_with fail;have d0:=Hk3.out.cell 0;have d1:=Hk3.out.cell 1;have d2:=Hk3.out.cell 2;simp only[qc,qb,qa] at d0 d1 d2;exact bodyPost_ret (v:=.tuple #[.agg #[.slice none 0 0,.slice none 0 0,.slice none 0 0],.int .i64 (2)]) (by simp[results,Tryz.results48,go_sem,d0,d1,d2]) rfl ⟨_,emptyT,_,rfl,TabV.empty _ _,HR.out,Hb3.out,FrT.nil _⟩
        · have f0:decide (v<0)=false:=by simpa using hv0
          by_cases hvn:v≥n
          · have f1:decide (v≥n)=true:=by simpa using hvn
            have HR:Hid (ProjR n xs keep emptyT 2):=qq (.inr ⟨by omega,a,core,0,HS.out,.inr (.inl ⟨rfl,KeepOk.bad hk' (.inr (.inl (by rw[hv]; exact hvn))),rfl,rfl⟩)⟩)
            clear hlong hv hv0 hvn;have hk3:=(Hres3.out).set3 (.slice none 0 0) (.slice none 0 0) (.slice none 0 0);have hb3:=(((Hb03.out).setCell (p:=⟨w.heap.size,0,none⟩) (Nat.le_refl _) (.slice none 0 0)).setCell (p:=⟨w.heap.size,1,none⟩) (Nat.le_refl _) (.slice none 0 0)).setCell (p:=⟨w.heap.size,2,none⟩) (Nat.le_refl _) (.slice none 0 0);have r0:(w3).cell? ⟨w.heap.size,0,none⟩=some (.slice none 0 0):=(Hres3.out).cell 0;have r1:(w3).cell? ⟨w.heap.size,1,none⟩=some (.slice none 0 0):=(Hres3.out).cell 1;have r2:(w3).cell? ⟨w.heap.size,2,none⟩=some (.slice none 0 0):=(Hres3.out).cell 2;have f0:=(Hres3.out).frozen 0;have f1:=(Hres3.out).frozen 1;have f2:=(Hres3.out).frozen 2;have Hb3:=qq hb3;have Hk3:=qq hk3;clear hb3 hk3;go_wp2_with fail;have d0:=Hk3.out.cell 0;have d1:=Hk3.out.cell 1;have d2:=Hk3.out.cell 2;simp only[qc,qb,qa] at d0 d1 d2;exact bodyPost_ret (v:=.tuple #[.agg #[.slice none 0 0,.slice none 0 0,.slice none 0 0],.int .i64 (2)]) (by simp[results,Tryz.results48,go_sem,d0,d1,d2]) rfl ⟨_,emptyT,_,rfl,TabV.empty _ _,HR.out,Hb3.out,FrT.nil _⟩
          · have f1:decide (v≥n)=false:=by simpa using hvn
            obtain⟨r,hr⟩:∃ r,(keep.take k).contains v=r:=⟨_,rfl⟩;have hcon:=containsE_any (some ⟨b,off,none⟩) k ck (keep.take k) v w3 w3.heap.size (Hk3.out.take hk) r hr
            have i4:(k:Int)≤ck:=by have:=Hk3.out.2.1; omega
            have Hcon:=qq hcon;have Hr:=qq hr;have Hv:=qq hv;clear hcon hr hv
            cases r with
            | true=>
              have HR:Hid (ProjR n xs keep emptyT 2):=qq (.inr ⟨by omega,a,core,0,HS.out,.inr (.inl ⟨rfl,KeepOk.bad hk' (.inr (.inr (by rw[Hv.out]; exact Hr.out))),rfl,rfl⟩)⟩)
              clear hlong hv0 hvn
              go_upto_region 10 with (go_at_call 75; refine Hcon.out.mono ?_; rintro e w4 ⟨rfl,rfl⟩)
              have hk3:=(Hres3.out).set3 (.slice none 0 0) (.slice none 0 0) (.slice none 0 0);have hb3:=(((Hb03.out).setCell (p:=⟨w.heap.size,0,none⟩) (Nat.le_refl _) (.slice none 0 0)).setCell (p:=⟨w.heap.size,1,none⟩) (Nat.le_refl _) (.slice none 0 0)).setCell (p:=⟨w.heap.size,2,none⟩) (Nat.le_refl _) (.slice none 0 0);have r0:(w3).cell? ⟨w.heap.size,0,none⟩=some (.slice none 0 0):=(Hres3.out).cell 0;have r1:(w3).cell? ⟨w.heap.size,1,none⟩=some (.slice none 0 0):=(Hres3.out).cell 1;have r2:(w3).cell? ⟨w.heap.size,2,none⟩=some (.slice none 0 0):=(Hres3.out).cell 2;have f0:=(Hres3.out).frozen 0;have f1:=(Hres3.out).frozen 1;have f2:=(Hres3.out).frozen 2;have Hb3:=qq hb3;have Hk3:=qq hk3;clear hb3 hk3;go_wp2_with fail;have d0:=Hk3.out.cell 0;have d1:=Hk3.out.cell 1;have d2:=Hk3.out.cell 2;simp only[qc,qb,qa] at d0 d1 d2;exact bodyPost_ret (v:=.tuple #[.agg #[.slice none 0 0,.slice none 0 0,.slice none 0 0],.int .i64 (2)]) (by simp[results,Tryz.results48,go_sem,d0,d1,d2]) rfl ⟨_,emptyT,_,rfl,TabV.empty _ _,HR.out,Hb3.out,FrT.nil _⟩
            | false=>
              have hkk2:=Hkk.out.step hk' (by rw[Hv.out]; omega) (by rw[Hv.out]; omega) (by rw[Hv.out]; exact Hr.out)
              have Hkk2:=qq hkk2;clear hkk2
              go_wp2_with (go_at_call 75; refine Hcon.out.mono ?_; rintro e w4 ⟨rfl,rfl⟩)
              go_roundg (nk - (k+1))
              case measure=>omega
              case rel=>exact⟨k+1,by omega,rfl,by simp,rfl,Hkk2.out⟩
      · have d0:decide (k<nk)=false:=by simpa using hkn
        obtain⟨nk9,rfl⟩:∃ nk9,nk9=k:=⟨_,rfl⟩
        have hkn9:nk=nk9:=by omega
        subst hkn9;have hok:=(hkl ▸ Hkk.out).done;obtain⟨hn20,hl20,hoks,hsol,_⟩:=HS.out.zero rfl;obtain⟨N,rfl⟩:∃ N:Nat,n=(N:Int):=⟨n.toNat,(Int.toNat_of_nonneg hoks.n0).symm⟩
        have hN:N≤1048576:=by omega
        have hwell:WellE N xs:=fun x hx=>⟨OverL.of_may (hoks.may x hx),(may_cD (hoks.may x hx)).1⟩;have hc3:∀ x∈xs,x.c≤3:=fun x hx=>(may_cD (hoks.may x hx)).2
        have hlow0:low0 (N:Int) []=List.replicate N 1:=by simp[low0]
        rw[hlow0] at hsol;obtain⟨hsolE,_⟩:=least_ones hwell hsol;have hal:a.length=N:=hsolE.1.1
        have hmN:N=m:=by have:=Hra3.out.len; omega
        subst hmN;have Hok:=qq hok;have HsolE:=qq hsolE;have Hwell:=qq hwell;have Hc3:=qq hc3;have hmk:=make_web N hN
        have n63:N≤9223372036854775807:=by omega
        have hF0:Blk (w3.alloc (Obj.cells (Array.replicate N (Value.slice none 0 0)) 28)) w3.heap.size 28 (List.replicate N (Value.slice none 0 0)).toArray:=by rw[List.toArray_replicate]; exact blk_new _ _ _
        have hbF:=below_box (w:=w3) (Obj.cells (Array.replicate N (Value.slice none 0 0)) 28);obtain⟨w4,hw4⟩:∃ w4,w3.alloc (Obj.cells (Array.replicate N (Value.slice none 0 0)) 28)=w4:=⟨_,rfl⟩;rw[hw4] at hF0 hbF;rw[hs3] at hF0
        have hs4:w4.heap.size=b8+1+1:=by rw[← hw4,← hs3]; simp
        have hweb0:=WebM.start (base:=(b8+1)+1) hF0 (Nat.lt_succ_self (b8+1));have Hweb0:=qq hweb0;have Hb34:=qq hbF;have Hw4:=qq hw4;clear hok hoks hsol hsolE hwell hc3 hlow0 hF0 hbF hw4 hweb0 Hkk;go_upto_region 13 with fail;rw[Hw4.out];go_wp2_with fail;obtain⟨i0,hi0,hz0,hz1,hz2⟩:=info_parts ineqInfo
        go_loopg [67] nl (fun gh i wr=>∃ (k:Nat) (vs:List Value),k≤nl∧gh=nl - k∧i=.int .i64 k∧vs.length=N∧WebM wr (b8+1) ((b8+1)+1) vs (webE (xs.take k))∧Below w3.heap.size w3 wr)
        case atStart=>exact⟨0,_,Nat.zero_le _,rfl,rfl,by simp,Hweb0.out,Hb34.out⟩
        case round=>
         obtain⟨k,vs,hk,rfl,rfl,hvl,hweb,hbr⟩:=hrel;have Hweb:=qq hweb;have Hbr:=qq hbr;have hsr:=hbr.size;clear hweb hbr
         by_cases hkn:k<nl
         · have d0:decide (k<nl)=true:=by simpa using hkn
           have hkx:k<xs.length:=by omega
           obtain⟨bl,offl,hAl,hbl,hcl⟩:=(Hx3.out.below Hbr.out).at_ (by omega);subst hAl;obtain⟨e0,e1,e2,e3⟩:=hcl k hkx;have hov:=(Hwell.out _ (List.getElem_mem hkx)).1;have hsk:=web_skip (xs:=xs) hkx;have had:=fun v=>web_add (xs:=xs) (v:=v) hkx;generalize xs[k]=x at e0 e1 e2 e3 hov hsk had
           have i1:(0:Int)≤(k:Int):=by omega
           have i2:(k:Int)<nl:=by omega
           have hX:=blk_new wr #[.int .i64 x.lv,.int .u8 x.lc,.int .u8 x.c,.int .i64 x.r] 70;have hbx:=below_box (w:=wr) (Obj.cells #[.int .i64 x.lv,.int .u8 x.lc,.int .u8 x.c,.int .i64 x.r] 70);clear hcl
           by_cases h0:x.lc=0
           · obtain⟨hv0,hv1⟩:=hov.lv h0
             obtain⟨xv,xlc,xc,xr⟩:=x;dsimp only at e0 e1 e2 e3 h0 hv0 hv1 hov had hX hbx;subst h0;obtain⟨v,rfl⟩:∃ v:Nat,xv=(v:Int):=⟨xv.toNat,(Int.toNat_of_nonneg hv0).symm⟩;have had:=had v rfl rfl
             have hvN:v<N:=by omega
             have hvl1:v<vs.length:=by omega
             obtain⟨A9,c9,hA9,_⟩:=Hweb.out.row v hvl1;have z1:=(Hweb.out.fresh hbx).cell v hvl1;have hown:=(Hweb.out.fresh hbx).own v hvl1;have hlt0:=fun b=>ownsRow_lt (Hweb.out.own v hvl1) (b:=b)
             have hlf:(webE (xs.take k) v).length≤1048576:=by have:=web_len (xs.take k) v; simp at this; omega
             obtain⟨q9,hq9⟩:∃ q,webE (xs.take k) v=q:=⟨_,rfl⟩;rw[hA9] at z1 hown hlt0;rw[hq9] at z1 hown hlt0 hlf;have hFr:(b8+1)<wr.heap.size:=Hweb.out.blk.lt;have x0:(wr.alloc (Obj.cells #[.int .i64 (v:Int),.int .u8 0,.int .u8 xc,.int .i64 xr] 70)).cell? ⟨wr.heap.size,0,none⟩=some (.int .i64 (v:Int)):=hX.cell 0;have x1:(wr.alloc (Obj.cells #[.int .i64 (v:Int),.int .u8 0,.int .u8 xc,.int .i64 xr] 70)).cell? ⟨wr.heap.size,1,none⟩=some (.int .u8 0):=hX.cell 1;have x2:(wr.alloc (Obj.cells #[.int .i64 (v:Int),.int .u8 0,.int .u8 xc,.int .i64 xr] 70)).cell? ⟨wr.heap.size,2,none⟩=some (.int .u8 xc):=hX.cell 2;have x3:(wr.alloc (Obj.cells #[.int .i64 (v:Int),.int .u8 0,.int .u8 xc,.int .i64 xr] 70)).cell? ⟨wr.heap.size,3,none⟩=some (.int .i64 xr):=hX.cell 3;have Hw9:=qq (Hweb.out.fresh hbx);have Hb9:=qq (Hbr.out.trans (hbx.mono hsr));have Hlt0:=qq hlt0;have Had:=qq had;have HA9:=qq hA9;have Hq9:=qq hq9;have HX:=qq hX;clear hsk had hX hbx hlt0 hA9 hq9;go_upto_region 17 with fail;obtain⟨w5,hw5⟩:∃ w5,wr.alloc (Obj.cells #[.int .i64 (v:Int),.int .u8 0,.int .u8 xc,.int .i64 xr] 70)=w5:=⟨_,rfl⟩
             have hs5:w5.heap.size=wr.heap.size+1:=by rw[← hw5]; simp
             rw[hw5] at x0 x1 x2 x3 z1 hown HX Hw9 Hb9 ⊢;clear hw5
             have hb5:wr.heap.size<w5.heap.size:=by omega
             have hF5:(b8+1)<w5.heap.size:=by omega
             clear hs5
             have j1:(0:Int)≤(v:Int):=by omega
             have j2:(v:Int)<N:=by omega
             have Hn1:Hid (some (b8+1)≠(Value.slice A9 q9.length c9).ownBlock):=qq fun e=>by have h1:=(Hlt0.out _ e.symm).1; omega
             have Hn2:Hid (some wr.heap.size≠(Value.slice A9 q9.length c9).ownBlock):=qq fun e=>by have h1:=(Hlt0.out _ e.symm).2; omega
             refine wp_region_noPanic ?_;refine wp_region_T (fun w'=>w'.cell? ⟨wr.heap.size,0,none⟩=some (.int .i64 (v:Int))∧w'.cell? ⟨wr.heap.size,1,none⟩=some (.int .u8 0)∧w'.cell? ⟨wr.heap.size,2,none⟩=some (.int .u8 xc)∧w'.cell? ⟨wr.heap.size,3,none⟩=some (.int .i64 xr)∧w'.cell? ⟨b8+1,v,none⟩=some (.slice A9 q9.length c9)) 13 (by kernel_rfl) ⟨x0,x1,x2,x3,z1⟩ (fun hHeld=>?_);refine nx0 0 ?_
             iterate 11 (refine nx (v:=?_) rfl (by kernel_rfl) (fun _ _ _ h=>h) (by rfl) ?_ (by assumption) ?_; rotate_left; focus (intro w hSw; (try dsimp only at hSw); first | (go_simp; done) | (go_simp; with_reducible rfl)); try simp only[Act.put,qg,qe,qf,qd,qh,qi,Nat.reduceAdd])
             refine nx9 ?_;refine wpAnyT_step (i:=11) (by kernel_rfl) rfl (fun K hK=>?_);go_simp;refine hK.out _ _ ⟨(World.cell?_alloc_lt _ _ ⟨wr.heap.size,0,none⟩ hb5).trans x0,(World.cell?_alloc_lt _ _ ⟨wr.heap.size,1,none⟩ hb5).trans x1,(World.cell?_alloc_lt _ _ ⟨wr.heap.size,2,none⟩ hb5).trans x2,(World.cell?_alloc_lt _ _ ⟨wr.heap.size,3,none⟩ hb5).trans x3,(World.cell?_alloc_lt _ _ ⟨b8+1,v,none⟩ hF5).trans z1⟩ ?_;clear hK K
             try simp only[Act.put,qg,qe,qf,qd,qh,qi]
             refine wpAnyT_step (i:=12) (by kernel_rfl) rfl (fun K hK=>?_)
             (refine step_append_rd _ (by rfl) (.tmp 84) (.tmp 86) 28 (by rfl) ((b8+1)+1) 70 i0 _ 4 32 Tryz.underlying28 hi0 hz0 hz1 hz2 rfl (by omega) (.slice A9 q9.length c9) q9.length (cellsQ q9) (by rfl) (hown.alloc _) _ (some ⟨w5.heap.size,0,none⟩) 1 1 (cellsQ [⟨v,0,xc,xr⟩]) (by rfl) (rd_newq _ ⟨v,0,xc,xr⟩ _) (cellsQ_one _) (by unfold maxLen; omega) (by omega) (by simp; omega) ?_; intro v6 w6 ho6 hg6 hat6; obtain⟨A6,c6,rfl⟩:=ownsRow_form ho6; have kq:=fun(p:Addr) (hp:p.block<w5.heap.size) (hn:some p.block≠(Value.slice A9 q9.length c9).ownBlock)=>(World.cell?_of_block (hg6.block p.block (by simp; omega) hn)).trans (World.cell?_alloc_lt _ _ p hp))
             refine hK.out _ _ ⟨(kq ⟨wr.heap.size,0,none⟩ hb5 Hn2.out).trans x0,(kq ⟨wr.heap.size,1,none⟩ hb5 Hn2.out).trans x1,(kq ⟨wr.heap.size,2,none⟩ hb5 Hn2.out).trans x2,(kq ⟨wr.heap.size,3,none⟩ hb5 Hn2.out).trans x3,(kq ⟨b8+1,v,none⟩ hF5 Hn1.out).trans z1⟩ ?_;clear hK K
             try simp only[Act.put,qg,qe,qf,qd,qh,qi]
             have hbB:=(Below.alloc (below_drewN_t Hb9.out _) (by simp; omega) (Obj.cells #[.int .i64 (v:Int),.int .u8 0,.int .u8 xc,.int .i64 xr] 70)).grown hg6 (by simp; omega) (fun k e=>by have:=(Hlt0.out k e).1; omega)
             have hbC:=hbB.setCell (p:=⟨b8+1,v,none⟩) (by show w3.heap.size≤b8+1; omega) (.slice A6 (q9.length+1) c6)
             have hweb7:=(Hw9.out.fresh (Below.alloc (below_drewN_t (Below.refl w5.heap.size w5) _) (Nat.le_refl _) (Obj.cells #[.int .i64 (v:Int),.int .u8 0,.int .u8 xc,.int .i64 xr] 70))).add hvl1 (w':=w6) (v':=.slice A6 (q9.length+1) c6) (u:=⟨v,0,xc,xr⟩) (by rw[Hq9.out]; exact ho6) (by rw[HA9.out,Hq9.out]; exact hg6) (by rw[HA9.out,Hq9.out]; exact hat6)
             rw[← Had.out] at hweb7;have g1:w6.cell? ⟨b8+1,v,none⟩=some (.slice A9 q9.length c9):=(kq ⟨b8+1,v,none⟩ hF5 Hn1.out).trans z1
             have f1:w6.frozen? ⟨b8+1,v,none⟩=false:=(World.frozen?_of_block ((hg6.block (b8+1) (by simp; omega) Hn1.out).trans (Below.heap_alloc _ _ _ hF5))).trans (Hw9.out.frozen v)
             have HbC:=qq hbC;have Hweb7:=qq hweb7;clear hbB hbC hweb7 kq;refine wpAnyT_seq 13 (by omega) (by rfl) (by kernel_rfl) ?_;simp only[List.drop_succ_cons,List.drop_zero];go_wp2_with fail;refine NoPanic.normal ?_;go_wp2_with fail;go_roundg (nl - (k+1))
             case measure=>omega
             case rel=>exact⟨k+1,_,hkn,rfl,by simp,by simpa using hvl,Hweb7.out,HbC.out⟩
           · have d1:(x.lc==0)=false:=by simp[h0]
             have Hsk:=qq (hsk h0);have hb9:=Hbr.out.trans (hbx.mono hsr);have hw9:=Hweb.out.fresh hbx;have Hb9:=qq hb9;have Hw9:=qq hw9;have x1:(wr.alloc (Obj.cells #[.int .i64 x.lv,.int .u8 x.lc,.int .u8 x.c,.int .i64 x.r] 70)).cell? ⟨wr.heap.size,1,none⟩=some (.int .u8 x.lc):=hX.cell 1;clear hsk had hX hbx hb9 hw9;go_wp2_with fail;go_roundg (nl - (k+1))
             case measure=>omega
             case rel=>exact⟨k+1,vs,hkn,rfl,by simp,hvl,by rw[Hsk.out]; exact Hw9.out,Hb9.out⟩
         · have d0:decide (k<nl)=false:=by simpa using hkn
           obtain rfl:k=nl:=by omega
           have hweb:=Hweb.out
           rw[show xs.take k=xs from List.take_of_length_le (by omega)] at hweb
           have hwebR:=hweb.toR hvl (by unfold maxLen; omega)
           obtain⟨kn,hkn9⟩:∃ kn:List Nat,keep.map Int.toNat=kn:=⟨_,rfl⟩
           have hknl:kn.length=nk:=by rw[← hkn9,List.length_map]; exact hkl
           have hkat:=Hok.out.at_ hkn9
           have hnd:kn.Nodup:=by rw[← hkn9]; exact Hok.out.nat
           have Hkat:=qq hkat;have Hnd:=qq hnd;have Hkn9:=qq hkn9;have HwebR:=qq hwebR;obtain⟨wL,hwL⟩:∃ wL,wL=wr:=⟨_,rfl⟩;subst hwL;have hT0:=blk_new wL #[.slice none 0 0,.slice none 0 0,.slice none 0 0] 38;have hbT:=below_box (w:=wL) (Obj.cells #[.slice none 0 0,.slice none 0 0,.slice none 0 0] 38);obtain⟨w6,hw6⟩:∃ w6,wL.alloc (Obj.cells #[.slice none 0 0,.slice none 0 0,.slice none 0 0] 38)=w6:=⟨_,rfl⟩;rw[hw6] at hT0 hbT;obtain⟨g,hg⟩:∃ g,wL.heap.size=g:=⟨_,rfl⟩;rw[hg] at hT0 hbT;have HT0:=qq hT0;have HbT:=qq hbT;have Hw6:=qq hw6;have Hg:=qq hg
           have hsg:w3.heap.size≤g:=by omega
           have H8L:=qq (H8.out.below Hbr.out (by omega));have HkL:=qq (Hk3.out.below Hbr.out);have HraL:=qq (Hra3.out.below Hbr.out);clear hweb hwebR hkat hnd hkn9 hT0 hbT hw6 hmk hi0 hz0 hz1 hz2;go_upto_region 20 with fail;rw[Hw6.out];go_wp2_with fail
           go_loopg [92] nk (fun gh i wr=>∃ (k:Nat) (v1 v2 v3:Value) (lo up:List Int) (ps:List (List Int)) (gs:List Nat),k≤nk∧gh=nk - k∧i=.int .i64 k∧Blk wr g 38 #[v1,v2,v3]∧OwnT wr (g+1) nk gs.length v1 v2 v3 lo up ps gs∧gs.length=k∧g∉gs∧ProjK N xs a kn k lo up ps∧Below g wL wr)
           case atStart=>exact⟨0,.slice none 0 0,.slice none 0 0,.slice none 0 0,[],[],[],[],Nat.zero_le _,rfl,rfl,HT0.out,OwnT.nil _ _ _,rfl,by simp,ProjK.start,HbT.out⟩
           case round=>
            obtain⟨k,v1,v2,v3,lo,up,ps,gs,hk,rfl,rfl,hT,hO,hgl,hgs,hP,hbW⟩:=hrel;obtain⟨wO,hwO⟩:∃ x,x=wr:=⟨_,rfl⟩;subst hwO;have Hgl:=qq hgl;clear hgl
            by_cases hkn:k<nk
            · have d0:decide (k<nk)=true:=by simpa using hkn
              obtain⟨hkv,hvN⟩:=Hkat.out k (by omega) (by omega);obtain⟨v,hv⟩:∃ v,kn[k]'(by omega)=v:=⟨_,rfl⟩;rw[hv] at hkv hvN;have hb3W:=hbW.mono hsg;obtain⟨bk,offk,rfl,_,hck⟩:=(HkL.out.below hb3W).at_ (by omega);have e0:=hck k (by omega);rw[hkv] at e0
              have i1:(0:Int)≤(k:Int):=by omega
              have i2:(k:Int)<nk:=by omega
              have hV:=blk_new wO #[.int .i64 (v:Int)] 3;have hbV:=below_box (w:=wO) (Obj.cells #[.int .i64 (v:Int)] 3);obtain⟨wA,hwA⟩:∃ wA,wO.alloc (Obj.cells #[.int .i64 (v:Int)] 3)=wA:=⟨_,rfl⟩;rw[hwA] at hV hbV;obtain⟨bV,hbVe⟩:∃ b,wO.heap.size=b:=⟨_,rfl⟩
              have hgV:g<bV:=by rw[← hbVe]; exact hT.lt
              have hsA:bV<wA.heap.size:=by rw[← hwA,← hbVe]; simp
              have hbA:=hbW.trans (hbV.mono (by have:=hbW.size; have:=Hg.out; omega))
              have hwebA:=HwebR.out.below (by rw[Hg.out]; exact hbA)
              rw[Hg.out] at hwebA;have hlin:=line_any N (some ⟨b8+1,0,none⟩) N xs v wA hN hvN Hwell.out Hc3.out (by omega) (hwebA.more (by omega));rw[hbVe] at hV;have x18:wA.cell? ⟨bV,0,none⟩=some (.int .i64 (v:Int)):=hV.cell 0;have HV:=qq hV;have HwA:=qq hwA;have Hlin:=qq hlin;have HbWA:=qq (hbVe ▸ hbV);have HbA:=qq hbA;have HbW:=qq hbW;have HT:=qq hT;have HO:=qq hO;have HP:=qq hP;have Hv:=qq hv;clear hV hbV hwA hbA hwebA hlin hbW hT hO hP hv hck hb3W;go_upto_region 23 with fail;rw[HwA.out]
              go_upto_region 25 with (go_at_call 109; refine Hlin.out.mono ?_; rintro e wB ⟨gT,tv,u,rfl,hkT,hline,hgT,hbB⟩)
              obtain⟨sB,hsB⟩:∃ s,wB.heap.size=s:=⟨_,rfl⟩;rw[hsB];obtain⟨wC,hwC⟩:∃ wC,(wB.alloc (Obj.cells #[.slice (some ⟨gT,0,none⟩) N N] 35)).alloc (Obj.cells #[.int .u8 u] 22)=wC:=⟨_,rfl⟩
              have hbBC:Below wB.heap.size wB wC:=by rw[← hwC]; exact(below_box _).trans ((below_box _).mono (by simp))
              have hT1:Blk wC sB 35 #[.slice (some ⟨gT,0,none⟩) N N]:=by
               rw[← hwC,← hsB];exact(blk_new wB _ _).alloc _
              have hU1:Blk wC (sB+1) 22 #[.int .u8 u]:=by
               rw[← hwC,← hsB];have:=blk_new (wB.alloc (Obj.cells #[.slice (some ⟨gT,0,none⟩) N N] 35)) #[.int .u8 u] 22;rwa [World.size_alloc] at this
              have hsC:wC.heap.size=sB+1+1:=by rw[← hwC,← hsB]; simp
              have hsAB:bV<sB:=by have:=hbB.size; omega
              have hgTB:gT<sB:=by rw[← hsB]; exact hkT.lt
              have hkT1:=hkT.below hbBC hkT.lt;have hmk:=make_mult nk (by omega);obtain⟨wD,hwD⟩:∃ wD,wC.alloc (Obj.cells (Array.replicate nk (Value.int .u8 0)) 22)=wD:=⟨_,rfl⟩
              have hR0:Blk wD (sB+1+1) 22 ((List.replicate nk (0:Int)).map (Value.int .u8)).toArray:=by
               rw[← hwD,← hsC,List.map_replicate,List.toArray_replicate];exact blk_new _ _ _
              have hbCD:Below wC.heap.size wC wD:=by rw[← hwD]; exact below_box _
              have hbWB:Below bV wO wB:=HbWA.out.trans (hbB.mono (by omega));have hbWC:Below bV wO wC:=hbWB.trans (hbBC.mono (by omega));have hwr:wO.heap.size=bV:=hbVe;have HbWC:=qq hbWC;have HbAC:=qq (hbB.trans (hbBC.mono hbB.size));have HwC:=qq hwC;have HwD:=qq hwD;have HT1:=qq hT1;have HU1:=qq hU1;have HkT:=qq hkT1;have HR0:=qq hR0;have HbCD:=qq hbCD;have Hline:=qq hline;have HsC:=qq hsC;clear hkT hline hgT hbB hbBC hT1 hU1 hkT1 hwC hwD hR0 hbCD hbWB hbWC x18 Hlin;rw[HwC.out];go_upto_region 26 with fail;rw[HwD.out];clear hmk;go_wp2_with fail
              go_loopg [109] nk (fun gh i wr4=>∃ (j:Nat) (row:List Int),j≤nk∧gh=nk - j∧i=.int .i64 j∧Blk wr4 (sB+1+1) 22 (row.map (Value.int .u8)).toArray∧row.length=nk∧RowAt N xs a kn k (a.getD v 0) u tv row j∧Below (sB+1+1) wC wr4)
              case atStart=>exact⟨0,List.replicate nk 0,Nat.zero_le _,rfl,rfl,HR0.out,by simp,RowAt.start,HsC.out ▸ HbCD.out⟩
              case round=>
               obtain⟨j,row,hj,rfl,rfl,hR,hrl,hrow,hbR⟩:=hrel;have HR:=qq hR;have Hrow:=qq hrow;have HbR:=qq hbR;have hbV4:Below bV wO wr:=HbWC.out.trans (hbR.mono (by omega));have hb34:=(HbW.out.mono hsg).trans (hbV4.mono (by omega));clear hR hrow hbR
               by_cases hjn:j<nk
               · have d0:decide (j<nk)=true:=by simpa using hjn
                 obtain⟨hkr,hrN⟩:=Hkat.out j (by omega) (by omega)
                 have hvr:kn[j]'(by omega)=v↔j=k:=by
                  rw[← Hv.out]
                  exact⟨fun e=>nodup_at Hnd.out _ _ e,fun e=>by subst e; rfl⟩
                 obtain⟨r,hr⟩:∃ r,kn[j]'(by omega)=r:=⟨_,rfl⟩;rw[hr] at hkr hrN hvr;obtain⟨_,_,q,_,hck⟩:=(HkL.out.below hb34).at_ (by omega)
                 cases q
                 have e0:=hck j (by omega);rw[hkr] at e0
                 have j1:(0:Int)≤(j:Int):=by omega
                 have j2:(j:Int)<nk:=by omega
                 have x18:wr.cell? ⟨bV,0,none⟩=some (.int .i64 (v:Int)):=((HV.out.below HbAC.out HV.out.lt).below HbR.out (by omega)).cell 0
                 have z1:wr.cell? ⟨sB+1+1,j,none⟩=some (.int .u8 (row.getD j 0)):=by
                  rw[HR.out.cell j,qc,List.getElem?_map,qj (by omega),List.getD_eq_getElem?_getD,qj (by omega)];rfl
                 have f1:=HR.out.frozen j;obtain⟨W5,hW5⟩:∃ W5,wr.setCell ⟨sB+1+1,j,none⟩ (.int .u8 1)=W5:=⟨_,rfl⟩
                 have hb5:Below (sB+1+1) wC W5:=by rw[← hW5]; exact HbR.out.setCell (p:=⟨sB+1+1,j,none⟩) (Nat.le_refl _) _
                 have hR5:Blk W5 (sB+1+1) 22 ((row.set j 1).map (Value.int .u8)).toArray:=by
                  have:=HR.out.set_ j (.int .u8 1);rw[← hW5,List.map_set]
                  simpa using this
                 have x18':W5.cell? ⟨bV,0,none⟩=some (.int .i64 (v:Int)):=((HV.out.below HbAC.out HV.out.lt).below hb5 (by omega)).cell 0;have HW5:=qq hW5;have Hb5:=qq hb5;have HR5:=qq hR5;have Hr:=qq hr;clear hck hb34 hW5 hb5 hR5 hr;go_upto_region 30 with fail;rw[HW5.out]
                 by_cases hjk:j=k
                 · obtain rfl:r=v:=hvr.2 hjk
                   have hnew:=Hrow.out.step (p:=1) (j:=j) (by omega) (by omega) (fun _=>rfl) (fun e=>absurd hjk.symm e);have Hnew:=qq hnew;clear hnew hvr hjk;go_wp2_with fail;go_roundg (nk - (j+1))
                   case measure=>omega
                   case rel=>exact⟨j+1,row.set j 1,hjn,rfl,by simp,HR5.out,by simpa using hrl,Hnew.out,Hb5.out⟩
                 · have hne:¬ r=v:=fun e=>hjk (hvr.1 e)
                   have q1:((r:Int)==(v:Int))=false:=by simp; omega
                   have q2:decide ((r:Int)=(v:Int))=false:=by simp; omega
                   have hb5:=Hb5.out;have hbV5:Below bV wO W5:=HbWC.out.trans (hb5.mono (by omega));have hbg5:=HbW.out.trans (hbV5.mono (by omega))
                   have hs5:sB+1+1≤W5.heap.size:=by have:=hb5.size; have:=HsC.out; omega
                   have tt:=tight_any b8 bV (sB+1) sB A N c a (some ⟨gT,0,none⟩) N N tv v r u W5
                    ((H8L.out.below hbg5 (by omega)).cell 0) x18' ((HU1.out.below hb5 (by omega)).cell 0) ((HT1.out.below hb5 (by omega)).cell 0)
                    ((HraL.out.below (hbg5.mono hsg)).more (by omega)) ((rdM_blk HkT.out Hline.out.len (by unfold maxLen; omega)).below (HsC.out ▸ hb5) |>.more (by have:=HsC.out; omega)) hvN hrN hrN rfl rfl rfl (HsolE.out.1.2 v hvN) ⟨Hline.out.up1,Hline.out.up3⟩
                   have Htt:=qq tt;have Hjk:=qq hjk;clear hb5 hbV5 hbg5 tt hvr hne hjk;have x18':=x18'
                   have z5:W5.cell? ⟨sB+1+1,j,none⟩=some (.int .u8 1):=by
                    rw[HR5.out.cell j,qc,List.getElem?_map,List.getElem?_set_self (by omega)];rfl
                   have f5:=HR5.out.frozen j;go_wp2_with fail;refine Htt.out.mono ?_;rintro e w8 ⟨p,rfl,hti,rfl⟩
                   have hnew:=Hrow.out.step (p:=p) (j:=j) (by omega) (by omega) (fun e=>absurd e.symm Hjk.out) (fun _=>by rw[Hr.out]; exact hti)
                   have hR8:Blk (W5.setCell ⟨sB+1+1,j,none⟩ (.int .u8 p)) (sB+1+1) 22 ((row.set j p).map (Value.int .u8)).toArray:=by
                    have:=HR5.out.set_ j (.int .u8 p);rw[List.map_set] at this ⊢
                    simpa using this
                   have Hnew:=qq hnew;have HR8:=qq hR8;have Hb8:=qq (Hb5.out.setCell (p:=⟨sB+1+1,j,none⟩) (Nat.le_refl _) (.int .u8 p));clear hnew hR8 hti;go_wp2_with fail;go_roundg (nk - (j+1))
                   case measure=>omega
                   case rel=>exact⟨j+1,row.set j p,hjn,rfl,by simp,HR8.out,by simpa using hrl,Hnew.out,Hb8.out⟩
               · have d0:decide (j<nk)=false:=by simpa using hjn
                 have hjn2:nk=j:=by omega
                 subst hjn2
                 have hO1:=HO.out.row (by rw[hwr]; exact hbV4) HR.out hrl (by omega)
                 have hrl':row.length=kn.length:=by omega
                 have hlx:=HP.out.step (row:=row) (u:=u) (by omega) (Hv.out ▸ Hline.out) hrl' (by rw[Hv.out,hknl]; exact Hrow.out)
                 rw[Hv.out] at hlx;obtain⟨lv,hlv⟩:∃ x,a.getD v 0=x:=⟨_,rfl⟩;rw[hlv] at hlx;obtain⟨bA,offA,hA,hbA,hcA⟩:=(HraL.out.below hb34).at_ (by omega);have xA:=hcA v (by omega)
                 rw[show a[v]=lv by rw[← hlv,List.getD_eq_getElem?_getD,qj (by omega)]; rfl] at xA
                 obtain⟨oA,hoA⟩:∃ o,wr.heap[bA]?=some o:=⟨_,Array.getElem?_eq_getElem (block_lt_of_cell xA)⟩;have hT5:=HT.out.below (hwr ▸ hbV4) (by omega);have h85:=H8L.out.below ((HbW.out.trans (hbV4.mono (by omega)))) (by omega);have hV5:=(HV.out.below HbAC.out HV.out.lt).below HbR.out (by omega);have hU5:=HU1.out.below HbR.out (by omega);have hbel5:=HbW.out.trans (hbV4.mono (by omega));have ho1:=HO.out.o1;have ho2:=HO.out.o2;have ho3:=HO.out.o3;have hlo:=HP.out.ll;have hup:=HP.out.ul;rw[List.take_of_length_le (Nat.le_refl _)] at ho3;obtain⟨A1,c1,rfl⟩:=ownsRow_form ho1;obtain⟨A2',c2',rfl⟩:=ownsRow_form ho2;obtain⟨A3,c3,rfl⟩:=ownsRow_form ho3;have hq3:(gs++[sB+1+1]).take gs.length=gs:=List.take_left' rfl
                 have hgm:(gs++[sB+1+1]).getD gs.length 0=sB+1+1:=by simp[List.getD]
                 subst hA;obtain⟨L0,hL0⟩:∃ L:List (Nat × Obj),[(g,Obj.cells #[.slice A1 lo.length c1,.slice A2' up.length c2',.slice A3 gs.length c3] 38),(b8,Obj.cells #[.slice (some ⟨bA,offA,none⟩) N c] 35),(bV,Obj.cells #[.int .i64 (v:Int)] 3),(sB+1,Obj.cells #[.int .u8 u] 22),(bA,oA)]=L:=⟨_,rfl⟩
                 have hLn:∀ {t:TypeId} {v:Value} {n:Nat} {us:List Value},wO.ownsRow (g+1) t 1 v n us→∀ p∈L0,v.ownBlock≠some p.1:=fun ho p hp e=>by
                  have:=ownsRow_lt ho e;rw[← hL0] at hp;simp only[qk,List.not_mem_nil,or_false] at hp
                  rcases hp with rfl | rfl | rfl | rfl | rfl <;> dsimp only at this <;> omega
                 have hJ0:JM wL g (g+1) nk gs.length (gs++[sB+1+1]) (ps++[row]) L0 (.slice A1 lo.length c1) (.slice A2' up.length c2') (.slice A3 gs.length c3) lo up wr:=by
                  refine⟨hO1,fun p hp=>?_,hLn ho1,hLn ho2,hLn ho3,hbel5,by have:=hbel5.size; have:=hT5.lt; omega⟩
                  rw[← hL0] at hp;simp only[qk,List.not_mem_nil,or_false] at hp
                  rcases hp with rfl | rfl | rfl | rfl | rfl
                  · exact hT5
                  · exact h85
                  · exact hV5
                  · exact hU5
                  · exact hoA
                 have hmg:(g,Obj.cells #[.slice A1 lo.length c1,.slice A2' up.length c2',.slice A3 gs.length c3] 38)∈L0:=by rw[← hL0]; simp
                 have hKS:∀ W:World,(∀ p∈L0,W.heap[p.1]?=some p.2)→W.cell? ⟨g,0,none⟩=some (.slice A1 lo.length c1)∧W.cell? ⟨g,1,none⟩=some (.slice A2' up.length c2')∧W.cell? ⟨g,2,none⟩=some (.slice A3 gs.length c3)∧W.cell? ⟨b8,0,none⟩=some (.slice (some ⟨bA,offA,none⟩) N c)∧W.cell? ⟨bV,0,none⟩=some (.int .i64 (v:Int))∧W.cell? ⟨sB+1,0,none⟩=some (.int .u8 u)∧W.cell? ⟨bA,offA+v,none⟩=some (.int .u8 lv):=by
                  rw[← hL0];intro W hW;have q1:Blk W g 38 #[.slice A1 lo.length c1,.slice A2' up.length c2',.slice A3 gs.length c3]:=hW (g,_) (by simp);have q2:Blk W b8 35 #[.slice (some ⟨bA,offA,none⟩) N c]:=hW (b8,_) (by simp);have q3:Blk W bV 3 #[.int .i64 (v:Int)]:=hW (bV,_) (by simp);have q4:Blk W (sB+1) 22 #[.int .u8 u]:=hW (sB+1,_) (by simp);exact⟨q1.cell 0,q1.cell 1,q1.cell 2,q2.cell 0,q3.cell 0,q4.cell 0,(World.cell?_of_block ((hW (bA,oA) (by simp)).trans hoA.symm)).trans xA⟩
                 have hgs':g∉gs++[sB+1+1]:=by
                  intro h
                  rcases List.mem_append.1 h with h | h
                  · exact hgs h
                  · rw[List.mem_singleton.1 h] at hgV; omega
                 have hZ:g≤wL.heap.size:=Nat.le_of_eq Hg.out.symm;have hZ1:g≤g+1:=Nat.le_succ g
                 have hgl1:gs.length+1=(gs++[sB+1+1]).length:=by simp
                 have hvI:(0:Int)≤(v:Int):=by omega
                 have hvI2:(v:Int)<N:=by omega
                 have HJ00:=qq hJ0;have HKS:=qq hKS;have Hlx:=qq hlx;have Hlo:=qq hlo;have Hup:=qq hup;have Hgs':=qq hgs';have Hq3:=qq hq3;have Hgm:=qq hgm;have Hgl1:=qq hgl1;clear hO1 hrl' hlx hcA xA hT5 h85 hV5 hU5 hbel5 ho1 ho2 ho3 hL0 hLn hJ0 hKS hgs' hq3 hgm hgl1 hlo hup;go_upto_region 33 with fail;obtain⟨i0,hi0,hz0,hz1,hz2⟩:=info_parts multInfo;obtain⟨r0,hr0,hy0,hy1,hy2⟩:=info_parts mrowInfo;refine wp_region_noPanic ?_;refine wp_region_T (fun w'=>w'.cell? ⟨g,0,none⟩=some (.slice A1 lo.length c1)∧w'.cell? ⟨g,1,none⟩=some (.slice A2' up.length c2')∧w'.cell? ⟨g,2,none⟩=some (.slice A3 gs.length c3)∧w'.cell? ⟨b8,0,none⟩=some (.slice (some ⟨bA,offA,none⟩) N c)∧w'.cell? ⟨bV,0,none⟩=some (.int .i64 (v:Int))∧w'.cell? ⟨sB+1,0,none⟩=some (.int .u8 u)∧w'.cell? ⟨bA,offA+v,none⟩=some (.int .u8 lv)) 19 (by kernel_rfl) (HKS.out _ fun p hp=>HJ00.out.hold p hp) (fun hHeld=>?_);have hJd:=HJ00.out.fresh hZ (Below.drew (Below.refl wr.heap.size wr));obtain⟨W0,hW0⟩:∃ x,wr.drew=x:=⟨_,rfl⟩;rw[hW0] at hJd hHeld ⊢;have HJ0:=qq hJd;clear hJd hW0 HJ00;refine nx0 0 ?_
                 iterate 6 (refine nx (v:=?_) rfl (by kernel_rfl) (fun _ _ _ h=>h) (by rfl) ?_ (by assumption) ?_; rotate_left; focus (intro w hSw; (try dsimp only at hSw); first | (go_simp; done) | (go_simp; with_reducible rfl)); try simp only[Act.put,qg,qe,qf,qd,qh,qi,Nat.reduceAdd])
                 refine nx9 ?_;refine nx0 8 ?_
                 iterate 2 (refine nx (v:=?_) rfl (by kernel_rfl) (fun _ _ _ h=>h) (by rfl) ?_ (by assumption) ?_; rotate_left; focus (intro w hSw; (try dsimp only at hSw); first | (go_simp; done) | (go_simp; with_reducible rfl)); try simp only[Act.put,qg,qe,qf,qd,qh,qi,Nat.reduceAdd])
                 refine nx9 ?_
                 refine wpAnyT_takeC (i:=10) (v:=?_) rfl (by kernel_rfl) (by kernel_rfl) (by kernel_rfl) (by kernel_rfl) (by kernel_rfl) (fun _ _ _ h=>h) (Or.inl ⟨by rfl,?_⟩) (by assumption) ?_
                 rotate_left
                 · (intro w hSw; (try dsimp only at hSw); first | (go_simp; done) | (go_simp; with_reducible rfl))
                 try simp only[Act.put,qg,qe,qf,qd,qh,qi]
                 refine nx0 13 ?_
                 iterate 2 (refine nx (v:=?_) rfl (by kernel_rfl) (fun _ _ _ h=>h) (by rfl) ?_ (by assumption) ?_; rotate_left; focus (intro w hSw; (try dsimp only at hSw); first | (go_simp; done) | (go_simp; with_reducible rfl)); try simp only[Act.put,qg,qe,qf,qd,qh,qi,Nat.reduceAdd])
                 refine nx9 ?_
                 refine wpAnyT_takeC (i:=15) (v:=?_) rfl (by kernel_rfl) (by kernel_rfl) (by kernel_rfl) (by kernel_rfl) (by kernel_rfl) (fun _ _ _ h=>h) (Or.inl ⟨by rfl,?_⟩) (by assumption) ?_
                 rotate_left
                 · (intro w hSw; (try dsimp only at hSw); first | (go_simp; done) | (go_simp; with_reducible rfl))
                 try simp only[Act.put,qg,qe,qf,qd,qh,qi]
                 clear hHeld;obtain⟨W,hW⟩:∃ x,x=W0:=⟨_,rfl⟩;subst hW;have HJ:=HJ0;clear HJ0;have n6:=trivial;have n7:=trivial;have n11:=trivial;have n12:=trivial;have n16:=trivial;have n17:=trivial
                 iterate 6
                  all_goals first
                   | (have hst:=And.intro n6 (And.intro n7 (And.intro n11 (And.intro n12 (And.intro n16 n17)))); clear hst; refine wpAnyT_three (i:=6) (j:=11) (k:=16) (by kernel_rfl) rfl rfl rfl (fun K hK=>mark 6 ?_) (fun K hK=>mark 11 ?_) (fun K hK=>mark 16 ?_))
                   | (have hst:=And.intro n7 (And.intro n11 (And.intro n12 (And.intro n16 n17))); clear hst; refine wpAnyT_three (i:=7) (j:=11) (k:=16) (by kernel_rfl) rfl rfl rfl (fun K hK=>mark 7 ?_) (fun K hK=>mark 11 ?_) (fun K hK=>mark 16 ?_))
                   | (have hst:=And.intro n6 (And.intro n7 (And.intro n12 (And.intro n16 n17))); clear hst; refine wpAnyT_two (i:=6) (j:=16) (by kernel_rfl) rfl rfl (fun K hK=>mark 6 ?_) (fun K hK=>mark 16 ?_))
                   | (have hst:=And.intro n6 (And.intro n7 (And.intro n11 (And.intro n12 n17))); clear hst; refine wpAnyT_two (i:=6) (j:=11) (by kernel_rfl) rfl rfl (fun K hK=>mark 6 ?_) (fun K hK=>mark 11 ?_))
                   | (have hst:=And.intro n11 (And.intro n12 (And.intro n16 n17)); clear hst; refine wpAnyT_two (i:=11) (j:=16) (by kernel_rfl) rfl rfl (fun K hK=>mark 11 ?_) (fun K hK=>mark 16 ?_))
                   | (have hst:=And.intro n7 (And.intro n12 (And.intro n16 n17)); clear hst; refine wpAnyT_two (i:=7) (j:=16) (by kernel_rfl) rfl rfl (fun K hK=>mark 7 ?_) (fun K hK=>mark 16 ?_))
                   | (have hst:=And.intro n7 (And.intro n11 (And.intro n12 n17)); clear hst; refine wpAnyT_two (i:=7) (j:=11) (by kernel_rfl) rfl rfl (fun K hK=>mark 7 ?_) (fun K hK=>mark 11 ?_))
                   | (have hst:=And.intro n6 (And.intro n7 (And.intro n12 n17)); clear hst; refine wpAnyT_step (i:=6) (by kernel_rfl) rfl (fun K hK=>mark 6 ?_))
                   | (have hst:=And.intro n12 (And.intro n16 n17); clear hst; refine wpAnyT_two (i:=12) (j:=16) (by kernel_rfl) rfl rfl (fun K hK=>mark 12 ?_) (fun K hK=>mark 16 ?_))
                   | (have hst:=And.intro n11 (And.intro n12 n17); clear hst; refine wpAnyT_step (i:=11) (by kernel_rfl) rfl (fun K hK=>mark 11 ?_))
                   | (have hst:=And.intro n7 (And.intro n12 n17); clear hst; refine wpAnyT_step (i:=7) (by kernel_rfl) rfl (fun K hK=>mark 7 ?_))
                   | (have hst:=And.intro n16 n17; clear hst; refine wpAnyT_step (i:=16) (by kernel_rfl) rfl (fun K hK=>mark 16 ?_))
                   | (have hst:=And.intro n12 n17; clear hst; refine wpAnyT_step (i:=12) (by kernel_rfl) rfl (fun K hK=>mark 12 ?_))
                   | (have hst:=n17; clear hst; refine wpAnyT_step (i:=17) (by kernel_rfl) rfl (fun K hK=>mark 17 ?_))
                  all_goals first
                   | refine unmark (n:=7) ?_
                     clear n7
                     refine step_append_rd _ (by rfl) (.tmp 128) (.tmp 133) 35 (by rfl) (g+1) 22 i0 _ 1 1 Tryz.underlying35 hi0 hz0 hz1 hz2 rfl (by omega) _ lo.length (lo.map (Value.int .u8)) (by rfl) HJ.out.own.o1 (b6+1) (some ⟨b6,0,none⟩) 1 1 [.int .u8 lv] (by rfl) (rd_blk1 (HJ.out.hold (b6,Obj.cells #[.int .u8 lv] 22) (by simp))) (by intro x hx; simp at hx; subst hx; rfl) (by have:=Hlo.out; unfold maxLen; omega) (by have:=Hlo.out; omega) HJ.out.sz ?_
                     intro v7 W ho hg7 hat;have hJn:=HJ.out.app1 hZ hZ1 ho hg7 hat;clear HJ;obtain⟨A9,c9,rfl⟩:=ownsRow_form ho;have hSn:=HKS.out _ fun p hp=>hJn.hold p (by simp only[qk,hp,or_true]);refine hK.out _ _ hSn ?_;clear hK K ho hg7 hat
                     try simp only[Act.put,qg,qe,qf,qd,qh,qi]
                     have HJ:=qq hJn;clear hJn
                     refine wpAnyT_take (i:=18) (v:=?_) rfl (by kernel_rfl) (by kernel_rfl) (by kernel_rfl) (by kernel_rfl) (fun _ _ _ h=>h) (Or.inl ⟨by rfl,?_⟩) (by assumption) ?_
                     rotate_left
                     · (intro w hSw; (try dsimp only at hSw); first | (go_simp; done) | (go_simp; with_reducible rfl))
                     try simp only[Act.put,qg,qe,qf,qd,qh,qi]
                   | refine unmark (n:=12) ?_
                     clear n12
                     refine step_append_rd _ (by rfl) (.tmp 136) (.tmp 138) 35 (by rfl) (g+1) 22 i0 _ 1 1 Tryz.underlying35 hi0 hz0 hz1 hz2 rfl (by omega) _ up.length (up.map (Value.int .u8)) (by rfl) HJ.out.own.o2 (b11+1) (some ⟨b11,0,none⟩) 1 1 [.int .u8 u] (by rfl) (rd_blk1 (HJ.out.hold (b11,Obj.cells #[.int .u8 u] 22) (by simp))) (by intro x hx; simp at hx; subst hx; rfl) (by have:=Hup.out; unfold maxLen; omega) (by have:=Hup.out; omega) HJ.out.sz ?_
                     intro v7 W ho hg7 hat;have hJn:=HJ.out.app2 hZ hZ1 ho hg7 hat;clear HJ;obtain⟨A9,c9,rfl⟩:=ownsRow_form ho;have hSn:=HKS.out _ fun p hp=>hJn.hold p (by simp only[qk,hp,or_true]);refine hK.out _ _ hSn ?_;clear hK K ho hg7 hat
                     try simp only[Act.put,qg,qe,qf,qd,qh,qi]
                     have HJ:=qq hJn;clear hJn
                   | refine unmark (n:=17) ?_
                     clear n17
                     refine step_append_rd _ (by rfl) (.tmp 141) (.tmp 143) 36 (by rfl) (g+1) 35 r0 _ 1 24 Tryz.underlying36 hr0 hy0 hy1 hy2 rfl (by omega) (.slice A3 gs.length c3) gs.length (gs.map fun g=>Value.slice (some ⟨g,0,none⟩) nk nk) (by rfl) (by have:=HJ.out.own.o3; rw[Hq3.out] at this; exact this) (b16+1) (some ⟨b16,0,none⟩) 1 1 [.slice (some ⟨sB+1+1,0,none⟩) nk nk] (by rfl) (rd_blk1 (HJ.out.hold (b16,Obj.cells #[.slice (some ⟨sB+1+1,0,none⟩) nk nk] 35) (by simp))) (by intro x hx; simp at hx; subst hx; rfl) (by have:=Hgl.out; unfold maxLen; omega) (by have:=Hgl.out; omega) HJ.out.sz ?_
                     intro v7 W ho hg7 hat
                     have hJn:=HJ.out.app3 hZ hZ1 Hgl1.out Hgm.out (by rw[Hq3.out]; exact ho) hg7 hat
                     clear HJ;obtain⟨A9,c9,rfl⟩:=ownsRow_form ho;have hSn:=HKS.out _ fun p hp=>hJn.hold p (by simp only[qk,hp,or_true]);refine hK.out _ _ hSn ?_;clear hK K ho hg7 hat
                     try simp only[Act.put,qg,qe,qf,qd,qh,qi]
                     have HJ:=qq hJn;clear hJn
                   | refine unmark (n:=6) ?_
                     clear n6;go_simp;have hJn:=HJ.out.new hZ (Obj.cells #[.int .u8 lv] 22);obtain⟨b6,hBn⟩:∃ x,W.heap.size=x:=⟨_,rfl⟩;obtain⟨W,hWn⟩:∃ x,W.alloc (Obj.cells #[.int .u8 lv] 22)=x:=⟨_,rfl⟩;rw[hWn,hBn] at hJn;rw[hWn,hBn];have hSn:=HKS.out _ fun p hp=>hJn.hold p (by simp only[qk,hp,or_true]);refine hK.out _ _ hSn ?_;clear hK K hWn hBn HJ
                     try simp only[Act.put,qg,qe,qf,qd,qh,qi]
                     have HJ:=qq hJn;clear hJn
                   | refine unmark (n:=11) ?_
                     clear n11;go_simp;have hJn:=HJ.out.new hZ (Obj.cells #[.int .u8 u] 22);obtain⟨b11,hBn⟩:∃ x,W.heap.size=x:=⟨_,rfl⟩;obtain⟨W,hWn⟩:∃ x,W.alloc (Obj.cells #[.int .u8 u] 22)=x:=⟨_,rfl⟩;rw[hWn,hBn] at hJn;rw[hWn,hBn];have hSn:=HKS.out _ fun p hp=>hJn.hold p (by simp only[qk,hp,or_true]);refine hK.out _ _ hSn ?_;clear hK K hWn hBn HJ
                     try simp only[Act.put,qg,qe,qf,qd,qh,qi]
                     have HJ:=qq hJn;clear hJn
                   | refine unmark (n:=16) ?_
                     clear n16;go_simp;have hJn:=HJ.out.new hZ (Obj.cells #[.slice (some ⟨sB+1+1,0,none⟩) nk nk] 35);obtain⟨b16,hBn⟩:∃ x,W.heap.size=x:=⟨_,rfl⟩;obtain⟨W,hWn⟩:∃ x,W.alloc (Obj.cells #[.slice (some ⟨sB+1+1,0,none⟩) nk nk] 35)=x:=⟨_,rfl⟩;rw[hWn,hBn] at hJn;rw[hWn,hBn];have hSn:=HKS.out _ fun p hp=>hJn.hold p (by simp only[qk,hp,or_true]);refine hK.out _ _ hSn ?_;clear hK K hWn hBn HJ
                     try simp only[Act.put,qg,qe,qf,qd,qh,qi]
                     have HJ:=qq hJn;clear hJn
                 all_goals
                  skip
                  have hqg:=HJ.out.hold (g,Obj.cells #[.slice A1 lo.length c1,.slice A2' up.length c2',.slice A3 gs.length c3] 38) (by simp only[qk,hmg,or_true]);have hend:=HJ.out.end_ (Nat.lt_succ_self g) (Nat.le_refl g) Hgs'.out hqg;have hqg:Blk W g 38 #[.slice A1 lo.length c1,.slice A2' up.length c2',.slice A3 gs.length c3]:=hqg;have x0:W.cell? ⟨g,0,none⟩=some (.slice A1 lo.length c1):=hqg.cell 0;have x1:W.cell? ⟨g,1,none⟩=some (.slice A2' up.length c2'):=hqg.cell 1;have x2:W.cell? ⟨g,2,none⟩=some (.slice A3 gs.length c3):=hqg.cell 2;have f0:=hqg.frozen 0;have f1:=hqg.frozen 1;have f2:=hqg.frozen 2;have Hend:=qq hend;clear hend hqg HJ;refine wpAnyT_seq 19 (by omega) (by rfl) (by kernel_rfl) ?_;simp only[List.drop_succ_cons,List.drop_zero];go_wp2_with fail;refine NoPanic.normal ?_;go_wp2_with fail;go_roundg (nk - (k+1))
                  case measure=>omega
                  case rel=>exact⟨k+1,_,_,_,lo++[lv],up++[u],ps++[row],gs++[sB+1+1],hkn,rfl,by simp,Hend.out.1,Hend.out.2.1,by have:=Hgl.out; simp; omega,Hgs'.out,Hlx.out,Hend.out.2.2⟩
            · have d0:decide (k<nk)=false:=by simpa using hkn
              have hkk:nk=k:=by omega
              subst hkk;have hres5:=((Hres3.out.below Hbr.out (by omega)).below hbW (by omega));have hrn:=hO.not_mem hres5;have hOn:OwnT wO (g+1) nk gs.length v1 v2 v3 lo up ps gs:=hO;have hO9:=((hOn.setG (by omega) hrn 0 v1).setG (by omega) hrn 1 v2).setG (by omega) hrn 2 v3
              have htab:=hO9.tab (by unfold maxLen; omega)
              have hb9:=(((Hb03.out.trans ((Hbr.out.mono (by omega)).trans (hbW.mono (by omega)))).setCell (p:=⟨w.heap.size,0,none⟩) (Nat.le_refl _) v1).setCell (p:=⟨w.heap.size,1,none⟩) (Nat.le_refl _) v2).setCell (p:=⟨w.heap.size,2,none⟩) (Nat.le_refl _) v3;have hPE:ProjE N xs a kn ⟨lo,up,ps⟩:=ProjK.done (hknl.symm ▸ hP)
              have HR:Hid (ProjR (N:Int) xs keep ⟨lo,up,ps⟩ 0):=qq (.inr ⟨by omega,a,core,0,HS.out,.inr (.inr ⟨rfl,Hok.out,rfl,by rw[Int.toNat_natCast,Hkn9.out]; exact hPE⟩)⟩)
              have x0:wO.cell? ⟨g,0,none⟩=some v1:=hT.cell 0;have x1:wO.cell? ⟨g,1,none⟩=some v2:=hT.cell 1;have x2:wO.cell? ⟨g,2,none⟩=some v3:=hT.cell 2;have r0:wO.cell? ⟨w.heap.size,0,none⟩=some (.slice none 0 0):=hres5.cell 0;have r1:wO.cell? ⟨w.heap.size,1,none⟩=some (.slice none 0 0):=hres5.cell 1;have r2:wO.cell? ⟨w.heap.size,2,none⟩=some (.slice none 0 0):=hres5.cell 2;have f0:=hres5.frozen 0;have f1:=hres5.frozen 1;have f2:=hres5.frozen 2;have hk9:=hres5.set3 v1 v2 v3;obtain⟨A1,c1,e1⟩:=ownsRow_form hO.o1;obtain⟨A2',c2',e2⟩:=ownsRow_form hO.o2;have ho3:=hO.o3;rw[List.take_of_length_le (Nat.le_refl _)] at ho3;obtain⟨A3,c3,e3⟩:=ownsRow_form ho3
              have hfr:∀ ad,A3=some ad→w.heap.size≤ad.block:=fun ad ea=>by
               have ho4:=ho3;rw[e3] at ho4;have:=ownsRow_fr ho4 ad ea;omega
              have Hfr:=qq hfr;have Htab:=qq htab;have Hb9:=qq hb9;have Hk9:=qq hk9;clear hfr hO hOn hO9 ho3 htab hb9 hPE hP hT hrn hk9 hres5 hgs hbW;subst e1 e2 e3;go_wp2_with fail;have d0:=Hk9.out.cell 0;have d1:=Hk9.out.cell 1;have d2:=Hk9.out.cell 2;simp only[qc,qb,qa] at d0 d1 d2;exact bodyPost_ret (v:=.tuple #[.agg #[.slice A1 lo.length c1,.slice A2' up.length c2',.slice A3 gs.length c3],.int .i64 0]) (by simp[results,Tryz.results48,go_sem,d0,d1,d2]) rfl ⟨_,⟨lo,up,ps⟩,_,rfl,Htab.out,HR.out,Hb9.out,FrT.of Hfr.out⟩
   · have de:decide (er=0)=false:=by simpa using her
     have dn:(er==0)=false:=by simpa using her
     have HR:Hid (ProjR n xs keep emptyT er):=qq (.inr ⟨by omega,a,core,er,HS.out,.inl ⟨her,rfl,rfl⟩⟩)
     clear hlong her;have hk3:=(Hres3.out).set3 (.slice none 0 0) (.slice none 0 0) (.slice none 0 0);have hb3:=(((Hb03.out).setCell (p:=⟨w.heap.size,0,none⟩) (Nat.le_refl _) (.slice none 0 0)).setCell (p:=⟨w.heap.size,1,none⟩) (Nat.le_refl _) (.slice none 0 0)).setCell (p:=⟨w.heap.size,2,none⟩) (Nat.le_refl _) (.slice none 0 0);have r0:(w3).cell? ⟨w.heap.size,0,none⟩=some (.slice none 0 0):=(Hres3.out).cell 0;have r1:(w3).cell? ⟨w.heap.size,1,none⟩=some (.slice none 0 0):=(Hres3.out).cell 1;have r2:(w3).cell? ⟨w.heap.size,2,none⟩=some (.slice none 0 0):=(Hres3.out).cell 2;have f0:=(Hres3.out).frozen 0;have f1:=(Hres3.out).frozen 1;have f2:=(Hres3.out).frozen 2;have Hb3:=qq hb3;have Hk3:=qq hk3;clear hb3 hk3;go_wp2_with fail;have d0:=Hk3.out.cell 0;have d1:=Hk3.out.cell 1;have d2:=Hk3.out.cell 2;simp only[qc,qb,qa] at d0 d1 d2;exact bodyPost_ret (v:=.tuple #[.agg #[.slice none 0 0,.slice none 0 0,.slice none 0 0],.int .i64 (er)]) (by simp[results,Tryz.results48,go_sem,d0,d1,d2]) rfl ⟨_,emptyT,_,rfl,TabV.empty _ _,HR.out,Hb3.out,FrT.nil _⟩
end Go.Proofs.YtdmakpmbknindaaGreatDoor
