import Derived.Test.YtdmakpmbknindaaGreatDoorR0
import Derived.Test.YtdmakpmbknindaaGreatDoorM26
set_option linter.unusedVariables false
set_option linter.unusedSimpArgs false
set_option maxHeartbeats 4000000
set_option maxRecDepth 100000
namespace Go.Proofs.YtdmakpmbknindaaGreatDoor
open Go.RowKit
theorem all_take {l:List TyD} {k:Nat} (h:k<l.length):(l.take (k+1)).all mayT=((l.take k).all mayT&&mayT l[k]):=by
 rw[List.take_succ_eq_append_getElem h,List.all_append]; simp
theorem isB_zero:isB 0 0=true:=by decide
theorem refIs_go (N:Nat):∀ (t:TyD),nodes t≤N→∀ (A:Option Addr) (m cp:Nat) (w:World),TysV w w.heap.size A m cp t.l →
 Calls Tryz.prog 111 #[.agg #[.int .u8 t.k,.int .i64 t.n,.int .i64 t.v,.int .u8 t.c,.slice A m cp]] w fun e w'=>e=.returned (.bool (mayT t))∧Below w.heap.size w w':=by
 induction N with
 | zero=>intro t hN; exact absurd hN (by rw[nodes_eq t]; omega)
 | succ N ih=>
   intro t hN A m cp w hl;have Ih:=qq ih;clear ih;obtain⟨k,n,v,c,l⟩:=t;dsimp only[TyD.k,TyD.n,TyD.v,TyD.c,TyD.l] at hl ⊢;have hlen:=hl.len;have m63:m≤9223372036854775807:=Nat.le_trans hl.2.1 hl.2.2.1;have hbx:=below_box (w:=w) (Obj.cells #[.int .u8 k,.int .i64 n,.int .i64 v,.int .u8 c,.slice A m cp] 27);have hz:=blk_new w #[.int .u8 k,.int .i64 n,.int .i64 v,.int .u8 c,.slice A m cp] 27;obtain⟨W,hW⟩:∃ W,w.alloc (Obj.cells #[.int .u8 k,.int .i64 n,.int .i64 v,.int .u8 c,.slice A m cp] 27)=W:=⟨_,rfl⟩;rw[hW] at hbx hz;have HW:=qq hW;have HL:=qq ((hl.below hbx).more hbx.size);have Hz:=qq hz;have Hbx:=qq hbx;have z0:=hz.cell 0;have z1:=hz.cell 1;have z2:=hz.cell 2;have z3:=hz.cell 3;have z4:=hz.cell 4
   have HN:Hid (∀ i (h:i<l.length),nodes l[i]≤N):=qq fun i h=>by have:=nodes_get (t:=.mk k n v c l) h; have e:(TyD.mk k n v c l).l[i]=l[i]:=rfl; rw[e] at this; omega
   obtain⟨P,hP⟩:∃ P,(decide (v=0)&&decide (c=0))=P:=⟨_,rfl⟩;obtain⟨B,hB⟩:∃ B,isB c v=B:=⟨_,rfl⟩;obtain⟨I,hI⟩:∃ I,isN (.mk k n v c l)=I:=⟨_,rfl⟩
   have hd:I=(decide (1≤k)&&decide (k≤8)&&decide (0≤n)&&decide (n<mostI k)&&!(decide (0≤kidsI k)&&!decide ((m:Int)=kidsI k))&&decide ((m:Int)≤4)&&(P || (decide (k=7)&&B))):=by
    rw[← hI,← hP,← hB,← hlen]; rfl
   have hPB:P=true→B=true:=fun h=>by
    rw[← hP] at h;simp only[Bool.and_eq_true,decide_eq_true_eq] at h;rw[← hB,h.1,h.2];exact isB_zero
   have Hd:=qq hd;have HP:=qq hP;have HB:=qq hB;have HI:=qq hI;have HPB:=qq hPB;clear hl hbx hz hW hN hP hB hI hd hPB
   go_enter Tryz.func111,Tryz.ntmps111
   go_upto_region 1 with fail;rw[HW.out]
   go_cut [3] (fun s3 wx=>s3=.bool P∧wx=W)
   case first=>
    by_cases hv:v=0
    · have e1:(v==0)=true:=by simp[hv]
      by_cases hc:c=0
      · have e2:(c==0)=true:=by simp[hc]
        obtain rfl:P=true:=by rw[← HP.out]; simp[hv,hc]
        clear hv hc;go_wp2_with fail;go_meet;exact⟨rfl,rfl⟩
      · have e2:(c==0)=false:=by simp[hc]
        obtain rfl:P=false:=by rw[← HP.out]; simp[hc]
        clear hv hc;go_wp2_with fail;go_meet;exact⟨rfl,rfl⟩
    · have e1:(v==0)=false:=by simp[hv]
      obtain rfl:P=false:=by rw[← HP.out]; simp[hv]
      clear hv;go_wp2_with fail;go_meet;exact⟨rfl,rfl⟩
   case rest=>
    obtain⟨rfl,rfl⟩:=hcut;obtain⟨w2,hw2⟩:∃ w2,w2=wc:=⟨_,rfl⟩;subst hw2
    go_upto_block 0 with fail
    go_cut [4] (fun s4 wx=>s4=.bool I∧Below w2.heap.size w2 wx)
    case first=>
     by_cases hk1:k=1
     · subst hk1
       cases P with
       | false=>
         obtain rfl:I=false:=by rw[Hd.out]; simp
         go_wp2_with fail;go_meet;exact⟨rfl,Below.refl _ _⟩
       | true=>
         by_cases hn0:n≥0
         · have d3:decide (n≥0)=true:=by simpa using hn0
           by_cases hn1:n<1048576
           · have d4:decide (n<1048576)=true:=by simpa using hn1
             by_cases hm:(m:Int)=0
             · have d5:((m:Int)==0)=true:=by simp only[hm]; rfl
               obtain rfl:I=true:=by rw[Hd.out]; simp[mostI,kidsI,hm,hn1]; omega
               clear hm hn0 hn1;go_wp2_with fail;go_meet;exact⟨rfl,Below.refl _ _⟩
             · have d5:((m:Int)==0)=false:=by simp; omega
               obtain rfl:I=false:=by rw[Hd.out]; simp[mostI,kidsI,show ¬ m=0 by omega]
               clear hm hn0 hn1;go_wp2_with fail;go_meet;exact⟨rfl,Below.refl _ _⟩
           · have d4:decide (n<1048576)=false:=by simpa using hn1
             obtain rfl:I=false:=by rw[Hd.out]; simp[mostI,kidsI,hn1]
             clear hn0 hn1;go_wp2_with fail;go_meet;exact⟨rfl,Below.refl _ _⟩
         · have d3:decide (n≥0)=false:=by simpa using hn0
           obtain rfl:I=false:=by rw[Hd.out]; simp[show ¬ 0≤n by omega]
           clear hn0;go_wp2_with fail;go_meet;exact⟨rfl,Below.refl _ _⟩
     · by_cases hk8:k=8
       · subst hk8
         clear hk1
         cases P with
         | false=>
           obtain rfl:I=false:=by rw[Hd.out]; simp
           go_wp2_with fail;go_meet;exact⟨rfl,Below.refl _ _⟩
         | true=>
           by_cases hn0:n≥0
           · have d3:decide (n≥0)=true:=by simpa using hn0
             by_cases hn1:n<40
             · have d4:decide (n<40)=true:=by simpa using hn1
               by_cases hm:(m:Int)≤4
               · have d5:decide ((m:Int)≤4)=true:=by simpa using hm
                 obtain rfl:I=true:=by rw[Hd.out]; simp[mostI,kidsI,hm,hn1]; omega
                 clear hm hn0 hn1;go_wp2_with fail;go_meet;exact⟨rfl,Below.refl _ _⟩
               · have d5:decide ((m:Int)≤4)=false:=by simpa using hm
                 obtain rfl:I=false:=by rw[Hd.out]; simp[mostI,kidsI,hm]
                 clear hm hn0 hn1;go_wp2_with fail;go_meet;exact⟨rfl,Below.refl _ _⟩
             · have d4:decide (n<40)=false:=by simpa using hn1
               obtain rfl:I=false:=by rw[Hd.out]; simp[mostI,kidsI,hn1]
               clear hn0 hn1;go_wp2_with fail;go_meet;exact⟨rfl,Below.refl _ _⟩
           · have d3:decide (n≥0)=false:=by simpa using hn0
             obtain rfl:I=false:=by rw[Hd.out]; simp[show ¬ 0≤n by omega]
             clear hn0;go_wp2_with fail;go_meet;exact⟨rfl,Below.refl _ _⟩
       · have hmo:mostI k=1:=by unfold mostI; rw[if_neg hk1,if_neg hk8]
         rw[hmo] at Hd
         have hnn:(decide (0≤n)&&decide (n<1))=(n==0):=by
          by_cases h:n=0
          · subst h; rfl
          · rw[show(n==0)=false from by simp[h]]
            by_cases h0:0≤n
            · rw[decide_eq_false (show ¬ n<1 by omega),Bool.and_false]
            · rw[decide_eq_false h0]; rfl
         by_cases hk7:k=7
         · subst hk7
           clear hk1 hk8 hmo;have hq:=refIs_any c v w2;rw[HB.out] at hq;have Hq:=qq hq
           have hPBo:(P || B)=B:=by
            cases P with
            | false=>rfl
            | true=>rw[HPB.out rfl]; rfl
           have hI7:I=((n==0)&&decide ((m:Int)=2)&&B):=by
            rw[Hd.out,← hnn,← hPBo]
            by_cases hm:(m:Int)=2
            · simp[kidsI,hm]
            · simp[kidsI,hm]
           have HI7:=qq hI7;clear hq hPBo hI7 hnn Hd
           cases B with
           | false=>
             obtain rfl:I=false:=by rw[HI7.out]; simp
             go_wp2_with fail
             refine Hq.out.mono ?_; rintro e w3 ⟨rfl,hb3⟩
             go_wp2_with fail;go_meet;exact⟨rfl,hb3⟩
           | true=>
             by_cases hn0:n=0
             · have d3:(n==0)=true:=by simp[hn0]
               rw[d3] at HI7;clear hn0
               by_cases hm:(m:Int)=2
               · have d5:((m:Int)==2)=true:=by simp only[hm]; rfl
                 obtain rfl:I=true:=by rw[HI7.out]; simp[hm]
                 clear hm;go_wp2_with fail
                 refine Hq.out.mono ?_; rintro e w3 ⟨rfl,hb3⟩
                 have y1:=(hb3.cell (p:=⟨w.heap.size,1,none⟩) (block_lt_of_cell z1)).trans z1;have y4:=(hb3.cell (p:=⟨w.heap.size,4,none⟩) (block_lt_of_cell z4)).trans z4;go_wp2_with fail;go_meet;exact⟨rfl,hb3⟩
               · have d5:((m:Int)==2)=false:=by simp; omega
                 obtain rfl:I=false:=by rw[HI7.out]; simp[hm]
                 clear hm;go_wp2_with fail
                 refine Hq.out.mono ?_; rintro e w3 ⟨rfl,hb3⟩
                 have y1:=(hb3.cell (p:=⟨w.heap.size,1,none⟩) (block_lt_of_cell z1)).trans z1;have y4:=(hb3.cell (p:=⟨w.heap.size,4,none⟩) (block_lt_of_cell z4)).trans z4;go_wp2_with fail;go_meet;exact⟨rfl,hb3⟩
             · have d3:(n==0)=false:=by simp[hn0]
               rw[d3] at HI7
               obtain rfl:I=false:=by rw[HI7.out]; rfl
               clear hn0;go_wp2_with fail
               refine Hq.out.mono ?_; rintro e w3 ⟨rfl,hb3⟩
               have y1:=(hb3.cell (p:=⟨w.heap.size,1,none⟩) (block_lt_of_cell z1)).trans z1;have y4:=(hb3.cell (p:=⟨w.heap.size,4,none⟩) (block_lt_of_cell z4)).trans z4;go_wp2_with fail;go_meet;exact⟨rfl,hb3⟩
         · have hIo:I=(decide (1≤k)&&decide (k≤8)&&(n==0)&&!(decide (0≤kidsI k)&&!decide ((m:Int)=kidsI k))&&decide ((m:Int)≤4)&&P):=by
            rw[Hd.out,← hnn,decide_eq_false hk7,Bool.false_and,Bool.or_false,Bool.and_assoc (decide (1≤k)&&decide (k≤8))]
           have HIo:=qq hIo;clear hIo Hd hmo hnn
           by_cases hk6:k=6
           · subst hk6
             clear hk1 hk8 hk7
             cases P with
             | false=>
               obtain rfl:I=false:=by rw[HIo.out,Bool.and_false]
               go_wp2_with fail;go_meet;exact⟨rfl,Below.refl _ _⟩
             | true=>
               by_cases hn0:n=0
               · have d3:(n==0)=true:=by simp[hn0]
                 rw[d3] at HIo;clear hn0
                 by_cases hm:m=1
                 · have d5:((m:Int)==1)=true:=by simp[hm]
                   obtain rfl:I=true:=by rw[HIo.out]; simp[kidsI,hm]
                   clear hm;go_wp2_with fail;go_meet;exact⟨rfl,Below.refl _ _⟩
                 · have d5:((m:Int)==1)=false:=by simp; omega
                   obtain rfl:I=false:=by
                    rw[HIo.out]
                    have:¬ (m:Int)=1:=by omega
                    simp[kidsI,this]
                    try omega
                   clear hm;go_wp2_with fail;go_meet;exact⟨rfl,Below.refl _ _⟩
               · have d3:(n==0)=false:=by simp[hn0]
                 rw[d3] at HIo
                 obtain rfl:I=false:=by rw[HIo.out]; simp
                 clear hn0;go_wp2_with fail;go_meet;exact⟨rfl,Below.refl _ _⟩
           · have hkz:kidsI k=0:=by unfold kidsI; rw[if_neg hk6,if_neg hk7,if_neg hk8]
             rw[hkz] at HIo;clear hkz
             by_cases hk2:k=2
             · subst hk2
               clear hk1 hk8 hk7 hk6
               cases P with
               | false=>
                 obtain rfl:I=false:=by rw[HIo.out,Bool.and_false]
                 go_wp2_with fail;go_meet;exact⟨rfl,Below.refl _ _⟩
               | true=>
                 by_cases hn0:n=0
                 · have d3:(n==0)=true:=by simp[hn0]
                   rw[d3] at HIo;clear hn0
                   by_cases hm:m=0
                   · have d5:((m:Int)==0)=true:=by simp[hm]
                     obtain rfl:I=true:=by rw[HIo.out]; simp[kidsI,hm]
                     clear hm;go_wp2_with fail;go_meet;exact⟨rfl,Below.refl _ _⟩
                   · have d5:((m:Int)==0)=false:=by simp; omega
                     obtain rfl:I=false:=by
                      rw[HIo.out]
                      have:¬ (m:Int)=0:=by omega
                      simp[kidsI,this]
                      try omega
                     clear hm;go_wp2_with fail;go_meet;exact⟨rfl,Below.refl _ _⟩
                 · have d3:(n==0)=false:=by simp[hn0]
                   rw[d3] at HIo
                   obtain rfl:I=false:=by rw[HIo.out]; simp
                   clear hn0;go_wp2_with fail;go_meet;exact⟨rfl,Below.refl _ _⟩
             · by_cases hk3:k=3
               · subst hk3
                 clear hk1 hk8 hk7 hk6 hk2
                 cases P with
                 | false=>
                   obtain rfl:I=false:=by rw[HIo.out,Bool.and_false]
                   go_wp2_with fail;go_meet;exact⟨rfl,Below.refl _ _⟩
                 | true=>
                   by_cases hn0:n=0
                   · have d3:(n==0)=true:=by simp[hn0]
                     rw[d3] at HIo;clear hn0
                     by_cases hm:m=0
                     · have d5:((m:Int)==0)=true:=by simp[hm]
                       obtain rfl:I=true:=by rw[HIo.out]; simp[kidsI,hm]
                       clear hm;go_wp2_with fail;go_meet;exact⟨rfl,Below.refl _ _⟩
                     · have d5:((m:Int)==0)=false:=by simp; omega
                       obtain rfl:I=false:=by
                        rw[HIo.out]
                        have:¬ (m:Int)=0:=by omega
                        simp[kidsI,this]
                        try omega
                       clear hm;go_wp2_with fail;go_meet;exact⟨rfl,Below.refl _ _⟩
                   · have d3:(n==0)=false:=by simp[hn0]
                     rw[d3] at HIo
                     obtain rfl:I=false:=by rw[HIo.out]; simp
                     clear hn0;go_wp2_with fail;go_meet;exact⟨rfl,Below.refl _ _⟩
               · by_cases hk4:k=4
                 · subst hk4
                   clear hk1 hk8 hk7 hk6 hk2 hk3
                   cases P with
                   | false=>
                     obtain rfl:I=false:=by rw[HIo.out,Bool.and_false]
                     go_wp2_with fail;go_meet;exact⟨rfl,Below.refl _ _⟩
                   | true=>
                     by_cases hn0:n=0
                     · have d3:(n==0)=true:=by simp[hn0]
                       rw[d3] at HIo;clear hn0
                       by_cases hm:m=0
                       · have d5:((m:Int)==0)=true:=by simp[hm]
                         obtain rfl:I=true:=by rw[HIo.out]; simp[kidsI,hm]
                         clear hm;go_wp2_with fail;go_meet;exact⟨rfl,Below.refl _ _⟩
                       · have d5:((m:Int)==0)=false:=by simp; omega
                         obtain rfl:I=false:=by
                          rw[HIo.out]
                          have:¬ (m:Int)=0:=by omega
                          simp[kidsI,this]
                          try omega
                         clear hm;go_wp2_with fail;go_meet;exact⟨rfl,Below.refl _ _⟩
                     · have d3:(n==0)=false:=by simp[hn0]
                       rw[d3] at HIo
                       obtain rfl:I=false:=by rw[HIo.out]; simp
                       clear hn0;go_wp2_with fail;go_meet;exact⟨rfl,Below.refl _ _⟩
                 · by_cases hk5:k=5
                   · subst hk5
                     clear hk1 hk8 hk7 hk6 hk2 hk3 hk4
                     cases P with
                     | false=>
                       obtain rfl:I=false:=by rw[HIo.out,Bool.and_false]
                       go_wp2_with fail;go_meet;exact⟨rfl,Below.refl _ _⟩
                     | true=>
                       by_cases hn0:n=0
                       · have d3:(n==0)=true:=by simp[hn0]
                         rw[d3] at HIo;clear hn0
                         by_cases hm:m=0
                         · have d5:((m:Int)==0)=true:=by simp[hm]
                           obtain rfl:I=true:=by rw[HIo.out]; simp[kidsI,hm]
                           clear hm;go_wp2_with fail;go_meet;exact⟨rfl,Below.refl _ _⟩
                         · have d5:((m:Int)==0)=false:=by simp; omega
                           obtain rfl:I=false:=by
                            rw[HIo.out]
                            have:¬ (m:Int)=0:=by omega
                            simp[kidsI,this]
                            try omega
                           clear hm;go_wp2_with fail;go_meet;exact⟨rfl,Below.refl _ _⟩
                       · have d3:(n==0)=false:=by simp[hn0]
                         rw[d3] at HIo
                         obtain rfl:I=false:=by rw[HIo.out]; simp
                         clear hn0;go_wp2_with fail;go_meet;exact⟨rfl,Below.refl _ _⟩
                   · have c1:(k==1)=false:=by simp[hk1]
                     have c2:(k==2)=false:=by simp[hk2]
                     have c3:(k==3)=false:=by simp[hk3]
                     have c4:(k==4)=false:=by simp[hk4]
                     have c5:(k==5)=false:=by simp[hk5]
                     have c6:(k==6)=false:=by simp[hk6]
                     have c7:(k==7)=false:=by simp[hk7]
                     have c8:(k==8)=false:=by simp[hk8]
                     obtain rfl:I=false:=by
                      rw[HIo.out]
                      by_cases h1:1≤k
                      · rw[decide_eq_false (show ¬ k≤8 by omega),Bool.and_false]; rfl
                      · rw[decide_eq_false h1]; rfl
                     clear hk1 hk2 hk3 hk4 hk5 hk6 hk7 hk8;go_wp2_with fail;go_meet;exact⟨rfl,Below.refl _ _⟩
    case rest=>
     obtain⟨rfl,hbc⟩:=hcut;obtain⟨W1,hW1⟩:∃ W1,W1=wc:=⟨_,rfl⟩;subst hW1;have Hz1:=qq (Hz.out.below hbc Hz.out.lt);have HL1:=qq ((HL.out.below hbc).more hbc.size);have Hb1:=qq (Hbx.out.trans (hbc.mono Hbx.out.size));have Hlt1:=qq (Hz.out.below hbc Hz.out.lt).lt
     have hmt:mayT (.mk k n v c l)=(I&&l.all mayT):=by rw[mayT_eq,HI.out]; rfl
     have Hmt:=qq hmt;clear z0 z1 z2 z3 z4 hbc hmt Hd HP HB HI HPB;go_wp2_with fail
     go_loopg [4,5] m (fun gh ok i wr=>∃ (q:Nat) (r:Bool),q≤m∧gh=m - q∧i=.int .i64 q∧ok=.bool r∧r=(I&&(l.take q).all mayT)∧Below W1.heap.size W1 wr)
     case atStart=>exact⟨0,I,Nat.zero_le _,rfl,rfl,rfl,by simp,Below.refl _ _⟩
     case round=>
      obtain⟨q,r,hq,rfl,rfl,rfl,hr,hbel⟩:=hrel;have y4:=(Hz1.out.below hbel Hlt1.out).cell 4;have Hbel:=qq hbel
      by_cases hqm:q<m
      · have dq:decide (q<m)=true:=by simpa using hqm
        have hq':q<l.length:=by omega
        have hat:=all_take hq'
        have hat2:(I&&(l.take (q+1)).all mayT)=(r&&mayT l[q]):=by rw[hat,← Bool.and_assoc,← hr]
        have Hat:=qq hat2;clear hat
        cases r with
        | false=>
          clear hr hat2 hbel;go_wp2_with fail;go_roundg (m - (q+1))
          case measure=>omega
          case rel=>exact⟨q+1,false,by omega,rfl,by go_num,rfl,by rw[Hat.out]; rfl,Hbel.out⟩
        | true=>
          obtain⟨b,off,rfl,hb,hc⟩:=(HL1.out.below hbel).at_ (by omega);obtain⟨e0,e1,e2,e3,Ax,mx,cx,e4,hx⟩:=tyAt_iff.1 (hc q hq');have hcall:=Ih.out l[q] (HN.out q hq') Ax mx cx wr (hx.more hbel.size);obtain⟨R,hR⟩:∃ R,mayT l[q]=R:=⟨_,rfl⟩;rw[hR] at hcall Hat;obtain⟨x,hxk⟩:∃ x,l[q]=x:=⟨_,rfl⟩;rw[hxk] at e0 e1 e2 e3 hx hcall;have Hcall:=qq hcall
          have k1:(0:Int)≤(q:Int):=by omega
          have k2:(q:Int)<m:=by omega
          clear hc hx hxk hcall hR hr hat2 hbel
          cases R with
          | true=>
            go_wp2_with fail
            refine Hcall.out.mono ?_; rintro e w3 ⟨rfl,hb3⟩
            have Hb3:=qq (Hbel.out.trans (hb3.mono Hbel.out.size));clear hb3 Hcall y4 e0 e1 e2 e3 e4;go_wp2_with fail;go_roundg (m - (q+1))
            case measure=>omega
            case rel=>exact⟨q+1,true,by omega,rfl,by go_num,rfl,by rw[Hat.out]; rfl,Hb3.out⟩
          | false=>
            go_wp2_with fail
            refine Hcall.out.mono ?_; rintro e w3 ⟨rfl,hb3⟩
            have Hb3:=qq (Hbel.out.trans (hb3.mono Hbel.out.size));clear hb3 Hcall y4 e0 e1 e2 e3 e4;go_wp2_with fail;go_roundg (m - (q+1))
            case measure=>omega
            case rel=>exact⟨q+1,false,by omega,rfl,by go_num,rfl,by rw[Hat.out]; rfl,Hb3.out⟩
      · have dq:decide (q<m)=false:=by simpa using hqm
        have HR:Hid (r=mayT (.mk k n v c l)):=qq (by rw[Hmt.out,hr,List.take_of_length_le (by omega)]);have Hb:=qq (Hb1.out.trans (hbel.mono Hb1.out.size));clear hbel hr;go_wp2_with fail;go_ret;exact⟨ret_bool HR.out,Hb.out⟩
section
variable {w w':World} {S S':Nat→Prop} {A:Option Addr} {m cp B:Nat} {l:List TyD}
end
theorem refTyMay_any (t:TyD) (x:Value) (w:World) (h:TyV w w.heap.size x t):
 Calls Tryz.prog 49 #[x] w fun e w'=>e=.returned (.int .i64 (mayTE t))∧Below w.heap.size w w':=by
 obtain⟨A,m,cp,rfl,hl⟩:=h;have hbx:=below_box (w:=w) (Obj.cells #[.int .u8 t.k,.int .i64 t.n,.int .i64 t.v,.int .u8 t.c,.slice A m cp] 27);have hz:=blk_new w #[.int .u8 t.k,.int .i64 t.n,.int .i64 t.v,.int .u8 t.c,.slice A m cp] 27;have hL:=(hl.below hbx).more hbx.size;have z0:=hz.cell 0;have z1:=hz.cell 1;have z2:=hz.cell 2;have z3:=hz.cell 3;have z4:=hz.cell 4;have hq:=refSize_any t (.agg #[.int .u8 t.k,.int .i64 t.n,.int .i64 t.v,.int .u8 t.c,.slice A m cp]) _ ⟨A,m,cp,rfl,hL⟩;obtain⟨s,hs⟩:∃ s,sizeW t=s:=⟨_,rfl⟩;rw[hs] at hq;have Hq:=qq hq;have HL:=qq hL;have Hz:=qq hz;have Hbx:=qq hbx
 have hE:mayTE t=if 300<s then 3 else if mayT t then 0 else 2:=by unfold mayTE; rw[hs]
 have HE:=qq hE;clear hl hbx hz hL hq hs hE
 go_enter Tryz.func49,Tryz.ntmps49
 by_cases hbig:s>300
 · have d0:decide (s>300)=true:=by simpa using hbig
   have HR:Hid (3=mayTE t):=qq (by rw[HE.out,if_pos (by omega)]);clear hbig;go_wp2_with fail
   refine Hq.out.mono ?_; rintro e w1 ⟨rfl,hb1⟩
   have hb2:=Hbx.out.trans (hb1.mono Hbx.out.size);clear z0 z1 z2 z3 z4 hb1;go_wp2_with fail;go_ret;exact⟨ret_int HR.out,hb2⟩
 · have d0:decide (s>300)=false:=by simpa using hbig
   have hE2:mayTE t=if mayT t then 0 else 2:=by rw[HE.out,if_neg (by omega)]
   have HE2:=qq hE2;clear hbig hE2;go_wp2_with fail
   refine Hq.out.mono ?_; rintro e w1 ⟨rfl,hb1⟩
   have hz1:=Hz.out.below hb1 Hz.out.lt;have hL1:=(HL.out.below hb1).more hb1.size;have Hb2:=qq (Hbx.out.trans (hb1.mono Hbx.out.size));clear z0 z1 z2 z3 z4 hb1;have y0:=hz1.cell 0;have y1:=hz1.cell 1;have y2:=hz1.cell 2;have y3:=hz1.cell 3;have y4:=hz1.cell 4;have hq:=refIs_go (nodes t) t (Nat.le_refl _) A m cp w1 hL1;obtain⟨M,hM⟩:∃ M,mayT t=M:=⟨_,rfl⟩;rw[hM] at hq HE2;have Hq2:=qq hq;clear hq hM hz1 hL1 Hq HL Hz Hbx HE
   cases M with
   | true=>
     have HR:Hid (0=mayTE t):=qq (by rw[HE2.out]; rfl)
     go_wp2_with fail
     refine Hq2.out.mono ?_; rintro e w3 ⟨rfl,hb5⟩
     have hb6:=Hb2.out.trans (hb5.mono Hb2.out.size);clear y0 y1 y2 y3 y4 hb5 Hq2;go_wp2_with fail;go_ret;exact⟨ret_int HR.out,hb6⟩
   | false=>
     have HR:Hid (2=mayTE t):=qq (by rw[HE2.out]; rfl)
     go_wp2_with fail
     refine Hq2.out.mono ?_; rintro e w3 ⟨rfl,hb5⟩
     have hb6:=Hb2.out.trans (hb5.mono Hb2.out.size);clear y0 y1 y2 y3 y4 hb5 Hq2;go_wp2_with fail;go_ret;exact⟨ret_int HR.out,hb6⟩
theorem addAll_len (xs:List Int):∀ (l:List Int),(addAll l xs).length≤l.length+xs.length:=by
 induction xs with
 | nil=>intro l; exact Nat.le_refl _
 | cons a xs ih=>
   intro l;have h1:=ih (addN l a);have h2:=addN_len l a;show(addAll (addN l a) xs).length≤_;rw[List.length_cons];omega
section
variable {fv fv':Int→Option TyD} {fm fm':Int→Int × Int}
end
def RetTy (u:TyD) (w:World) (e:Ending) (w':World):Prop:=
 ∃ A m cp,e=.returned (.agg #[.int .u8 u.k,.int .i64 u.n,.int .i64 u.v,.int .u8 u.c,.slice A m cp])∧TysV w' w'.heap.size A m cp u.l∧Below w.heap.size w w'
section
variable {t a b:TyD} {s x:Int} {r:Bool}
end
structure Two (a b:TyD) (A:Option Addr) (m cp:Nat) (A':Option Addr) (m' cp':Nat) (w W:World):Prop where
 eq:((w.alloc (Obj.cells #[.int .u8 a.k,.int .i64 a.n,.int .i64 a.v,.int .u8 a.c,.slice A m cp] 27)).alloc (Obj.cells #[.int .u8 b.k,.int .i64 b.n,.int .i64 b.v,.int .u8 b.c,.slice A' m' cp'] 27)).alloc (Obj.cells #[.int .u8 a.k,.int .i64 a.n,.int .i64 a.v,.int .u8 a.c,.slice A m cp,.int .u8 b.k,.int .i64 b.n,.int .i64 b.v,.int .u8 b.c,.slice A' m' cp'] 27)=W
 bel:Below w.heap.size w W
 size:W.heap.size=w.heap.size+1+1+1
 ba:Blk W w.heap.size 27 #[.int .u8 a.k,.int .i64 a.n,.int .i64 a.v,.int .u8 a.c,.slice A m cp]
 bb:Blk W (w.heap.size+1) 27 #[.int .u8 b.k,.int .i64 b.n,.int .i64 b.v,.int .u8 b.c,.slice A' m' cp']
 ta:TysV W W.heap.size A m cp a.l
 tb:TysV W W.heap.size A' m' cp' b.l
 row:TysV W W.heap.size (some ⟨w.heap.size+1+1,0,none⟩) 2 2 [a,b]
theorem allV_le (t:TyD):(allV t).length≤nodes t:=by
 induction t using ty_ind with
 | h t ih=>
   have key:∀ l:List TyD,(∀ x∈l,x∈t.l)→(l.flatMap allV).length≤nodes.nodesL l:=by
    intro l
    induction l with
    | nil=>intro _; simp
    | cons x l ihl=>
      intro hl;rw[List.flatMap_cons,List.length_append,nodes.nodesL];have h1:=ih x (hl x (by simp));have h2:=ihl (fun y hy=>hl y (List.mem_cons_of_mem _ hy));omega
   rw[allV_eq,nodes_eq,List.length_append];have:=key t.l (fun _ h=>h)
   by_cases hk:t.k=1
   · rw[if_pos hk]; simp only[List.length_cons,List.length_nil]; omega
   · rw[if_neg hk]; simp only[List.length_nil]; omega
theorem allM_le (t:TyD):(allM t).length≤nodes t:=by
 induction t using ty_ind with
 | h t ih=>
   have key:∀ (l:List TyD) (i:Nat),(∀ x∈l,x∈t.l)→(allM.go (decide (t.k=7)&&decide (t.c=0)) t.v i l).length≤(if i≤1 then 1 else 0)+nodes.nodesL l:=by
    intro l
    induction l with
    | nil=>intro i _; rw[allM.go]; simp
    | cons x l ihl=>
      intro i hl;rw[allM.go,List.length_append,List.length_append,nodes.nodesL];have h1:=ih x (hl x (by simp));have h2:=ihl (i+1) (fun y hy=>hl y (List.mem_cons_of_mem _ hy))
      by_cases hi:i=1
      · subst hi
        rw[if_neg (by omega)] at h2;rw[if_pos (by omega:1≤1)]
        split
        · simp only[List.length_cons,List.length_nil]; omega
        · simp only[List.length_nil]; omega
      · rw[decide_eq_false hi,Bool.and_false,if_neg (by decide)]
        simp only[List.length_nil]
        split
        · rename_i h3
          rw[if_pos (by omega)] at h2;omega
        · rename_i h3
          rw[if_neg (by omega)] at h2;omega
   rw[allM_eq,nodes_eq];have:=key t.l 0 (fun _ h=>h)
   simpa using this
section
variable {s:Nat} {l1 l2:List Int} {w w' w'':World}
end
theorem flatV_le (l:List TyD):(l.flatMap allV).length≤nodes.nodesL l:=by
 induction l with
 | nil=>simp
 | cons x l ih=>rw[List.flatMap_cons,List.length_append,nodes.nodesL]; have:=allV_le x; omega
theorem flatM_le (f:Bool) (v:Int) (l:List TyD):(allM.go f v 0 l).length≤1+nodes.nodesL l:=by
 have h:=allM_le (.mk (if f then 7 else 0) 0 v 0 l);rw[allM_eq,nodes_eq] at h
 have e:(decide ((TyD.mk (if f then 7 else 0) 0 v 0 l).k=7)&&decide ((TyD.mk (if f then 7 else 0) 0 v 0 l).c=0))=f:=by cases f <;> rfl
 rw[e] at h;exact h
theorem flatM_le1 (f:Bool) (v:Int) (l:List TyD) (h:l.length≤1):(allM.go f v 0 l).length≤nodes.nodesL l:=by
 match l,h with
 | [],_=>simp[allM.go]
 | [x],_=>
   have:=allM_le x;simp[allM.go,nodes.nodesL];omega
section
variable {w w':World} {g:Nat} {t:TyD} {A:Option Addr} {m cp n c:Nat} {l:List Int}
end
structure One (a:TyD) (A:Option Addr) (m cp:Nat) (w W:World):Prop where
 eq:((w.alloc (Obj.cells #[.int .u8 a.k,.int .i64 a.n,.int .i64 a.v,.int .u8 a.c,.slice A m cp] 27)).alloc (Obj.cells #[.int .u8 a.k,.int .i64 a.n,.int .i64 a.v,.int .u8 a.c,.slice A m cp] 27))=W
 bel:Below w.heap.size w W
 size:W.heap.size=w.heap.size+1+1
 bt:BT W w.heap.size a A m cp
 row:TysV W W.heap.size (some ⟨w.heap.size+1,0,none⟩) 1 1 [a]
end Go.Proofs.YtdmakpmbknindaaGreatDoor
