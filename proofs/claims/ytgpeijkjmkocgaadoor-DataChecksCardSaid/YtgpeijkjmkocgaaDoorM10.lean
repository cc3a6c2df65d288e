import Derived.Test.YtgpeijkjmkocgaaDoorM9
set_option linter.unusedVariables false
set_option linter.unusedSimpArgs false
set_option maxHeartbeats 2000000
set_option maxRecDepth 100000
namespace Go.Proofs.YtgpeijkjmkocgaaDoor
open Go.RowKit
theorem below_drewN {B:Nat} {w:World} (k:Nat):Below B w (w.drewN k):=⟨rfl,rfl,rfl,Nat.le_refl _,fun _ _=>rfl⟩
theorem put_arr {w0:World} {b:Nat} {nm:Value} {ws:List ByteArray} (n v c:Int) (L:List TyD) (A:Option Addr) (m cp:Nat) (hl:TysV w0 w0.heap.size A m cp L)
  (hp:∀ x∈L,∀ A m cp,TysV w0 w0.heap.size A m cp x.l→PutAt w0 b nm ws x A m cp):PutAt w0 b nm ws (.mk 6 n v c L) A m cp:=by
 intro w l hbel hw hlen;show Calls Tryd.prog 41 #[.pointer (some ⟨b,0,none⟩),.agg #[.int .u8 6,.int .i64 n,.int .i64 v,.int .u8 c,.slice A m cp]] w _;have hbx:=below_box (w:=w) (Obj.cells #[.int .u8 6,.int .i64 n,.int .i64 v,.int .u8 c,.slice A m cp] 63);have hz:=blk_new w #[.int .u8 6,.int .i64 n,.int .i64 v,.int .u8 c,.slice A m cp] 63;have hw1:=hw.alloc (Obj.cells #[.int .u8 6,.int .i64 n,.int .i64 v,.int .u8 c,.slice A m cp] 63)
 have hne:some w.heap.size≠some b:=by have:=hw.lt; simp; omega
 have hzl:=hz.lt;obtain⟨W,hW⟩:∃ W,w.alloc (Obj.cells #[.int .u8 6,.int .i64 n,.int .i64 v,.int .u8 c,.slice A m cp] 63)=W:=⟨_,rfl⟩;rw[hW] at hbx hz hw1 hzl;have hbel1:=hbel.trans (hbx.mono hbel.size);have HW:=qq hW;have Hw1:=qq hw1;have Hbx:=qq hbx;have Hz:=qq hz;have Hlen:=qq hlen;have hB:=hbel.size;have hB1:=hbel1.size;have Hb1:=qq hbel1;clear hW hw1 hbx hbel1 hbel hw hlen;obtain⟨H,hH⟩:∃ H,txHead ws 6 n=H:=⟨_,rfl⟩
 have htx:txB ws (.mk 6 n v c L)=H++txB.dataL ws L:=by
  rw[txB_eq,← hH]; rfl
 rw[htx] at Hlen ⊢;have hlm:=hl.len;have m63:m≤9223372036854775807:=Nat.le_trans hl.2.1 hl.2.2.1;have HL:=qq hl;have Hp:=qq hp
 have hHl:l.length+H.length≤140737488355328:=by have h:=Hlen.out; rw[List.length_append] at h; omega
 have HH:=qq hH;clear hl hp htx hH;have hbs:(⟨#[65,114,114]⟩:ByteArray).data.toList=H:=HH.out
 have hwS:=wrS ⟨#[65,114,114]⟩ Hw1.out (by rw[hbs]; exact hHl) hB1
 rw[hbs] at hwS;have HwS:=qq hwS;have z0:=Hz.out.cell 0;clear hwS hbs
 go_enter Tryd.func41,Tryd.ntmps41
 go_wp2_with fail;rw[HW.out];go_wp2_with fail;refine HwS.out.mono ?_;rintro e w4 ⟨rfl,hq⟩;have Hq0:=qq hq;clear hq z0 HwS;have hzr:=Hz.out.others Hq0.out.2.2 hne (by decide);have z4:=hzr.cell 4;clear hzr;go_wp2_with fail;clear z4
 go_loopg [51] m (fun g i wr=>∃ k:Nat,k≤m∧g=m - k∧i=.int .i64 k∧WrOut w0.heap.size b nm (Lib.byteCells (l++(H++txB.dataL ws (L.take k)))) W wr)
 case atStart=>exact⟨0,Nat.zero_le _,rfl,rfl,by rw[List.take_zero,show txB.dataL ws []=[] from by rw[txB.dataL],List.append_nil]; exact Hq0.out⟩
 case round=>
  obtain⟨k,hk,rfl,rfl,hq⟩:=hrel
  by_cases hkm:k<m
  · have d0:decide (k<m)=true:=by simpa using hkm
    have hk':k<L.length:=by rw[hlm]; exact hkm
    have hbw:=Hb1.out.trans hq.2.1;obtain⟨bb,off,rfl,hbb,hc⟩:=HL.out.at_ (by omega);obtain⟨e0',e1',e2',e3',Ax,mx,cx,e4',hx⟩:=tyAt_iff.1 (hc k hk');have hcW:∀ j,wr.cell? ⟨bb,j,none⟩=w0.cell? ⟨bb,j,none⟩:=fun j=>hbw.cell (p:=⟨bb,j,none⟩) hbb;have e0:=(hcW _).trans e0';have e1:=(hcW _).trans e1';have e2:=(hcW _).trans e2';have e3:=(hcW _).trans e3';have e4:=(hcW _).trans e4';have hst:=dataL_step ws L k hk';have hple:=dataL_le ws L (k+1);have hpx:=Hp.out L[k] (List.getElem_mem hk') Ax mx cx hx;have hlx:=hx.len;obtain⟨x,hxk⟩:∃ x,L[k]=x:=⟨_,rfl⟩;rw[hxk] at e0 e1 e2 e3 hx hst hpx hlx;rw[hst] at hple;obtain⟨S,hS⟩:∃ S,txB.dataL ws (L.take k)=S:=⟨_,rfl⟩;rw[hS] at hst hple hq;have hbA:=below_box (w:=wr) (Obj.cells #[.int .u8 x.k,.int .i64 x.n,.int .i64 x.v,.int .u8 x.c,.slice Ax mx cx] 63);have hnb:=blk_new wr #[.int .u8 x.k,.int .i64 x.n,.int .i64 x.v,.int .u8 x.c,.slice Ax mx cx] 63
    have hne2:some wr.heap.size≠some b:=by have:=hq.is.lt; simp; omega
    have hl1:=Hlen.out;rw[List.length_append] at hl1
    have h32:=wrB (32:UInt8) (hq.is.below hbA) (by simp only[List.length_append,List.length_cons] at hple hl1 ⊢; omega) (Nat.le_trans hbw.size hbA.size)
    have k1:(0:Int)≤(k:Int):=by omega
    have k2:(k:Int)<m:=by omega
    have htin:txIn x=(x.k==7 || (decide (x.k≥6)&&decide (0<mx))):=by
     unfold txIn;rw[hlx]
    obtain⟨r7,hr7⟩:∃ r,(x.k==7)=r:=⟨_,rfl⟩;obtain⟨r6,hr6⟩:∃ r,decide (x.k≥6)=r:=⟨_,rfl⟩;rw[hr7,hr6] at htin;have H32:=qq h32;have HbA:=qq hbA;have Hbw:=qq hbw;have Hnb:=qq hnb;have Hne2:=qq hne2;have Hpx:=qq hpx;have Hq:=qq hq;have Hst:=qq hst;clear e0' e1' e2' e3' e4' hcW hc hbA hx hbw hnb hne2 hq h32 hpx hst hxk hS;go_wp2_with fail;refine H32.out.mono ?_;rintro e w5 ⟨rfl,h5⟩;have hn5:=Hnb.out.others h5.2.2 Hne2.out (by decide);have y0:=hn5.cell 0;have y1:=hn5.cell 1;have y2:=hn5.cell 2;have y3:=hn5.cell 3;have y4:=hn5.cell 4;have h6:=h5.behind HbA.out Hbw.out.size;have H6:=qq h6;clear h5 h6 hn5 H32 e0 e1 e2 e3 e4
    cases r7 with
    | true=>
      have HIn:Hid (txIn x=true):=qq htin;clear htin
      have hin:=in_any Hpx.out true w5 (l++(H++S)++[32]) (Hbw.out.trans H6.out.2.1) H6.out.is (by simp only[List.length_append,List.length_cons,List.length_nil] at hple ⊢; rw[HIn.out] at hple; omega)
      have Hin:=qq hin;clear hin;go_wp2_with fail;refine Hin.out.mono ?_;rintro e w7 ⟨rfl,h7⟩;have H7:=qq h7;clear h7;go_wp2_with fail;go_roundg (m - (k+1))
      case measure=>omega
      case rel=>
       refine⟨k+1,by omega,rfl,by go_num,?_⟩
       have h8:=Hq.out.trans (H6.out.trans H7.out);rw[Hst.out,HIn.out]
       have e9:l++(H++S)++[32]++txPar true (txB ws x)=l++(H++(S++32 :: txPar true (txB ws x))):=by simp
       rw[e9] at h8;exact h8
    | false=>
      cases r6 with
      | false=>
        have HIn:Hid (txIn x=false):=qq htin;clear htin
        have hin:=in_any Hpx.out false w5 (l++(H++S)++[32]) (Hbw.out.trans H6.out.2.1) H6.out.is (by simp only[List.length_append,List.length_cons,List.length_nil] at hple ⊢; rw[HIn.out] at hple; omega)
        have Hin:=qq hin;clear hin;go_wp2_with fail;refine Hin.out.mono ?_;rintro e w7 ⟨rfl,h7⟩;have H7:=qq h7;clear h7;go_wp2_with fail;go_roundg (m - (k+1))
        case measure=>omega
        case rel=>
         refine⟨k+1,by omega,rfl,by go_num,?_⟩
         have h8:=Hq.out.trans (H6.out.trans H7.out);rw[Hst.out,HIn.out]
         have e9:l++(H++S)++[32]++txPar false (txB ws x)=l++(H++(S++32 :: txPar false (txB ws x))):=by simp
         rw[e9] at h8;exact h8
      | true=>
        have HIn:Hid (txIn x=decide (0<mx)):=qq htin;clear htin
        have hin:=in_any Hpx.out (decide (0<mx)) w5 (l++(H++S)++[32]) (Hbw.out.trans H6.out.2.1) H6.out.is (by simp only[List.length_append,List.length_cons,List.length_nil] at hple ⊢; rw[HIn.out] at hple; omega)
        have Hin:=qq hin;clear hin;go_wp2_with fail;refine Hin.out.mono ?_;rintro e w7 ⟨rfl,h7⟩;have H7:=qq h7;clear h7;go_wp2_with fail;go_roundg (m - (k+1))
        case measure=>omega
        case rel=>
         refine⟨k+1,by omega,rfl,by go_num,?_⟩
         have h8:=Hq.out.trans (H6.out.trans H7.out);rw[Hst.out,HIn.out]
         have e9:l++(H++S)++[32]++txPar (decide (0<mx)) (txB ws x)=l++(H++(S++32 :: txPar (decide (0<mx)) (txB ws x))):=by simp
         rw[e9] at h8;exact h8
  · have d0:decide (k<m)=false:=by simpa using hkm
    have hall:L.take k=L:=List.take_of_length_le (by omega);rw[hall] at hq;have Hq:=qq hq;clear hq;go_wp2_with fail
    go_end0
    exact⟨rfl,Hq.out.behind Hbx.out hB⟩
theorem put_num {w0:World} {b:Nat} {nm:Value} {ws:List ByteArray} (n v c:Int) (L:List TyD) (A:Option Addr) (m cp:Nat) (An:Option Addr) (nn cn:Nat) (ht:Tab w0) (h0:0≤n) (h1:n<1048576) (hnm:nm=.slice An nn cn) (hnn:NmV w0 w0.heap.size An nn cn ws) (hbig:¬ n<nn) (hl:TysV w0 w0.heap.size A m cp L)
  (hp:∀ x∈L,∀ A m cp,TysV w0 w0.heap.size A m cp x.l→PutAt w0 b nm ws x A m cp):PutAt w0 b nm ws (.mk 8 n v c L) A m cp:=by
 intro w l hbel hw hlen;show Calls Tryd.prog 41 #[.pointer (some ⟨b,0,none⟩),.agg #[.int .u8 8,.int .i64 n,.int .i64 v,.int .u8 c,.slice A m cp]] w _;have hbx:=below_box (w:=w) (Obj.cells #[.int .u8 8,.int .i64 n,.int .i64 v,.int .u8 c,.slice A m cp] 63);have hz:=blk_new w #[.int .u8 8,.int .i64 n,.int .i64 v,.int .u8 c,.slice A m cp] 63;have hw1:=hw.alloc (Obj.cells #[.int .u8 8,.int .i64 n,.int .i64 v,.int .u8 c,.slice A m cp] 63)
 have hne:some w.heap.size≠some b:=by have:=hw.lt; simp; omega
 have hzl:=hz.lt;obtain⟨W,hW⟩:∃ W,w.alloc (Obj.cells #[.int .u8 8,.int .i64 n,.int .i64 v,.int .u8 c,.slice A m cp] 63)=W:=⟨_,rfl⟩;rw[hW] at hbx hz hw1 hzl;have hbel1:=hbel.trans (hbx.mono hbel.size);have HW:=qq hW;have Hw1:=qq hw1;have Hbx:=qq hbx;have Hz:=qq hz;have Hlen:=qq hlen;have hB:=hbel.size;have hB1:=hbel1.size;have Hb1:=qq hbel1;clear hW hw1 hbx hbel1 hbel hw hlen;obtain⟨H,hH⟩:∃ H,txHead ws 8 n=H:=⟨_,rfl⟩
 have htx:txB ws (.mk 8 n v c L)=H++txB.dataL ws L:=by
  rw[txB_eq,← hH]; rfl
 rw[htx] at Hlen ⊢;have hlm:=hl.len;have m63:m≤9223372036854775807:=Nat.le_trans hl.2.1 hl.2.2.1;have HL:=qq hl;have Hp:=qq hp
 have hHl:l.length+H.length≤140737488355328:=by have h:=Hlen.out; rw[List.length_append] at h; omega
 have HH:=qq hH;clear hl hp htx hH;have hnl:(numT n).size≤21:=numT_size _ (by omega) (by omega)
 have hbs:((⟨#[35]⟩:ByteArray)++numT n).data.toList=H:=by
  rw[← HH.out];unfold txHead
  rw[if_neg (by decide),if_neg (by rw[hnn.len]; exact hbig)]
  simp[numT]
 have hn63:nn≤9223372036854775807:=Nat.le_trans hnn.2.1 hnn.2.2;have hi:=itoa_any n (by omega) (by omega) W (ht.below Hb1.out);have Hi:=qq hi
 have d0:decide (n≥0)=true:=by simpa using h0
 have d1:decide (n<nn)=false:=by simpa using hbig
 have z0:=Hz.out.cell 0;have z1:=Hz.out.cell 1;have Hbs:=qq hbs;have Hnm:=qq hnm;clear hi hbs hnn ht hnm hbig
 go_enter Tryd.func41,Tryd.ntmps41
 go_wp2_with fail;rw[HW.out];go_wp2_with fail;refine Hi.out.mono ?_;rintro e w1 ⟨rfl,hb1⟩;have hz1:=Hz.out.below hb1 Hz.out.lt;have hw9:=Hw1.out.below hb1;have c2:=hw9.cell2;rw[Hnm.out] at c2;have z1:=hz1.cell 1;go_wp2_with fail
 go_quiet (fail)
 have hwS:=wrS (w:=w1.drewN nq) ((⟨#[35]⟩:ByteArray)++numT n) hw9 (by rw[Hbs.out]; exact hHl) (Nat.le_trans hB1 hb1.size)
 rw[Hbs.out] at hwS;have HwS:=qq hwS;clear hwS;go_wp2_with fail;refine HwS.out.mono ?_;rintro e w4 ⟨rfl,hq⟩;have hq9:WrOut w0.heap.size b nm (Lib.byteCells (l++H)) W w4:=hq.behind (w1:=w1.drewN nq) (hb1.trans (below_drewN nq)) hB1;have Hq0:=qq hq9;clear hq hq9 z0 z1 HwS hz1 hw9 c2 hb1;have hzr:=Hz.out.others Hq0.out.2.2 hne (by decide);have z4:=hzr.cell 4;clear hzr;go_wp2_with fail;clear z4
 go_loopg [51] m (fun g i wr=>∃ k:Nat,k≤m∧g=m - k∧i=.int .i64 k∧WrOut w0.heap.size b nm (Lib.byteCells (l++(H++txB.dataL ws (L.take k)))) W wr)
 case atStart=>exact⟨0,Nat.zero_le _,rfl,rfl,by rw[List.take_zero,show txB.dataL ws []=[] from by rw[txB.dataL],List.append_nil]; exact Hq0.out⟩
 case round=>
  obtain⟨k,hk,rfl,rfl,hq⟩:=hrel
  by_cases hkm:k<m
  · have d0:decide (k<m)=true:=by simpa using hkm
    have hk':k<L.length:=by rw[hlm]; exact hkm
    have hbw:=Hb1.out.trans hq.2.1;obtain⟨bb,off,rfl,hbb,hc⟩:=HL.out.at_ (by omega);obtain⟨e0',e1',e2',e3',Ax,mx,cx,e4',hx⟩:=tyAt_iff.1 (hc k hk');have hcW:∀ j,wr.cell? ⟨bb,j,none⟩=w0.cell? ⟨bb,j,none⟩:=fun j=>hbw.cell (p:=⟨bb,j,none⟩) hbb;have e0:=(hcW _).trans e0';have e1:=(hcW _).trans e1';have e2:=(hcW _).trans e2';have e3:=(hcW _).trans e3';have e4:=(hcW _).trans e4';have hst:=dataL_step ws L k hk';have hple:=dataL_le ws L (k+1);have hpx:=Hp.out L[k] (List.getElem_mem hk') Ax mx cx hx;have hlx:=hx.len;obtain⟨x,hxk⟩:∃ x,L[k]=x:=⟨_,rfl⟩;rw[hxk] at e0 e1 e2 e3 hx hst hpx hlx;rw[hst] at hple;obtain⟨S,hS⟩:∃ S,txB.dataL ws (L.take k)=S:=⟨_,rfl⟩;rw[hS] at hst hple hq;have hbA:=below_box (w:=wr) (Obj.cells #[.int .u8 x.k,.int .i64 x.n,.int .i64 x.v,.int .u8 x.c,.slice Ax mx cx] 63);have hnb:=blk_new wr #[.int .u8 x.k,.int .i64 x.n,.int .i64 x.v,.int .u8 x.c,.slice Ax mx cx] 63
    have hne2:some wr.heap.size≠some b:=by have:=hq.is.lt; simp; omega
    have hl1:=Hlen.out;rw[List.length_append] at hl1
    have h32:=wrB (32:UInt8) (hq.is.below hbA) (by simp only[List.length_append,List.length_cons] at hple hl1 ⊢; omega) (Nat.le_trans hbw.size hbA.size)
    have k1:(0:Int)≤(k:Int):=by omega
    have k2:(k:Int)<m:=by omega
    have htin:txIn x=(x.k==7 || (decide (x.k≥6)&&decide (0<mx))):=by
     unfold txIn;rw[hlx]
    obtain⟨r7,hr7⟩:∃ r,(x.k==7)=r:=⟨_,rfl⟩;obtain⟨r6,hr6⟩:∃ r,decide (x.k≥6)=r:=⟨_,rfl⟩;rw[hr7,hr6] at htin;have H32:=qq h32;have HbA:=qq hbA;have Hbw:=qq hbw;have Hnb:=qq hnb;have Hne2:=qq hne2;have Hpx:=qq hpx;have Hq:=qq hq;have Hst:=qq hst;clear e0' e1' e2' e3' e4' hcW hc hbA hx hbw hnb hne2 hq h32 hpx hst hxk hS;go_wp2_with fail;refine H32.out.mono ?_;rintro e w5 ⟨rfl,h5⟩;have hn5:=Hnb.out.others h5.2.2 Hne2.out (by decide);have y0:=hn5.cell 0;have y1:=hn5.cell 1;have y2:=hn5.cell 2;have y3:=hn5.cell 3;have y4:=hn5.cell 4;have h6:=h5.behind HbA.out Hbw.out.size;have H6:=qq h6;clear h5 h6 hn5 H32 e0 e1 e2 e3 e4
    cases r7 with
    | true=>
      have HIn:Hid (txIn x=true):=qq htin;clear htin
      have hin:=in_any Hpx.out true w5 (l++(H++S)++[32]) (Hbw.out.trans H6.out.2.1) H6.out.is (by simp only[List.length_append,List.length_cons,List.length_nil] at hple ⊢; rw[HIn.out] at hple; omega)
      have Hin:=qq hin;clear hin;go_wp2_with fail;refine Hin.out.mono ?_;rintro e w7 ⟨rfl,h7⟩;have H7:=qq h7;clear h7;go_wp2_with fail;go_roundg (m - (k+1))
      case measure=>omega
      case rel=>
       refine⟨k+1,by omega,rfl,by go_num,?_⟩
       have h8:=Hq.out.trans (H6.out.trans H7.out);rw[Hst.out,HIn.out]
       have e9:l++(H++S)++[32]++txPar true (txB ws x)=l++(H++(S++32 :: txPar true (txB ws x))):=by simp
       rw[e9] at h8;exact h8
    | false=>
      cases r6 with
      | false=>
        have HIn:Hid (txIn x=false):=qq htin;clear htin
        have hin:=in_any Hpx.out false w5 (l++(H++S)++[32]) (Hbw.out.trans H6.out.2.1) H6.out.is (by simp only[List.length_append,List.length_cons,List.length_nil] at hple ⊢; rw[HIn.out] at hple; omega)
        have Hin:=qq hin;clear hin;go_wp2_with fail;refine Hin.out.mono ?_;rintro e w7 ⟨rfl,h7⟩;have H7:=qq h7;clear h7;go_wp2_with fail;go_roundg (m - (k+1))
        case measure=>omega
        case rel=>
         refine⟨k+1,by omega,rfl,by go_num,?_⟩
         have h8:=Hq.out.trans (H6.out.trans H7.out);rw[Hst.out,HIn.out]
         have e9:l++(H++S)++[32]++txPar false (txB ws x)=l++(H++(S++32 :: txPar false (txB ws x))):=by simp
         rw[e9] at h8;exact h8
      | true=>
        have HIn:Hid (txIn x=decide (0<mx)):=qq htin;clear htin
        have hin:=in_any Hpx.out (decide (0<mx)) w5 (l++(H++S)++[32]) (Hbw.out.trans H6.out.2.1) H6.out.is (by simp only[List.length_append,List.length_cons,List.length_nil] at hple ⊢; rw[HIn.out] at hple; omega)
        have Hin:=qq hin;clear hin;go_wp2_with fail;refine Hin.out.mono ?_;rintro e w7 ⟨rfl,h7⟩;have H7:=qq h7;clear h7;go_wp2_with fail;go_roundg (m - (k+1))
        case measure=>omega
        case rel=>
         refine⟨k+1,by omega,rfl,by go_num,?_⟩
         have h8:=Hq.out.trans (H6.out.trans H7.out);rw[Hst.out,HIn.out]
         have e9:l++(H++S)++[32]++txPar (decide (0<mx)) (txB ws x)=l++(H++(S++32 :: txPar (decide (0<mx)) (txB ws x))):=by simp
         rw[e9] at h8;exact h8
  · have d0:decide (k<m)=false:=by simpa using hkm
    have hall:L.take k=L:=List.take_of_length_le (by omega);rw[hall] at hq;have Hq:=qq hq;clear hq;go_wp2_with fail
    go_end0
    exact⟨rfl,Hq.out.behind Hbx.out hB⟩
theorem getD_at {ws:List ByteArray} {k:Nat} (h:k<ws.length):txHead ws 8 (k:Int)=(ws.getD k ByteArray.empty).data.toList:=by
 unfold txHead;rw[if_neg (by decide),if_pos (by omega)];rfl
theorem put_name {w0:World} {b:Nat} {nm:Value} {ws:List ByteArray} (nk:Nat) (v c:Int) (L:List TyD) (A:Option Addr) (m cp:Nat) (An:Option Addr) (nn cn:Nat) (ht:Tab w0) (h1:(nk:Int)<1048576) (hnm:nm=.slice An nn cn) (hnn:NmV w0 w0.heap.size An nn cn ws) (hbig:nk<nn) (hl:TysV w0 w0.heap.size A m cp L)
  (hp:∀ x∈L,∀ A m cp,TysV w0 w0.heap.size A m cp x.l→PutAt w0 b nm ws x A m cp):PutAt w0 b nm ws (.mk 8 nk v c L) A m cp:=by
 obtain⟨n,hn⟩:∃ n:Int,(nk:Int)=n:=⟨_,rfl⟩;rw[hn];intro w l hbel hw hlen;show Calls Tryd.prog 41 #[.pointer (some ⟨b,0,none⟩),.agg #[.int .u8 8,.int .i64 n,.int .i64 v,.int .u8 c,.slice A m cp]] w _;have hbx:=below_box (w:=w) (Obj.cells #[.int .u8 8,.int .i64 n,.int .i64 v,.int .u8 c,.slice A m cp] 63);have hz:=blk_new w #[.int .u8 8,.int .i64 n,.int .i64 v,.int .u8 c,.slice A m cp] 63;have hw1:=hw.alloc (Obj.cells #[.int .u8 8,.int .i64 n,.int .i64 v,.int .u8 c,.slice A m cp] 63)
 have hne:some w.heap.size≠some b:=by have:=hw.lt; simp; omega
 have hzl:=hz.lt;obtain⟨W,hW⟩:∃ W,w.alloc (Obj.cells #[.int .u8 8,.int .i64 n,.int .i64 v,.int .u8 c,.slice A m cp] 63)=W:=⟨_,rfl⟩;rw[hW] at hbx hz hw1 hzl;have hbel1:=hbel.trans (hbx.mono hbel.size);have HW:=qq hW;have Hw1:=qq hw1;have Hbx:=qq hbx;have Hz:=qq hz;have Hlen:=qq hlen;have hB:=hbel.size;have hB1:=hbel1.size;have Hb1:=qq hbel1;clear hW hw1 hbx hbel1 hbel hw hlen;obtain⟨H,hH⟩:∃ H,txHead ws 8 n=H:=⟨_,rfl⟩
 have htx:txB ws (.mk 8 n v c L)=H++txB.dataL ws L:=by
  rw[txB_eq,← hH]; rfl
 rw[htx] at Hlen ⊢;have hlm:=hl.len;have m63:m≤9223372036854775807:=Nat.le_trans hl.2.1 hl.2.2.1;have HL:=qq hl;have Hp:=qq hp
 have hHl:l.length+H.length≤140737488355328:=by have h:=Hlen.out; rw[List.length_append] at h; omega
 have HH:=qq hH;clear hl hp htx hH;subst hn;have hnl:(numT nk).size≤21:=numT_size _ (by omega) (by omega)
 have hbs:(ws.getD nk ByteArray.empty).data.toList=H:=by
  rw[← HH.out,getD_at (by rw[hnn.len]; exact hbig)]
 have hn63:nn≤9223372036854775807:=Nat.le_trans hnn.2.1 hnn.2.2;have hi:=itoa_any nk (by omega) (by omega) W (ht.below Hb1.out);have Hi:=qq hi
 have d0:decide ((nk:Int)≥0)=true:=by simp
 have d1:decide (nk<nn)=true:=by simpa using hbig
 have k1:(0:Int)≤nk:=by omega
 have k2:(nk:Int)<nn:=by omega
 have z0:=Hz.out.cell 0;have z1:=Hz.out.cell 1;have Hbs:=qq hbs;have Hnm:=qq hnm;have Hnn:=qq hnn
 have hlt:nk<ws.length:=by rw[hnn.len]; exact hbig
 obtain⟨bn,offn,rfl,hcn⟩:=(hnn.below Hb1.out).cells (by omega);clear hi hbs hnn ht hnm hbig hcn
 go_enter Tryd.func41,Tryd.ntmps41
 go_wp2_with fail;rw[HW.out];go_wp2_with fail;refine Hi.out.mono ?_;rintro e w1 ⟨rfl,hb1⟩;have hz1:=Hz.out.below hb1 Hz.out.lt;have hw9:=Hw1.out.below hb1;have c2:=hw9.cell2;rw[Hnm.out] at c2;have z1:=hz1.cell 1;obtain⟨bn',offn',ee,hcn⟩:=(Hnn.out.below (Hb1.out.trans (hb1.mono hB1))).cells (by omega)
 injection ee with ee
 injection ee with ee1 ee2
 subst ee1; subst ee2
 have x0:=hcn nk hlt;obtain⟨N,hN⟩:∃ N,ws.getD nk ByteArray.empty=N:=⟨_,rfl⟩;rw[hN] at x0 Hbs;clear hcn hN;go_wp2_with fail
 go_quiet (fail)
 go_wp2_with fail
 go_quiet (fail)
 go_wp2_with fail;refine(wrS (B:=w0.heap.size) (b:=b) (nm:=nm) (l:=l) N ?h1 ?h2 ?h3).mono ?_
 case h1=>exact hw9
 case h2=>rw[Hbs.out]; exact hHl
 case h3=>exact Nat.le_trans hB1 hb1.size
 rintro e w4 ⟨rfl,hq⟩;rw[Hbs.out] at hq;have hq9:WrOut w0.heap.size b nm (Lib.byteCells (l++H)) W w4:=hq.behind (hb1.trans (below_drewN _)) hB1;have Hq0:=qq hq9;clear hq hq9 z0 z1 hz1 hw9 c2 hb1;have hzr:=Hz.out.others Hq0.out.2.2 hne (by decide);have z4:=hzr.cell 4;clear hzr;go_wp2_with fail;clear z4
 go_loopg [51] m (fun g i wr=>∃ k:Nat,k≤m∧g=m - k∧i=.int .i64 k∧WrOut w0.heap.size b nm (Lib.byteCells (l++(H++txB.dataL ws (L.take k)))) W wr)
 case atStart=>exact⟨0,Nat.zero_le _,rfl,rfl,by rw[List.take_zero,show txB.dataL ws []=[] from by rw[txB.dataL],List.append_nil]; exact Hq0.out⟩
 case round=>
  obtain⟨k,hk,rfl,rfl,hq⟩:=hrel
  by_cases hkm:k<m
  · have d0:decide (k<m)=true:=by simpa using hkm
    have hk':k<L.length:=by rw[hlm]; exact hkm
    have hbw:=Hb1.out.trans hq.2.1;obtain⟨bb,off,rfl,hbb,hc⟩:=HL.out.at_ (by omega);obtain⟨e0',e1',e2',e3',Ax,mx,cx,e4',hx⟩:=tyAt_iff.1 (hc k hk');have hcW:∀ j,wr.cell? ⟨bb,j,none⟩=w0.cell? ⟨bb,j,none⟩:=fun j=>hbw.cell (p:=⟨bb,j,none⟩) hbb;have e0:=(hcW _).trans e0';have e1:=(hcW _).trans e1';have e2:=(hcW _).trans e2';have e3:=(hcW _).trans e3';have e4:=(hcW _).trans e4';have hst:=dataL_step ws L k hk';have hple:=dataL_le ws L (k+1);have hpx:=Hp.out L[k] (List.getElem_mem hk') Ax mx cx hx;have hlx:=hx.len;obtain⟨x,hxk⟩:∃ x,L[k]=x:=⟨_,rfl⟩;rw[hxk] at e0 e1 e2 e3 hx hst hpx hlx;rw[hst] at hple;obtain⟨S,hS⟩:∃ S,txB.dataL ws (L.take k)=S:=⟨_,rfl⟩;rw[hS] at hst hple hq;have hbA:=below_box (w:=wr) (Obj.cells #[.int .u8 x.k,.int .i64 x.n,.int .i64 x.v,.int .u8 x.c,.slice Ax mx cx] 63);have hnb:=blk_new wr #[.int .u8 x.k,.int .i64 x.n,.int .i64 x.v,.int .u8 x.c,.slice Ax mx cx] 63
    have hne2:some wr.heap.size≠some b:=by have:=hq.is.lt; simp; omega
    have hl1:=Hlen.out;rw[List.length_append] at hl1
    have h32:=wrB (32:UInt8) (hq.is.below hbA) (by simp only[List.length_append,List.length_cons] at hple hl1 ⊢; omega) (Nat.le_trans hbw.size hbA.size)
    have k1:(0:Int)≤(k:Int):=by omega
    have k2:(k:Int)<m:=by omega
    have htin:txIn x=(x.k==7 || (decide (x.k≥6)&&decide (0<mx))):=by
     unfold txIn;rw[hlx]
    obtain⟨r7,hr7⟩:∃ r,(x.k==7)=r:=⟨_,rfl⟩;obtain⟨r6,hr6⟩:∃ r,decide (x.k≥6)=r:=⟨_,rfl⟩;rw[hr7,hr6] at htin;have H32:=qq h32;have HbA:=qq hbA;have Hbw:=qq hbw;have Hnb:=qq hnb;have Hne2:=qq hne2;have Hpx:=qq hpx;have Hq:=qq hq;have Hst:=qq hst;clear e0' e1' e2' e3' e4' hcW hc hbA hx hbw hnb hne2 hq h32 hpx hst hxk hS;go_wp2_with fail;refine H32.out.mono ?_;rintro e w5 ⟨rfl,h5⟩;have hn5:=Hnb.out.others h5.2.2 Hne2.out (by decide);have y0:=hn5.cell 0;have y1:=hn5.cell 1;have y2:=hn5.cell 2;have y3:=hn5.cell 3;have y4:=hn5.cell 4;have h6:=h5.behind HbA.out Hbw.out.size;have H6:=qq h6;clear h5 h6 hn5 H32 e0 e1 e2 e3 e4
    cases r7 with
    | true=>
      have HIn:Hid (txIn x=true):=qq htin;clear htin
      have hin:=in_any Hpx.out true w5 (l++(H++S)++[32]) (Hbw.out.trans H6.out.2.1) H6.out.is (by simp only[List.length_append,List.length_cons,List.length_nil] at hple ⊢; rw[HIn.out] at hple; omega)
      have Hin:=qq hin;clear hin;go_wp2_with fail;refine Hin.out.mono ?_;rintro e w7 ⟨rfl,h7⟩;have H7:=qq h7;clear h7;go_wp2_with fail;go_roundg (m - (k+1))
      case measure=>omega
      case rel=>
       refine⟨k+1,by omega,rfl,by go_num,?_⟩
       have h8:=Hq.out.trans (H6.out.trans H7.out);rw[Hst.out,HIn.out]
       have e9:l++(H++S)++[32]++txPar true (txB ws x)=l++(H++(S++32 :: txPar true (txB ws x))):=by simp
       rw[e9] at h8;exact h8
    | false=>
      cases r6 with
      | false=>
        have HIn:Hid (txIn x=false):=qq htin;clear htin
        have hin:=in_any Hpx.out false w5 (l++(H++S)++[32]) (Hbw.out.trans H6.out.2.1) H6.out.is (by simp only[List.length_append,List.length_cons,List.length_nil] at hple ⊢; rw[HIn.out] at hple; omega)
        have Hin:=qq hin;clear hin;go_wp2_with fail;refine Hin.out.mono ?_;rintro e w7 ⟨rfl,h7⟩;have H7:=qq h7;clear h7;go_wp2_with fail;go_roundg (m - (k+1))
        case measure=>omega
        case rel=>
         refine⟨k+1,by omega,rfl,by go_num,?_⟩
         have h8:=Hq.out.trans (H6.out.trans H7.out);rw[Hst.out,HIn.out]
         have e9:l++(H++S)++[32]++txPar false (txB ws x)=l++(H++(S++32 :: txPar false (txB ws x))):=by simp
         rw[e9] at h8;exact h8
      | true=>
        have HIn:Hid (txIn x=decide (0<mx)):=qq htin;clear htin
        have hin:=in_any Hpx.out (decide (0<mx)) w5 (l++(H++S)++[32]) (Hbw.out.trans H6.out.2.1) H6.out.is (by simp only[List.length_append,List.length_cons,List.length_nil] at hple ⊢; rw[HIn.out] at hple; omega)
        have Hin:=qq hin;clear hin;go_wp2_with fail;refine Hin.out.mono ?_;rintro e w7 ⟨rfl,h7⟩;have H7:=qq h7;clear h7;go_wp2_with fail;go_roundg (m - (k+1))
        case measure=>omega
        case rel=>
         refine⟨k+1,by omega,rfl,by go_num,?_⟩
         have h8:=Hq.out.trans (H6.out.trans H7.out);rw[Hst.out,HIn.out]
         have e9:l++(H++S)++[32]++txPar (decide (0<mx)) (txB ws x)=l++(H++(S++32 :: txPar (decide (0<mx)) (txB ws x))):=by simp
         rw[e9] at h8;exact h8
  · have d0:decide (k<m)=false:=by simpa using hkm
    have hall:L.take k=L:=List.take_of_length_le (by omega);rw[hall] at hq;have Hq:=qq hq;clear hq;go_wp2_with fail
    go_end0
    exact⟨rfl,Hq.out.behind Hbx.out hB⟩
theorem put_go {w0:World} {b:Nat} {nm:Value} {ws:List ByteArray} (ht:Tab w0) (An:Option Addr) (nn cn:Nat) (hnm:nm=.slice An nn cn) (hnn:NmV w0 w0.heap.size An nn cn ws):
  ∀ t:TyD,mayT t=true→∀ (A:Option Addr) (m cp:Nat),TysV w0 w0.heap.size A m cp t.l→PutAt w0 b nm ws t A m cp:=by
 intro t
 induction t using ty_ind with
 | h t ih=>
   intro hm A m cp hl;have f:=may_facts hm;have hp:∀ x∈t.l,∀ A m cp,TysV w0 w0.heap.size A m cp x.l→PutAt w0 b nm ws x A m cp:=fun x hx=>ih x hx (f.2.2.2.2.2.2 x hx);obtain⟨k,n,v,c,L⟩:=t
   have hk:k=1∨k=2∨k=3∨k=4∨k=5∨k=6∨k=7∨k=8:=by
    have h1:1≤k:=f.1;have h2:k≤8:=f.2.1;omega
   have hr:0≤n∧n<1048576:=mayT_range hm
   rcases hk with rfl | rfl | rfl | rfl | rfl | rfl | rfl | rfl
   · exact put_var n v c L A m cp ht hr.1 hr.2
   · exact put_word2 n v c L A m cp
   · exact put_word3 n v c L A m cp
   · exact put_word4 n v c L A m cp
   · exact put_word5 n v c L A m cp
   · exact put_arr n v c L A m cp hl hp
   · obtain⟨x0,x1,e⟩:=may_fun hm rfl
     have e:L=[x0,x1]:=e;subst e;exact put_fun n v c x0 x1 A m cp ht (may_mu hm) hl hp
   · by_cases h:n<nn
     · obtain⟨nk,rfl⟩:=Int.eq_ofNat_of_zero_le hr.1
       exact put_name nk v c L A m cp An nn cn ht hr.2 hnm hnn (by omega) hl hp
     · exact put_num n v c L A m cp An nn cn ht hr.1 hr.2 hnm hnn h hl hp
theorem tyText_any (t:TyD) (hm:mayT t=true) (ws:List ByteArray) (A:Option Addr) (m cp:Nat) (An:Option Addr) (nn cn:Nat) (w:World) (hl:TysV w w.heap.size A m cp t.l) (hn:NmV w w.heap.size An nn cn ws) (ht:Tab w) (hsz:(txB ws t).length≤140737488355328):
  Calls Tryd.prog 15 #[.agg #[.int .u8 t.k,.int .i64 t.n,.int .i64 t.v,.int .u8 t.c,.slice A m cp],.slice An nn cn] w fun e w'=>e=.returned (.string ⟨(txB ws t).toArray⟩)∧Below w.heap.size w w':=by
 have hb1:=below_box (w:=w) (Obj.cells #[.int .u8 t.k,.int .i64 t.n,.int .i64 t.v,.int .u8 t.c,.slice A m cp] 63);have hz:=blk_new w #[.int .u8 t.k,.int .i64 t.n,.int .i64 t.v,.int .u8 t.c,.slice A m cp] 63;have hl1:=(hl.below hb1).more hb1.size;have hn1:=(hn.below hb1).more hb1.size;have ht1:=ht.below hb1;obtain⟨w1,hw1⟩:∃ w1,w.alloc (Obj.cells #[.int .u8 t.k,.int .i64 t.n,.int .i64 t.v,.int .u8 t.c,.slice A m cp] 63)=w1:=⟨_,rfl⟩
 have hs1:w1.heap.size=w.heap.size+1:=by rw[← hw1]; simp
 rw[hw1] at hb1 hz hl1 hn1 ht1;have hb2:=below_box (w:=w1) (Obj.cells #[.pointer none,.slice none 0 0,.slice An nn cn] 104)
 have hwr:WrAt w1.heap.size w1.heap.size (.pointer none) (.slice An nn cn) [] (w1.alloc (Obj.cells #[.pointer none,.slice none 0 0,.slice An nn cn] 104)):=by
  exact⟨Nat.le_refl _,.slice none 0 0,blk_new w1 #[.pointer none,.slice none 0 0,.slice An nn cn] 104,World.ownsRow_nil _ _ _ _,by simp[Value.ownBlock],fun _=>rfl⟩
 have hz2:=hz.below hb2 hz.lt;have hput:=put_go ht1 An nn cn rfl hn1 t hm A m cp hl1 _ [] hb2 (.inl hwr) (by simpa using hsz);rw[hs1] at hput;have Hput:=qq hput;have Hs1:=qq hs1;have HW1:=qq hw1;have Hb1:=qq hb1;have Hb2:=qq hb2;have z0:=hz2.cell 0;have z1:=hz2.cell 1;have z2:=hz2.cell 2;have z3:=hz2.cell 3;have z4:=hz2.cell 4;clear hput hw1 hs1 hb1 hb2 hz hz2 hl1 hn1 ht1 hwr hl hn ht
 go_enter Tryd.func15,Tryd.ntmps15
 go_wp2_with fail;rw[HW1.out];refine Hput.out.mono ?_;rintro e w2 ⟨rfl,h2⟩;have hs:=string_any (w.heap.size+1) (w.heap.size+1) _ _ (txB ws t) w2 h2.1;have Hs:=qq hs;have H2:=qq h2;clear hs h2;go_wp2_with fail;refine Hs.out.mono ?_;rintro e w3 ⟨rfl,hb3⟩;go_wp2_with fail;go_ret;have hb2:=Hb2.out;rw[Hs1.out] at hb2;exact⟨rfl,Hb1.out.trans ((hb2.trans (H2.out.2.1.trans hb3)).mono (by omega))⟩
end Go.Proofs.YtgpeijkjmkocgaaDoor
