/- SchemeSolves holds: under each solution, with any types put, the type is an instance of what it is closed to; and the multiplicities of an instance can be gone on to a solution. Conditions: the variables that the row lists are laid as the program's text lays them. -/
import Derived.Test.YtdmakpmbknindaaGreatDoorP6
import Derived.Test.YtdmakpmbknindaaGreatDoorP7
set_option linter.unusedVariables false
set_option linter.unusedSimpArgs false
set_option maxHeartbeats 8000000
set_option maxRecDepth 100000
namespace Go.Proofs.YtdmakpmbknindaaGreatDoor
open Go.ChangeShapes Go.WideShapes Go.ChangeAt Go.RowKit
theorem sizeS_any (t:TyD) (A:Option Addr) (m cp:Nat) (w:World) (h:TysV w w.heap.size A m cp t.l):
    Calls Tryz.prog 26 (#[.agg #[.int .u8 t.k,.int .i64 t.n,.int .i64 t.v,.int .u8 t.c,.slice A m cp]]++#[]) w fun e w'=>e=.returned (.bool (decide (sizeW t>400)))∧Below w.heap.size w w':=by
  have hbx:=below_box (w:=w) (Obj.cells #[.int .u8 t.k,.int .i64 t.n,.int .i64 t.v,.int .u8 t.c,.slice A m cp] 27);have hq:=refSize_any t _ _ ⟨A,m,cp,rfl,(h.below hbx).more hbx.size⟩;obtain⟨z,hz⟩:∃ z,sizeW t=z:=⟨_,rfl⟩;rw[hz] at hq ⊢;have Hq:=qq hq;have Hbx:=qq hbx;clear hq hbx hz
  go_enter Tryz.func26,Tryz.ntmps26
  go_wp2_with fail
  refine Hq.out.mono ?_; rintro e w1 ⟨rfl,hb1⟩
  have Hb:=qq (Hbx.out.trans (hb1.mono Hbx.out.size));clear hb1;go_wp2_with fail;go_ret;exact⟨rfl,Hb.out⟩
theorem notS_any (m:Int) (w:World):Calls Tryz.prog 28 (#[.int .u8 m]++#[]) w fun e w'=>e=.returned (.bool (notM m))∧w=w':=by
  have H:∀ b,notM m=b→Hid (b=notM m):=fun b h=>qq h.symm
  by_cases h1:m<1
  · have d1:decide (m<1)=true:=by simpa using h1
    have HF:=H true (by simp[notM,h1])
    go_enter Tryz.func28,Tryz.ntmps28
    go_wp2_with fail;go_ret
    exact⟨by rw[← HF.out]; rfl,rfl⟩
  · have d1:decide (m<1)=false:=by simpa using h1
    obtain⟨b,hb⟩:∃ b,decide (m>3)=b:=⟨_,rfl⟩;have HF:=H b (by simp only[notM,d1,hb,Bool.false_or])
    go_enter Tryz.func28,Tryz.ntmps28
    go_wp2_with fail;go_ret
    exact⟨by rw[← HF.out]; rfl,rfl⟩
structure SolvesOk (n2 nl n3:Nat) (ms:List Int):Prop where
  b2:n2≤30
  bl:nl≤60
  b3:n3≤20
  all:ms.any notM=false
theorem walk_schemeSolves {w:World} (ht:Tab w) {H:Type} {d0 d3:DataW H} (vt:Value) (hT:TyB w vt d0) (vl:Value) (hL:IneqsIn w vl) (A2:Option Addr) (n2 c2:Nat) (ms:List Int) (r2:Rd w w.heap.size 1 A2 n2 (ms.map (Value.int .u8))) (nc2:n2≤c2) (cm2:c2≤maxLen) (ln2:ms.length=n2) (w2:∀ u∈ms,(Lit.int .u8 u).wf=true) (v3:Value) (h3:TysB w v3 d3):
    Calls Tryz.prog 5 #[vt,vl,.slice A2 n2 c2,v3] w fun e w'=>e=.returned (.bool true)∧Below w.heap.size w w':=by
  obtain⟨t,A,m,cp,rfl,rt,_⟩:=hT;obtain⟨Al,nl,cl,xs,rfl,rl,_⟩:=hL;obtain⟨A3,n3,c3,ts,rfl,rts,_⟩:=h3;have rm:RdI .u8 w w.heap.size A2 n2 c2 ms:=⟨r2,nc2,cm2⟩;have hka:=BT.new rt;have hba:=below_box (w:=w) (Obj.cells #[.int .u8 t.k,.int .i64 t.n,.int .i64 t.v,.int .u8 t.c,.slice A m cp] 27);obtain⟨W,hW⟩:∃ x,w.alloc (Obj.cells #[.int .u8 t.k,.int .i64 t.n,.int .i64 t.v,.int .u8 t.c,.slice A m cp] 27)=x:=⟨_,rfl⟩;rw[hW] at hka hba;have HW:=qq hW;have HK:=qq hka;have HB:=qq hba;have HL:=qq ((rl.below hba).more hba.size);have HT:=qq (TysV.fresh rts hba);have HM:=qq (rm.freshM hba);have Ht:=qq ht;have hll:=rl.len
  have m1:nl≤9223372036854775807:=by have:=rl.2.1; have:=rl.2.2.1; unfold maxLen at this; omega
  have m2:n2≤9223372036854775807:=Nat.le_trans nc2 cm2;have m3:n3≤9223372036854775807:=Nat.le_trans rts.2.1 rts.2.2.1;clear hW hka hba rt rl rts rm ht r2 nc2 cm2 w2
  go_enter Tryz.func5,Tryz.ntmps5
  go_upto_region 1 with fail;rw[HW.out]
  go_cut [50] (fun z wx=>∃ q,z=.bool q∧(q=false→SolvesOk n2 nl n3 ms)∧Below W.heap.size W wx)
  case first=>
    obtain⟨x0,x1,x2,x3,x4⟩:=HK.out.five;obtain⟨z,hz⟩:∃ z,sizeW t=z:=⟨_,rfl⟩;have hq:=refSize_any t _ W ⟨A,m,cp,rfl,HK.out.2⟩;rw[hz] at hq;have Hq:=qq hq;clear hq hz;go_wp2_with fail;refine Hq.out.mono ?_;rintro e w1 ⟨rfl,hb1⟩;have Hb1:=qq hb1;have HT1:=qq (TysV.fresh HT.out hb1);have HM1:=qq (HM.out.freshM hb1);clear x0 x1 x2 x3 x4 hb1 Hq
    by_cases g0:z>1000
    · have e0:decide (z>1000)=true:=by simpa using g0
      clear g0;go_wp2_with fail;go_meet;exact⟨true,rfl,fun h=>Bool.noConfusion h,Hb1.out⟩
    · have e0:decide (z>1000)=false:=by simpa using g0
      clear g0
      by_cases g1:(n2:Int)>30
      · have e1:decide ((n2:Int)>30)=true:=by simpa using g1
        clear g1;go_wp2_with fail;go_meet;exact⟨true,rfl,fun h=>Bool.noConfusion h,Hb1.out⟩
      · have e1:decide ((n2:Int)>30)=false:=by simpa using g1
        have l1:n2≤30:=by omega
        clear g1
        by_cases g2:(nl:Int)>60
        · have e2:decide ((nl:Int)>60)=true:=by simpa using g2
          clear g2;go_wp2_with fail;go_meet;exact⟨true,rfl,fun h=>Bool.noConfusion h,Hb1.out⟩
        · have e2:decide ((nl:Int)>60)=false:=by simpa using g2
          have l2:nl≤60:=by omega
          clear g2
          by_cases g3:(n3:Int)>20
          · have e3:decide ((n3:Int)>20)=true:=by simpa using g3
            clear g3;go_wp2_with fail;go_meet;exact⟨true,rfl,fun h=>Bool.noConfusion h,Hb1.out⟩
          · have e3:decide ((n3:Int)>20)=false:=by simpa using g3
            have l3:n3≤20:=by omega
            clear g3;obtain⟨r,hr⟩:∃ r,ts.any (fun x=>decide (sizeW x>400))=r:=⟨_,rfl⟩;have Hq:=qq (containsG (fun x=>decide (sizeW x>400)) 26 #[] (fun _ _=>rfl) A3 n3 c3 ts w1 HT1.out (fun i h A' m' c' w' _ hx=>sizeS_any ts[i] A' m' c' w' hx) r hr);clear hr;go_wp2_with fail;refine Hq.out.mono ?_;rintro e w2 ⟨rfl,hb2⟩;have Hb2:=qq (Hb1.out.trans (hb2.mono Hb1.out.size));have HM2:=qq (HM1.out.freshM hb2);clear hb2 Hq HT1 HM1
            cases r with
            | true=>
              go_wp2_with fail;go_meet;exact⟨true,rfl,fun h=>Bool.noConfusion h,Hb2.out⟩
            | false=>
              obtain⟨r,hr⟩:∃ r,ms.any notM=r:=⟨_,rfl⟩;have Hq:=qq (containsMG notM 28 #[] (fun _ _=>rfl) A2 n2 c2 ms w2 _ HM2.out (fun x _=>notS_any x w2) r hr);have Hr:=qq hr;clear hr;go_wp2_with fail;refine Hq.out.mono ?_;rintro e w3 ⟨rfl,rfl⟩
              cases r with
              | true=>
                go_wp2_with fail;go_meet;exact⟨true,rfl,fun h=>Bool.noConfusion h,Hb2.out⟩
              | false=>
                go_wp2_with fail;go_meet;exact⟨false,rfl,fun _=>⟨l1,l2,l3,Hr.out⟩,Hb2.out⟩
  case rest=>
    obtain⟨q,rfl,hok,hbc⟩:=hcut;have HOK:=qq hok;have HK1:=qq (BT.fresh HK.out hbc);have HL1:=qq ((HL.out.below hbc).more hbc.size);have HT1:=qq (TysV.fresh HT.out hbc);have HM1:=qq (HM.out.freshM hbc);have hq1:=HB.out.trans (hbc.mono HB.out.size);obtain⟨w1,hw1⟩:∃ x,x=wc:=⟨_,rfl⟩;subst hw1;have Q1:=qq hq1;clear hok hbc hq1 HK HL HT HM HB HW
    cases q with
    | true=>
      go_wp2_with fail
      refine(works8_any w1 (Ht.out.below Q1.out)).mono ?_; rintro e w9 ⟨rfl,hb9⟩
      have Hb9:=qq (Q1.out.trans (hb9.mono Q1.out.size));clear hb9;go_wp2_with fail;go_ret;exact⟨rfl,Hb9.out⟩
    | false=>
      have hP:=HOK.out rfl;have HP:=qq hP;have l1:n2≤30:=hP.b2;have l2:nl≤60:=hP.bl;have l3:n3≤20:=hP.b3;clear hP HOK;obtain⟨x0,x1,x2,x3,x4⟩:=HK1.out.five;go_wp2_with fail;refine(close_any t A m cp n2 Al nl cl xs w1 HK1.out.2 HL1.out).mono ?_;rintro e w2 ⟨vs,s,er,rfl,⟨Aa,ma,ca,X1,y1,X2,y2,X3,y3,rfl,ra⟩,hC,hb2⟩;have hka:=blk_new w2 (cellsS s Aa ma ca X1 y1 X2 y2 X3 y3) 40;have hbx:=below_box (w:=w2) (Obj.cells (cellsS s Aa ma ca X1 y1 X2 y2 X3 y3) 40);have hb3:=hb2.trans (hbx.mono hb2.size);obtain⟨w3,hw3⟩:∃ x,w2.alloc (Obj.cells (cellsS s Aa ma ca X1 y1 X2 y2 X3 y3) 40)=x:=⟨_,rfl⟩;have HR:=qq (ra.fresh hbx);have HKs:=hka;rw[hw3] at HR HKs hb3;unfold cellsS at hw3;have Hw3:=qq hw3;have HS:=qq HKs;have HC:=qq hC;have HK2:=qq (BT.fresh HK1.out hb3);have HL2:=qq ((HL1.out.below hb3).more hb3.size);have HT2:=qq (TysV.fresh HT1.out hb3);have HM2:=qq (HM1.out.freshM hb3);have Q2:=qq (Q1.out.trans (hb3.mono Q1.out.size));clear x0 x1 x2 x3 x4 hka hbx hb2 hb3 hw3 HKs hC ra HK1 HL1 HT1 HM1 Q1;unfold cellsS
      by_cases g5:er=0
      · subst g5
        obtain⟨i0,hi0,hz0,hz1,hz2⟩:=info_parts muInfoP;go_upto_region 4 with fail;rw[Hw3.out];go_wp2_with fail
        go_loopg [11,65] n2 (fun gh s7 i wr=>∃ (k:Nat) (A5:Option Addr) (c5:Nat),k≤n2∧gh=n2 - k∧s7=.slice A5 k c5∧i=.int .i64 (k:Nat)∧wr.ownsRow w3.heap.size 24 2 (.slice A5 k c5) k (muC (muL (ms.take k)))∧Below w3.heap.size w3 wr)
        case atStart=>exact⟨0,none,0,Nat.zero_le _,rfl,rfl,rfl,World.ownsRow_nil _ _ _ _,Below.refl _ _⟩
        case round=>
          obtain⟨k,A5,c5,hk,rfl,rfl,rfl,hown,hbel⟩:=hrel
          by_cases hkn:k<n2
          · have d0:decide (k<n2)=true:=by simpa using hkn
            have hk':k<ms.length:=by omega
            obtain⟨b,off,rfl,_,hc⟩:=(HM2.out.below hbel).at_ (by omega);have e0:=hc k hk'
            have hst:muC (muL (ms.take (k+1)))=muC (muL (ms.take k))++[.int .i64 0,.int .u8 ms[k]]:=by
              rw[List.take_succ_eq_append_getElem hk'];unfold muL;rw[List.map_append,muC_append];rfl
            obtain⟨y,hy⟩:∃ y,ms[k]=y:=⟨_,rfl⟩;rw[hy] at e0 hst
            have k1:(0:Int)≤(k:Int):=by omega
            have k2:(k:Int)<n2:=by omega
            have Hst:=qq hst;have Hown:=qq hown;have Hbel:=qq hbel;clear hc hst hy hown hbel
            go_wp2_with (at_builtin; refine wpList_append_one w3 wr rfl (.tmp 69) (.tmp 72) 50 rfl w3.heap.size 24 i0 _ 2 16 Tryz.underlying50 hi0 hz0 hz1 hz2 rfl (by omega) (.slice A5 k c5) k _ rfl [.int .i64 0,.int .u8 y] rfl (by intro u hu; simp at hu; rcases hu with rfl | rfl <;> rfl) rfl Hown.out (by unfold maxLen; omega) (by omega) Hbel.out Hbel.out.size ?_; intro A7 c7 w7 how7 hbelw7 hgw7 hzw7; clear hgw7)
            go_roundg (n2 - (k+1))
            case measure=>omega
            case rel=>exact⟨k+1,A7,c7,by omega,rfl,rfl,by simp,by rw[Hst.out]; exact how7,hbelw7⟩
          · have d0:decide (k<n2)=false:=by simpa using hkn
            have hkn2:k=n2:=by omega
            subst hkn2;have hall:ms.take k=ms:=List.take_of_length_le (by omega);rw[hall] at hown;have HMu:=qq (musV_own hown);have HS3:=qq (HS.out.below hbel HS.out.lt);have HR3:=qq (HR.out.fresh hbel);have HK3:=qq (BT.fresh HK2.out hbel);have HL3:=qq ((HL2.out.below hbel).more hbel.size);have HT3:=qq (TysV.fresh HT2.out hbel);have HM3:=qq (HM2.out.freshM hbel);have Q3:=qq (Q2.out.trans (hbel.mono Q2.out.size));clear hown hbel hall HS HR HK2 HL2 HT2 HM2 Q2;obtain⟨w4,hw4⟩:∃ x,x=wr:=⟨_,rfl⟩;subst hw4;obtain⟨x0,x1,x2,x3,x4⟩:=HK3.out.five;obtain⟨u,hu⟩:∃ u,putT t ts (muL ms)=u:=⟨_,rfl⟩;obtain⟨er,her⟩:∃ e,putE t ts (muL ms)=e:=⟨_,rfl⟩;have Hu:=qq hu;have Her:=qq her;have Hq:=qq (put_u hu her A m cp A3 n3 c3 A5 k c5 w4 HK3.out.2 HT3.out HMu.out (by omega));clear hu her;go_wp2_with fail;refine Hq.out.mono ?_;rintro e w5 ⟨U,mu,cu,rfl,hU0,hb5⟩;have hbx:=below_box (w:=w5) (Obj.cells #[.int .u8 u.k,.int .i64 u.n,.int .i64 u.v,.int .u8 u.c,.slice U mu cu] 27);have hbU:=BT.new hU0;have hb6:=hb5.trans (hbx.mono hb5.size);have HS4:=qq (HS3.out.below hb6 HS3.out.lt);have HR4:=qq (HR3.out.fresh hb6);have HK4:=qq (BT.fresh HK3.out hb6);have HL4:=qq ((HL3.out.below hb6).more hb6.size);have HM4:=qq (HM3.out.freshM hb6);have Q4:=qq (Q3.out.trans (hb6.mono Q3.out.size));obtain⟨w6,hw6⟩:∃ x,w5.alloc (Obj.cells #[.int .u8 u.k,.int .i64 u.n,.int .i64 u.v,.int .u8 u.c,.slice U mu cu] 27)=x:=⟨_,rfl⟩;rw[hw6] at hbU HS4 HR4 HK4 HL4 HM4 Q4;have BU:=qq hbU;have Hw6:=qq hw6;clear x0 x1 x2 x3 x4 hU0 hb5 hbx hbU hb6 hw6 Hq HMu HS3 HR3 HK3 HL3 HT3 HM3 Q3
            by_cases g5:er=0
            · have d5:(er != 0)=false:=by simpa using g5
              obtain⟨f1,f2,f3,f4,f5,f6,f7,f8,f9⟩:=solves_law HC.out (types:=ts) (ms:=ms) (by omega) (Her.out.trans g5) Hu.out;obtain⟨N,hN,htab⟩:=f5.table rfl
              have hkN:k=N:=by omega
              subst hkN
              have hnat:∀ v∈(multsT t).map Int.toNat,v<ms.length:=by rw[ln2]; exact htab.nat
              have hown0:noneB (ownA (multsT t) ms)=false:=own_none hnat HP.out.all;have hfore:(holdsAll ms xs).1<0→LetsA (multsT t).length s.tab (ownA (multsT t) ms):=fun h=>exact_fore htab ln2 h hown0;have Hfore:=qq hfore;have Htab:=qq htab;have Hok:=qq f1;have Hmay:=qq f2;have Hnn:=qq f4;have Hvl:=qq f6;have Hiff:=qq f7;have Hms:=qq f8;have Htl:=qq f9;have Hty:=qq f1.ty;clear g5 f1 f2 f3 f4 f5 f6 f7 f8 f9 hN htab hnat hown0 hfore;obtain⟨h4,hh4⟩:∃ z,(holdsAll ms xs).1=z:=⟨_,rfl⟩;obtain⟨g4,hg4⟩:∃ z,(holdsAll ms xs).2=z:=⟨_,rfl⟩;have hq:=holds_any Al nl cl xs A2 k c2 ms w6 HL4.out HM4.out;rw[hh4,hg4] at hq;have Hq:=qq hq;have Hh4:=qq hh4;clear hq hh4 hg4;go_upto_region 13 with fail;rw[Hw6.out];go_wp2_with fail;refine Hq.out.mono ?_;rintro e w7 ⟨rfl,hb7⟩;have HS5:=qq (HS4.out.below hb7 HS4.out.lt);have HR5:=qq (HR4.out.fresh hb7);have HK5:=qq (BT.fresh HK4.out hb7);have BU5:=qq (BT.fresh BU.out hb7);have HL5:=qq ((HL4.out.below hb7).more hb7.size);have HM5:=qq (HM4.out.freshM hb7);have Q5:=qq (Q4.out.trans (hb7.mono Q4.out.size));clear hb7 Hq HS4 HR4 HK4 BU HL4 HM4 Q4;obtain⟨y0,y1,y2,y3,y4,y5,y6,y7,y8,y9⟩:=box_cells HS5.out;obtain⟨b0,b1,b2,b3,b4⟩:=BU5.out.five;go_wp2_with fail;refine(instG_any s u _ U mu cu w7 ⟨Aa,ma,ca,_,_,_,_,_,_,rfl,HR5.out⟩ BU5.out.2).mono ?_;rintro e w8 ⟨Y1,o1,z1,us,Y2,o2,z2,vs,ok,rfl,hus,hvs,hin,hb8⟩;have hok:ok=true↔LetsA (multsT t).length s.tab (ownA (multsT t) ms):=hin.iff.trans ⟨fun h=>Hiff.out.1 h.2,fun h=>⟨Hok.out,Hiff.out.2 h⟩⟩;have HS6:=qq (HS5.out.below hb8 HS5.out.lt);have HK6:=qq (BT.fresh HK5.out hb8);have HL6:=qq ((HL5.out.below hb8).more hb8.size);have HM6:=qq (HM5.out.freshM hb8);have Q6:=qq (Q5.out.trans (hb8.mono Q5.out.size));have Hvs:=qq hvs;have Hin:=qq hin;have hol:=hus.len;have HokI:=qq hok;have Hol:=qq hol;clear b0 b1 b2 b3 b4 y0 y1 y2 y3 y4 y5 y6 y7 y8 y9 hus hvs hin hb8 hok hol HS5 HR5 HK5 BU5 HL5 HM5 Q5
              cases ok with
              | false=>
                by_cases h0:h4<0
                · exact absurd (HokI.out.2 (Hfore.out (by rw[Hh4.out]; exact h0))) (by simp)
                · have d6:decide (h4<0)=false:=by simpa using h0
                  clear h0;go_wp2_with fail
                  refine(works8_any w8 (Ht.out.below Q6.out)).mono ?_; rintro e w9 ⟨rfl,hb9⟩
                  have Hb9:=qq (Q6.out.trans (hb9.mono Q6.out.size));clear hb9;go_wp2_with fail;go_ret;exact⟨rfl,Hb9.out⟩
              | true=>
                obtain⟨e1',e2'⟩:=Hin.out.yes rfl;rw[Hms.out] at e2';have Hlets:=qq (HokI.out.1 rfl)
                have hk2:vs.length=(multsT t).length:=by rw[e2']; simp[ownA]
                have hl2:=Hvs.out.len;have E2:=qq e2';obtain⟨nk,hnk⟩:∃ n,(multsT t).length=n:=⟨_,rfl⟩;obtain⟨nv,hnv⟩:∃ n,(varsT t).length=n:=⟨_,rfl⟩
                have ho2:o2=nk:=by omega
                subst ho2
                have ho1:o1=nv:=by
                  have h1:=Hol.out;have h2:=Htl.out;rw[← e1'] at h2;omega
                subst ho1
                have hty:s.types=(o1:Int):=by rw[Hty.out,Hvl.out,hnv]
                have Hnk:=qq hnk;have Hnv:=qq hnv;have Htyp:=qq hty
                have nk63:o2≤1099511627776:=by have:=mults_few (mayTE_may Hmay.out); omega
                clear e1' e2' hk2 hl2 hnk hnv hty Hin HokI Hiff Hms Htl Hol Hfore Hh4 Hvl Hty;go_upto_region 17 with fail
                go_cut [107] (fun z wx=>z=.bool false∧wx=w8)
                case first=>
                  by_cases h0:h4<0
                  · have d6:decide (h4<0)=true:=by simpa using h0
                    by_cases h1:g4=0
                    · have d7:(g4==0)=true:=by simp[h1]
                      clear h0 h1;go_wp2_with fail;go_meet;exact⟨rfl,rfl⟩
                    · have d7:(g4==0)=false:=by simp[h1]
                      clear h0 h1;go_wp2_with fail;go_meet;exact⟨rfl,rfl⟩
                  · have d6:decide (h4<0)=false:=by simpa using h0
                    clear h0;go_wp2_with fail;go_meet;exact⟨rfl,rfl⟩
                case rest=>
                obtain⟨rfl,hwc⟩:=hcut;have hwd:=hwc.symm;subst hwd;obtain⟨x0,x1,x2,x3,x4⟩:=HK6.out.five
                have hqv:=vars_any t A m cp w8 HK6.out.2 (by have:=vars_few (mayTE_may Hmay.out); omega) (by have:=mults_few (mayTE_may Hmay.out); omega)
                have Hqv:=qq hqv;clear hqv;go_wp2_with fail;refine Hqv.out.mono ?_;rintro e w9 ⟨B5,n5,c5',B6,n6,c6',rfl,ho5,ho6,hne,hb9⟩;have hr6:=RdI.of_own ho6
                have hn6:n6=o2:=by have:=hr6.len; have:=Hnk.out; omega
                subst hn6;obtain⟨keep,hkeep⟩:∃ l,multsT t=l:=⟨_,rfl⟩;have htab:=Htab.out;have hlets:=Hlets.out;have hnn:=Hnn.out;have hnk:=Hnk.out;have hvs0:=E2.out;rw[hkeep] at htab hlets hnn hnk hvs0 hr6;rw[← hvs0] at hlets
                have hvE:∀ i,i<n6→vs.getD i 0=ms.getD ((keep.map Int.toNat).getD i 0) 0:=fun i hi=>by
                  rw[hvs0]; exact map_getD (by simpa[hnk] using hi)
                have HvE:=qq hvE;have HtabK:=qq htab;have HletsK:=qq hlets;have Hnn':=qq hnn;have Hnk':=qq hnk;have Hk7:=qq hr6;have HS7:=qq (HS6.out.below hb9 HS6.out.lt);have HL7:=qq ((HL6.out.below hb9).more hb9.size);have HM7:=qq (HM6.out.freshM hb9);have Ha7:=qq (Hvs.out.freshM hb9);have Q7:=qq (Q6.out.trans (hb9.mono Q6.out.size));clear x0 x1 x2 x3 x4 ho5 ho6 hne hb9 hr6 hkeep htab hlets hnn hnk hvs0 hvE Hqv HK6 HS6 HL6 HM6 Hvs Q6 Htab Hlets Hnn Hnk E2 Hmay;have hOne:=blk_new w9 #[.int .u8 1] 22;have hbx:=below_box (w:=w9) (Obj.cells #[.int .u8 1] 22);go_wp2_with fail;refine(repeat_mult (.int .u8 1) rfl k (by omega) ⟨w9.heap.size,0,none⟩ 1 _ (hOne.cell 0) hOne.lt).mono ?_;rintro e w10 ⟨gL,rfl,hkL,hgL,hbL⟩;have hb10:=hbx.trans (hbL.mono hbx.size);have HB10:=qq hb10;have HL8:=qq ((HL7.out.below hb10).more hb10.size)
                have HG8:Hid (Blk w10 gL 22 ((setE (List.replicate k 1) (keep.map Int.toNat) vs 0).map (Value.int .u8)).toArray):=qq (by show Blk w10 gL _ ((List.replicate k (1:Int)).map (Value.int .u8)).toArray; rw[List.map_replicate]; exact hkL)
                have hgw:w9.heap.size≤gL:=by have:=hbx.size; omega
                clear hOne hbx hkL hgL hbL hb10 HL7;go_wp2_with fail;refine(cloneQ_any Al nl cl xs w10 HL8.out (by omega)).mono ?_;rintro e w11 ⟨Am,cm,rfl,hown11,hb11⟩;have HB9:=qq (HB10.out.trans (hb11.mono HB10.out.size));have hgL8:gL<w10.heap.size:=HG8.out.lt;have HG9:=qq (HG8.out.below hb11 hgL8);have Hown9:=qq hown11;have hs89:=hb11.size;have hs8:=HB10.out.size;have HS9:=qq (HS7.out.below HB9.out HS7.out.lt);have Hnat:=qq HtabK.out.nat
                have Hkl:Hid ((keep.map Int.toNat).length=n6):=qq (by rw[List.length_map]; exact Hnk'.out)
                have hvl:vs.length=n6:=Ha7.out.len;have hkl:keep.length=n6:=Hnk'.out;obtain⟨q0,q1,q2,q3,q4,q5,q6,q7,q8,q9⟩:=box_cells HS9.out;clear hown11 hb11 HL8 HG8 HS9 q1 q2 q3 q4 q5 q6 q7 q8 q9;rw[Htyp.out] at q0;go_wp2_with fail;clear q0
                go_loopg [22,136] n6 (fun gh s20 i wr=>∃ (j:Nat) (A:Option Addr) (c:Nat),j≤n6∧gh=n6 - j∧s20=.slice A (nl+j) c∧i=.int .i64 (j:Nat)∧Blk wr gL 22 ((setE (List.replicate k 1) (keep.map Int.toNat) vs j).map (Value.int .u8)).toArray∧wr.ownsRow w10.heap.size 70 4 (.slice A (nl+j) c) (nl+j) (cellsQ (xs++(freeE (keep.map Int.toNat) vs).take j))∧w11.heap.size≤wr.heap.size∧Below w9.heap.size w9 wr)
                case atStart=>exact⟨0,Am,cm,Nat.zero_le _,rfl,rfl,rfl,HG9.out,by simpa using Hown9.out,Nat.le_refl _,HB9.out⟩
                case round=>
                  obtain⟨j,A,c,hj,rfl,rfl,rfl,hL,hown,hsz9,hbel⟩:=hrel;have HG:=qq hL;have Hrow:=qq hown;have Hbel:=qq hbel;clear hL hown hbel HG9 Hown9
                  by_cases hjn:j<n6
                  · have d0:decide (j<n6)=true:=by simpa using hjn
                    have hj':j<keep.length:=by omega
                    obtain⟨b,off,rfl,hb1,hc⟩:=Hk7.out.at_ (by omega);have q0:=hc j hj'
                    have hu:keep[j]=(((keep.map Int.toNat).getD j 0:Nat):Int):=by
                      rw[List.getD_eq_getElem?_getD,List.getElem?_map,qj hj'];exact(Int.toNat_of_nonneg (Hnn'.out _ (List.getElem_mem hj'))).symm
                    rw[hu] at q0;have huN:(keep.map Int.toNat).getD j 0<k:=keep_lt Hnat.out (by simpa using hj')
                    have Htk:=qq (free_take (kn:=keep.map Int.toNat) (a:=vs) (k:=j) (by rw[Hkl.out]; exact hjn))
                    have ha':j<vs.length:=by omega
                    obtain⟨b2,off2,rfl,hb2,hc2⟩:=Ha7.out.at_ (by omega);have q1:=hc2 j ha';rw[← getE_at ha'] at q1;have hvE:=HvE.out j hjn;obtain⟨m',hm'⟩:∃ m,vs.getD j 0=m:=⟨_,rfl⟩;obtain⟨u',hue⟩:∃ u,(keep.map Int.toNat).getD j 0=u:=⟨_,rfl⟩
                    have hset:(setE (List.replicate k 1) (keep.map Int.toNat) vs j).set u' m'=setE (List.replicate k 1) (keep.map Int.toNat) vs (j+1):=by rw[← hue,← hm']; rfl
                    rw[hue] at q0 huN hvE;rw[hm'] at q1 hvE
                    have hu2:u'<ms.length:=by omega
                    obtain⟨b3,off3,rfl,hb3,hc3⟩:=HM7.out.at_ (by omega);have q2:=hc3 u' hu2;rw[← getE_at hu2,← hvE] at q2;have Hset:=qq hset;have Hue:=qq hue;have Hm:=qq hm';have E1:=qq q1;have e0:wr.cell? ⟨b,off+j,none⟩=some (.int .i64 (u':Nat)):=(Hbel.out.cell (p:=⟨b,off+j,none⟩) hb1).trans q0;have e1:wr.cell? ⟨b2,off2+j,none⟩=some (.int .u8 m'):=(Hbel.out.cell (p:=⟨b2,off2+j,none⟩) hb2).trans q1;have e2:wr.cell? ⟨b3,off3+u',none⟩=some (.int .u8 m'):=(Hbel.out.cell (p:=⟨b3,off3+u',none⟩) hb3).trans q2
                    have i1:(0:Int)≤(j:Int):=by omega
                    have i2:(j:Int)<n6:=by omega
                    have i3:(0:Int)≤(u':Int):=by omega
                    have i4:(u':Int)<k:=by omega
                    have d1:decide ((u':Int)≥k)=false:=by simp; omega
                    have d1b:decide ((k:Int)≤(u':Int))=false:=by simp; omega
                    have d1c:decide (k≤u')=false:=by simp; omega
                    obtain⟨i0,hi0,hz0,hz1,hz2⟩:=info_parts ineqInfo;clear hc hc2 hc3 hu hue hm' hset q0 q1 q2 hvE hu2;go_upto_region 28 with fail;refine wp_region_noPanic ?_;refine wp_region_T (fun w'=>w'.cell? ⟨b2,off2+j,none⟩=some (.int .u8 m')∧w'.cell? ⟨b3,off3+u',none⟩=some (.int .u8 m')) 15 (by kernel_rfl) ⟨e1,e2⟩ (fun hHeld=>?_);have hbq:=Below.drew (Below.refl wr.heap.size wr);have e1q:=(hbq.cell (p:=⟨b2,off2+j,none⟩) (block_lt_of_cell e1)).trans e1;have HGq:=HG.out.below hbq HG.out.lt;have Hrq:=ownsRow_beyond Hrow.out hbq;have hbq2:=Hbel.out.trans (hbq.mono Hbel.out.size);have hsq:w11.heap.size≤wr.drew.heap.size:=hsz9;clear e0 e1 e2 hbq;generalize wr.drew=wq at hHeld e1q HGq Hrq hbq2 hsq ⊢;refine nx0 0 ?_
                    iterate 15 (refine nxC (v:=?_) rfl (by kernel_rfl) (fun _ _ _ h=>h) (by kernel_rfl) ?_ (by assumption) ?_; rotate_left; (focus (intro w hSw; (try dsimp only at hSw); first | (go_simp; done) | (go_simp; with_reducible rfl))); try simp only[Act.put,qg,qe,qf,qd,qh,qi,Nat.reduceAdd])
                    refine nx9 ?_;clear hHeld;refine wpAnyT_seq 15 (by omega) (by rfl) (by kernel_rfl) ?_;simp only[List.drop_succ_cons,List.drop_zero];go_wp2_with fail;refine NoPanic.normal ?_;go_wp2_with fail;refine wp_region_noPanic ?_;refine wp_region_T (fun w'=>w'.cell? ⟨b2,off2+j,none⟩=some (.int .u8 m')) 16 (by kernel_rfl) e1q (fun hHeld=>?_);have hLD:Blk wq.drew gL 22 ((setE (List.replicate k 1) (keep.map Int.toNat) vs j).map (Value.int .u8)).toArray:=HGq;have hoD:wq.drew.ownsRow w10.heap.size 70 4 (.slice A (nl+j) c) (nl+j) (cellsQ (xs++(freeE (keep.map Int.toNat) vs).take j)):=Hrq;have hbD:=Below.drew hbq2;have hsD:w11.heap.size≤wq.drew.heap.size:=hsq;clear e1q HGq Hrq hbq2 hsq;generalize wq.drew=W0 at hHeld hLD hoD hbD hsD ⊢;refine nx0 0 ?_
                    iterate 7 (refine nxC (v:=?_) rfl (by kernel_rfl) (fun _ _ _ h=>h) (by kernel_rfl) ?_ (by assumption) ?_; rotate_left; (focus (intro w hSw; (try dsimp only at hSw); first | (go_simp; done) | (go_simp; with_reducible rfl))); try simp only[Act.put,qg,qe,qf,qd,qh,qi,Nat.reduceAdd])
                    refine nx9 ?_;refine nx0 9 ?_
                    iterate 4 (refine nxC (v:=?_) rfl (by kernel_rfl) (fun _ _ _ h=>h) (by kernel_rfl) ?_ (by assumption) ?_; rotate_left; (focus (intro w hSw; (try dsimp only at hSw); first | (go_simp; done) | (go_simp; with_reducible rfl))); try simp only[Act.put,qg,qe,qf,qd,qh,qi,Nat.reduceAdd])
                    refine nx9 ?_
                    refine wpAnyT_step (i:=7) (by kernel_rfl) rfl (fun K hK=>?_);go_simp;refine hK.out _ _ hHeld ?_;clear hK K
                    try simp only[Act.put,qg,qe,qf,qd,qh,qi]
                    refine wpAnyT_step (i:=8) (by kernel_rfl) rfl (fun K hK=>?_);go_simp;refine hK.out _ _ hHeld ?_;clear hK K
                    try simp only[Act.put,qg,qe,qf,qd,qh,qi]
                    refine wpAnyT_step (i:=13) (by kernel_rfl) rfl (fun K hK=>?_);go_simp;refine hK.out _ _ hHeld ?_;clear hK K
                    try simp only[Act.put,qg,qe,qf,qd,qh,qi]
                    have Hb9x:=qq (hbD.alloc hbD.size (Obj.cells #[.int .i64 (u':Nat),.int .u8 0,.int .u8 m',.int .i64 (-1)] 70));have Ho9:=qq (hoD.alloc (Obj.cells #[.int .i64 (u':Nat),.int .u8 0,.int .u8 m',.int .i64 (-1)] 70));have HL9:=qq (hLD.alloc (Obj.cells #[.int .i64 (u':Nat),.int .u8 0,.int .u8 m',.int .i64 (-1)] 70))
                    have hsz:(W0.alloc (Obj.cells #[.int .i64 (u':Nat),.int .u8 0,.int .u8 m',.int .i64 (-1)] 70)).heap.size=W0.heap.size+1:=by simp
                    have Hsz:=qq hsz;clear hHeld hLD hoD hbD hsz;refine wpAnyT_step (i:=14) (by kernel_rfl) rfl (fun K hK=>?_);go_simp;refine hK.out _ _ ((Hb9x.out.cell (p:=⟨b2,off2+j,none⟩) hb2).trans E1.out) ?_;clear hK K
                    try simp only[Act.put,qg,qe,qf,qd,qh,qi]
                    refine wpAnyT_step (i:=15) (by kernel_rfl) rfl (fun K hK=>?_)
                    (refine step_append_rd _ (by rfl) (.tmp 162) (.tmp 170) 28 (by rfl) w10.heap.size 70 i0 _ 4 32 Tryz.underlying28 hi0 hz0 hz1 hz2 rfl (by omega) (.slice A (nl+j) c) (nl+j) (cellsQ (xs++(freeE (keep.map Int.toNat) vs).take j)) (by rfl) Ho9.out (W0.heap.size+1) (some ⟨W0.heap.size,0,none⟩) 1 1 (cellsQ [⟨(u':Nat),0,m', -1⟩]) (by rfl) (rd_newq _ ⟨(u':Nat),0,m', -1⟩ _) (cellsQ_one _) (by unfold maxLen; omega) (by omega) (by have:=Hsz.out; omega) ?_; intro v7 wV ho7 hg7 hat7; obtain⟨A7,c7,rfl⟩:=ownsRow_form ho7; have hb7:=Hb9x.out.grown hg7 Hb9x.out.size (fun b' hb'=>by have:=(ownsRow_lt Ho9.out hb').1; omega); have hL7:=HL9.out.grown hg7 (fun e=>by have:=(ownsRow_lt Ho9.out e.symm).1; omega))
                    refine hK.out _ _ ((hb7.cell (p:=⟨b2,off2+j,none⟩) hb2).trans E1.out) ?_;clear hK K
                    try simp only[Act.put,qg,qe,qf,qd,qh,qi]
                    have hs7:w11.heap.size≤wV.heap.size:=by have:=hg7.size; have:=Hsz.out; omega
                    have hsl:(setE (List.replicate k 1) (keep.map Int.toNat) vs j).length=k:=by rw[setE_len]; simp
                    have k3:wV.cell? ⟨gL,u',none⟩=some (.int .u8 ((setE (List.replicate k 1) (keep.map Int.toNat) vs j)[u']'(by rw[hsl]; exact huN))):=by
                      rw[hL7.cell u']; simp
                    generalize ((setE (List.replicate k 1) (keep.map Int.toNat) vs j)[u']'(by rw[hsl]; exact huN))=z at k3
                    have k4:=hL7.frozen u';have hst:=blk_set hL7 u' m';rw[Hset.out] at hst;have hst2:=hb7.setCell (p:=⟨gL,u',none⟩) hgw (.int .u8 m')
                    have hst3:(wV.setCell ⟨gL,u',none⟩ (.int .u8 m')).ownsRow w10.heap.size 70 4 (.slice A7 (nl+j+1) c7) (nl+j+1) (cellsQ (xs++(freeE (keep.map Int.toNat) vs).take (j+1))):=ownsRow_setCell_below (by rw[Htk.out,Hue.out,Hm.out,← List.append_assoc,cellsQ_append]; exact ho7) (a:=⟨gL,u',none⟩) hgL8 _
                    have hst4:w11.heap.size≤(wV.setCell ⟨gL,u',none⟩ (.int .u8 m')).heap.size:=by simpa[World.setCell] using hs7
                    have Hst:=qq hst;have Hst2:=qq hst2;have Hst3:=qq hst3;have Hst4:=qq hst4;clear hst hst2 hst3 hst4 ho7 hg7 hat7 hb7 hL7 hs7 hsl huN;refine wpAnyT_seq 16 (by omega) (by rfl) (by kernel_rfl) ?_;simp only[List.drop_succ_cons,List.drop_zero];go_wp2_with fail;refine NoPanic.normal ?_;go_wp2_with fail;go_roundg (n6 - (j+1))
                    case measure=>omega
                    case rel=>exact⟨j+1,A7,c7,by omega,rfl,rfl,by simp,Hst.out,Hst3.out,Hst4.out,Hst2.out⟩
                  · have d0:decide (j<n6)=false:=by simpa using hjn
                    have hjn2:n6=j:=by omega
                    subst hjn2
                    have hsl:(setE (List.replicate k 1) (keep.map Int.toNat) vs n6).length=k:=by rw[setE_len]; simp
                    have hlow:=rdM_blk HG.out hsl (by unfold maxLen; omega)
                    have hmore:IneqsV wr wr.heap.size A (nl+n6) c (xs++freeE (keep.map Int.toNat) vs):=by
                      have:=IneqsV.of_own4 (by have:=Hrow.out; rwa [List.take_of_length_le (by rw[free_len,Hkl.out]; exact Nat.le_refl _)] at this)
                      exact this
                    have Hlow:=qq hlow;have Hmore:=qq hmore;obtain⟨wE,hwE⟩:∃ x,x=wr:=⟨_,rfl⟩;subst hwE;clear hsl hlow hmore HG Hrow;go_wp2_with fail;refine(solve_any k _ _ _ _ _ _ _ _ wE Hlow.out Hmore.out).mono ?_;rintro e wF ⟨Z4,z4,c4,Z5,z5,c5,av,core,er,rfl,hra,hrc,hS,hbF⟩
                    obtain⟨h0,_,_⟩:=exact_back HtabK.out (by omega) (by omega) (by have:=HtabK.out.few; omega) HletsK.out (by rw[hkl]; exact hS)
                    subst h0;have QF:=qq (Q7.out.trans ((Hbel.out.trans (hbF.mono Hbel.out.size)).mono Q7.out.size));clear hra hrc hS hbF;go_wp2_with fail
                    refine(works8_any wF (Ht.out.below QF.out)).mono ?_; rintro e wG ⟨rfl,hbG⟩
                    have HbG:=qq (QF.out.trans (hbG.mono QF.out.size));clear hbG;go_wp2_with fail;go_ret;exact⟨rfl,HbG.out⟩
            · have d5:(er != 0)=true:=by simpa using g5
              clear g5;go_upto_region 13 with fail;rw[Hw6.out];go_wp2_with fail
              refine(works8_any w6 (Ht.out.below Q4.out)).mono ?_; rintro e w9 ⟨rfl,hb9⟩
              have Hb9:=qq (Q4.out.trans (hb9.mono Q4.out.size));clear hb9;go_wp2_with fail;go_ret;exact⟨rfl,Hb9.out⟩
      · have d5:(er != 0)=true:=by simpa using g5
        clear g5;go_upto_region 4 with fail;rw[Hw3.out];go_wp2_with fail
        refine(works8_any w3 (Ht.out.below Q2.out)).mono ?_; rintro e w9 ⟨rfl,hb9⟩
        have Hb9:=qq (Q2.out.trans (hb9.mono Q2.out.size));clear hb9;go_wp2_with fail;go_ret;exact⟨rfl,Hb9.out⟩
namespace schemeSolves
theorem lifted (os:Os) (started:os.Started) (H:Type) (enc:TypeId × Value→H):
    ReturnsInHanded {} Tryz.checked os 5 .any (fun w args=>(Rows.schemeSolvesSpec.pre enc Tryz.prog Tryz.f5 [] false w args∧laidMetH Tryz.prog laid3 w)∧sizedMet enc Tryz.prog Tryz.f5 (OpenSpec.ofChange Rows.schemeSolvesSpec) false w args) (Rows.schemeSolvesSpec.post enc Tryz.prog Tryz.f5 false true false false):=by
  refine returnsInHanded_of_change_and (C:=Tryz.checked) (X:=fun w _=>laidMetH Tryz.prog laid3 w) (fun _ _ _ hh h=>h.of_heap hh) own started (by kernel_rfl) Tryz.func5
    (ChangeSpec.witness_shaped (enc:=enc) (C:=Tryz.checked) (os:=os) (X:=fun w _=>laidMetH Tryz.prog laid3 w) false (World.doorLaid Tryz.prog 400 os) #[.agg #[.int .u8 0,.int .i64 0,.int .i64 0,.int .u8 0,.slice none 0 0],.slice none 0 0,.slice none 0 0,.slice none 0 0] 8 rfl (World.shaped_of_RefB (by kernel_rfl) (by kernel_rfl)) (by kernel_rfl) (by kernel_rfl) (by kernel_rfl) (door_met os _)) ?_
  intro W base args ds gs before hval0 hW hcnd hsz0 hL _
  have hsz:(DataW.weightsEach Tryz.prog (Tryz.f5.params.toList++Rows.schemeSolvesSpec.plain.varTypes Tryz.prog) (ds++gs)).all (· ≤ reachBytes)=true:=hsz0
  have hval:∀ (j:Nat) t v,Tryz.f5.params[j]?=some t→args[j]?=some v→Value.okWide Tryz.prog W .any base t v:=hval0;have hW':=hW;obtain⟨p,q,hA0,hV,rfl,hfz,hnd⟩:=hW;have hA:DataW.TrodAll enc Tryz.prog W 0 (fun _=>true) true Tryz.f5.params.toList args.toList ds p:=hA0;rw[Tryz.params5] at hA hval hsz;obtain⟨v0,vs0,d0,ds0,p0,q0,hargs,rfl,rfl,h0,r_0⟩:=trodAll_cons hA;obtain⟨v1,vs1,d1,ds1,p1,q1,rfl,rfl,rfl,h1,r_1⟩:=trodAll_cons r_0;obtain⟨v2,vs2,d2,ds2,p2,q2,rfl,rfl,rfl,h2,r_2⟩:=trodAll_cons r_1;obtain⟨v3,vs3,d3,ds3,p3,q3,rfl,rfl,rfl,h3,r_3⟩:=trodAll_cons r_2;obtain⟨rfl,rfl,rfl⟩:=trodAll_nil r_3
  obtain rfl:args=#[v0,v1,v2,v3]:=by cases args; simp_all
  obtain⟨rfl,rfl⟩:=trodVars_none hV;have w0:=rd_ty (hval 0 27 v0 rfl rfl) h0;have w1:=rd_ineqs (hval 1 28 v1 rfl rfl) h1;obtain⟨A2,n2,c2,l2,rfl,r2,nc2,cm2,ln2,w2⟩:=rd_ints Tryz.underlying35 Tryz.underlying22 (by kernel_rfl) (hval 2 35 v2 rfl rfl) h2;have w3:=rd_tys (hval 3 25 v3 rfl rfl) h3;refine(walk_schemeSolves (w:=W) (tab_of_laid hL) v0 w0 v1 w1 A2 n2 c2 l2 r2 nc2 cm2 ln2 w2 v3 w3).mono fun e W' ⟨he,bel⟩=>?_;subst he;exact⟨_,rfl,law_post laidOut (by kernel_rfl) rfl rfl Tryz.underlying4 hW' rfl rfl rfl bel⟩
theorem over:Rows.schemeSolvesRow.holds Tryz.pinned (OpenSpec.ofChange Rows.schemeSolvesSpec):=
  OpenClaim.holds_of_wide 5 Tryz.f5 rfl rfl rfl rfl rfl rfl rfl ⟨rfl,rfl,rfl,rfl,rfl⟩ rfl rfl rfl rfl rfl (by kernel_rfl) Tryz.func5 (by kernel_rfl)
    (of_decide_eq_true (by kernel_rfl)) (by unfold Func.isWrapper; first | (rw[if_pos (by decide +kernel)]; kernel_rfl) | (rw[if_neg (by decide +kernel)]; exact⟨rfl,rfl⟩))
    (fun os started H enc _=>lifted os started H enc)
theorem card:Rows.SchemeSolvesCardSaid:=
  Claim7.holds_tied_plain_at .later [] [.data,.data,.data] true Rows.schemeSolvesCard.stood.harness false
    over (fun _ h=>by cases h) (by kernel_rfl) (fun _ h=>by cases h) schemeSolves_row_tie rfl ⟨rfl,rfl⟩ (by kernel_rfl) rfl
    (fun f fn hf hfn=>by
      obtain rfl:f=5:=Option.some.inj ((show Tryz.prog.funcNamed "usufruct/usufructlaw08.SchemeSolves"=some 5 by kernel_rfl).symm.trans hf) |>.symm
      obtain rfl:fn=Tryz.f5:=(Option.some.inj (Tryz.func5.symm.trans hfn)).symm
      exact⟨by kernel_rfl,fun j t ht=>by
        rw[Tryz.params5] at ht
        have hm:t∈[27,28,35,25]:=by simpa using Array.mem_of_getElem? ht
        have hall:([27,28,35,25].all fun u=>!Tryz.prog.wantsStandIn u)=true:=by kernel_rfl
        exact(show Tryz.prog.wantsStandIn t=false by simpa using List.all_eq_true.1 hall t hm)⟩)
    (by kernel_rfl)
theorem proved:Rows.SchemeSolvesCardSaid:=card
#print axioms proved
end schemeSolves
end Go.Proofs.YtdmakpmbknindaaGreatDoor
