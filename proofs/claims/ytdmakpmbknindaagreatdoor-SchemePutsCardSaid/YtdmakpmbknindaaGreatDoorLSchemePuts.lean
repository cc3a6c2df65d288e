/- SchemePuts holds: what comes of a scheme's type is an instance just if the table lets the multiplicities be, and it tells what was put. Conditions: the variables that the row lists are laid as the program's text lays them. -/
import Derived.Test.YtdmakpmbknindaaGreatDoorP6
import Derived.Test.YtdmakpmbknindaaGreatDoorP7
set_option linter.unusedVariables false
set_option linter.unusedSimpArgs false
set_option maxHeartbeats 4000000
set_option maxRecDepth 100000
namespace Go.Proofs.YtdmakpmbknindaaGreatDoor
open Go.ChangeShapes Go.WideShapes Go.ChangeAt Go.RowKit
theorem sizeP_any (t:TyD) (A:Option Addr) (m cp:Nat) (w:World) (h:TysV w w.heap.size A m cp t.l):
    Calls Tryz.prog 18 (#[.agg #[.int .u8 t.k,.int .i64 t.n,.int .i64 t.v,.int .u8 t.c,.slice A m cp]]++#[]) w fun e w'=>e=.returned (.bool (decide (sizeW t>400)))∧Below w.heap.size w w':=by
  have hbx:=below_box (w:=w) (Obj.cells #[.int .u8 t.k,.int .i64 t.n,.int .i64 t.v,.int .u8 t.c,.slice A m cp] 27);have hq:=refSize_any t _ _ ⟨A,m,cp,rfl,(h.below hbx).more hbx.size⟩;obtain⟨z,hz⟩:∃ z,sizeW t=z:=⟨_,rfl⟩;rw[hz] at hq ⊢;have Hq:=qq hq;have Hbx:=qq hbx;clear hq hbx hz
  go_enter Tryz.func18,Tryz.ntmps18
  go_wp2_with fail
  refine Hq.out.mono ?_; rintro e w1 ⟨rfl,hb1⟩
  have Hb:=qq (Hbx.out.trans (hb1.mono Hbx.out.size));clear hb1;go_wp2_with fail;go_ret;exact⟨rfl,Hb.out⟩
theorem indexM_one (A:Option Addr) (n c:Nat) (us:List Int) (x:Int) (w:World) (B:Nat) (h:RdI .u8 w B A n c us):
    Calls Tryz.prog 57 #[.slice A n c,.int .u8 x] w fun e w'=>∃ z:Int,e=.returned (.int .i64 z)∧w'=w:=by
  have hlen:=h.len;have m63:n≤9223372036854775807:=Nat.le_trans h.2.1 h.2.2;have H:=qq h;clear h
  go_enter Tryz.func57,Tryz.ntmps57
  go_wp2_with fail
  go_loopg [8] n (fun gh i wr=>∃ k:Nat,k≤n∧gh=n - k∧i=.int .i64 k∧wr=w)
  case atStart=>exact⟨0,Nat.zero_le _,rfl,rfl,rfl⟩
  case round=>
    obtain⟨k,hk,rfl,rfl,rfl⟩:=hrel
    by_cases hkm:k<n
    · have d0:decide (k<n)=true:=by simpa using hkm
      have hk':k<us.length:=by omega
      obtain⟨b,off,rfl,_,hc⟩:=H.out.at_ (by omega);have e0:=hc k hk'
      have k1:(0:Int)≤(k:Int):=by omega
      have k2:(k:Int)<n:=by omega
      clear hc;obtain⟨y,hy⟩:∃ y,us[k]=y:=⟨_,rfl⟩;rw[hy] at e0;clear hy
      by_cases hxy:x=y
      · have d1:(x==y)=true:=by simpa using hxy
        clear hxy;go_wp2_with fail;go_ret;exact⟨_,rfl,rfl⟩
      · have d1:(x==y)=false:=by simpa using hxy
        clear hxy;go_wp2_with fail;go_roundg (n - (k+1))
        case measure=>omega
        case rel=>exact⟨k+1,by omega,rfl,by go_num,rfl⟩
    · have d0:decide (k<n)=false:=by simpa using hkm
      go_wp2_with fail;go_ret;exact⟨_,rfl,rfl⟩
theorem hasM_one (A:Option Addr) (n c:Nat) (us:List Int) (x:Int) (w:World) (B:Nat) (h:RdI .u8 w B A n c us):
    Calls Tryz.prog 19 #[.slice A n c,.int .u8 x] w fun e w'=>∃ q:Bool,e=.returned (.bool q)∧w'=w:=by
  have Hq:=qq (indexM_one A n c us x w B h);clear h
  go_enter Tryz.func19,Tryz.ntmps19
  go_wp2_with fail
  refine Hq.out.mono ?_; rintro e w1 ⟨z,rfl,rfl⟩
  go_wp2_with fail;go_ret;exact⟨_,rfl,rfl⟩
structure PutsOk (s:SchD) (n n2:Nat):Prop where
  ok:OkSch s
  ts:n=(varsT s.t).length
  ms:n2=(multsT s.t).length
  small:n≤100∧n2≤100
theorem walk_schemePuts {w:World} (ht:Tab w) (va:Value) (ha:SchIn w va) {H:Type} {d1:DataW H} (v1:Value) (h1:TysB w v1 d1) (A2:Option Addr) (n2 c2:Nat) (ms:List Int) (r2:Rd w w.heap.size 1 A2 n2 (ms.map (Value.int .u8))) (nc2:n2≤c2) (cm2:c2≤maxLen) (ln2:ms.length=n2) (w2:∀ u∈ms,(Lit.int .u8 u).wf=true):
    Calls Tryz.prog 4 #[va,v1,.slice A2 n2 c2] w fun e w'=>e=.returned (.bool true)∧Below w.heap.size w w':=by
  obtain⟨s,Aa,ma,ca,X1,y1,X2,y2,X3,y3,rfl,ra⟩:=ha;obtain⟨A1,n1,c1,ts,rfl,rt,_⟩:=h1;have rm:RdI .u8 w w.heap.size A2 n2 c2 ms:=⟨r2,nc2,cm2⟩;have hka:=blk_new w (cellsS s Aa ma ca X1 y1 X2 y2 X3 y3) 40;have hba:=below_box (w:=w) (Obj.cells (cellsS s Aa ma ca X1 y1 X2 y2 X3 y3) 40);obtain⟨W,hW⟩:∃ x,w.alloc (Obj.cells (cellsS s Aa ma ca X1 y1 X2 y2 X3 y3) 40)=x:=⟨_,rfl⟩;rw[hW] at hka hba;unfold cellsS at hW;have HW:=qq hW;have HK:=qq hka;have HB:=qq hba;have HR:=qq (ra.fresh hba);have HT:=qq (TysV.fresh rt hba);have HM:=qq (rm.freshM hba);have Ht:=qq ht;have hlt:=rt.len;have m1:n1≤9223372036854775807:=Nat.le_trans rt.2.1 rt.2.2.1;have m2:n2≤9223372036854775807:=Nat.le_trans nc2 cm2;clear hW hka hba ra rt rm ht r2 nc2 cm2 w2;unfold cellsS
  go_enter Tryz.func4,Tryz.ntmps4
  go_upto_region 1 with fail;rw[HW.out]
  go_cut [50] (fun z wx=>∃ q,z=.bool q∧(q=false→PutsOk s n1 n2)∧Below W.heap.size W wx)
  case first=>
    obtain⟨x0,x1,x2,x3,x4,x5,x6,x7,x8,x9⟩:=box_cells HK.out;go_wp2_with fail;refine(great8_any s (.mk 0 0 0 0 []) _ none 0 0 W ⟨Aa,ma,ca,_,_,_,_,_,_,rfl,HR.out⟩ TysV.nil).mono ?_;rintro e w1 ⟨q1,rfl,hb1⟩;have Hb1:=qq hb1;have HK1:=qq (HK.out.below hb1 HK.out.lt);have HR1:=qq (HR.out.fresh hb1);have HT1:=qq (TysV.fresh HT.out hb1);clear x0 x1 x2 x3 x4 x5 x6 x7 x8 x9 hb1
    cases q1 with
    | true=>
      go_wp2_with fail;go_meet;exact⟨true,rfl,fun h=>Bool.noConfusion h,Hb1.out⟩
    | false=>
      by_cases g1:(n1:Int)>100
      · have e1:decide ((n1:Int)>100)=true:=by simpa using g1
        clear g1;go_wp2_with fail;go_meet;exact⟨true,rfl,fun h=>Bool.noConfusion h,Hb1.out⟩
      · have e1:decide ((n1:Int)>100)=false:=by simpa using g1
        have l1:n1≤100:=by omega
        clear g1
        by_cases g2:(n2:Int)>100
        · have e2:decide ((n2:Int)>100)=true:=by simpa using g2
          clear g2;go_wp2_with fail;go_meet;exact⟨true,rfl,fun h=>Bool.noConfusion h,Hb1.out⟩
        · have e2:decide ((n2:Int)>100)=false:=by simpa using g2
          have l2:n2≤100:=by omega
          clear g2;obtain⟨r,hr⟩:∃ r,ts.any (fun x=>decide (sizeW x>400))=r:=⟨_,rfl⟩;have Hq:=qq (containsG (fun x=>decide (sizeW x>400)) 18 #[] (fun _ _=>rfl) A1 n1 c1 ts w1 HT1.out (fun i h A' m' c' w' _ hx=>sizeP_any ts[i] A' m' c' w' hx) r hr);clear hr;go_wp2_with fail;refine Hq.out.mono ?_;rintro e w2 ⟨rfl,hb2⟩;have Hb2:=qq (Hb1.out.trans (hb2.mono Hb1.out.size));have HK2:=qq (HK1.out.below hb2 HK1.out.lt);have HR2:=qq (HR1.out.fresh hb2);clear hb2 Hq HK1 HR1 HT1
          cases r with
          | true=>
            go_wp2_with fail;go_meet;exact⟨true,rfl,fun h=>Bool.noConfusion h,Hb2.out⟩
          | false=>
            obtain⟨x0,x1,x2,x3,x4,x5,x6,x7,x8,x9⟩:=box_cells HK2.out;go_wp2_with fail;refine(schMay_any s _ w2 ⟨Aa,ma,ca,_,_,_,_,_,_,rfl,HR2.out⟩).mono ?_;rintro e w3 ⟨er,rfl,hiff,hb3⟩;have Hb3:=qq (Hb2.out.trans (hb3.mono Hb2.out.size));have HK3:=qq (HK2.out.below hb3 HK2.out.lt);have Hiff:=qq hiff;clear x0 x1 x2 x3 x4 x5 x6 x7 x8 x9 hb3 hiff HK2 HR2
            by_cases her:er=0
            · subst her
              have hok:OkSch s:=Hiff.out.1 (by simp);have Hok:=qq hok;have e3:=hok.ty;have e4:=hok.mu;obtain⟨x0,x1,x2,x3,x4,x5,x6,x7,x8,x9⟩:=box_cells HK3.out;clear hok Hiff x2 x3 x4 x5 x6 x7 x8 x9
              by_cases g3:(n1:Int)=s.types
              · have d3:((n1:Int) != s.types)=false:=by simpa using g3
                have E3:=qq (show n1=(varsT s.t).length by omega)
                clear g3 e3
                by_cases g4:(n2:Int)=s.mults
                · have d4:((n2:Int) != s.mults)=false:=by simpa using g4
                  have E4:=qq (show n2=(multsT s.t).length by omega)
                  clear g4 e4;go_wp2_with fail;go_meet;exact⟨false,rfl,fun _=>⟨Hok.out,E3.out,E4.out,l1,l2⟩,Hb3.out⟩
                · have d4:((n2:Int) != s.mults)=true:=by simpa using g4
                  clear g4 e4;go_wp2_with fail;go_meet;exact⟨true,rfl,fun h=>Bool.noConfusion h,Hb3.out⟩
              · have d3:((n1:Int) != s.types)=true:=by simpa using g3
                clear g3 e3 e4;go_wp2_with fail;go_meet;exact⟨true,rfl,fun h=>Bool.noConfusion h,Hb3.out⟩
            · have de:(er != 0)=true:=by simpa using her
              clear her Hiff;go_wp2_with fail;go_meet;exact⟨true,rfl,fun h=>Bool.noConfusion h,Hb3.out⟩
  case rest=>
    obtain⟨q,rfl,hok,hbc⟩:=hcut;have HOK:=qq hok;have HK1:=qq (HK.out.below hbc HK.out.lt);have HR1:=qq (HR.out.fresh hbc);have HT1:=qq (TysV.fresh HT.out hbc);have HM1:=qq (HM.out.freshM hbc);have hq1:=HB.out.trans (hbc.mono HB.out.size);obtain⟨w1,hw1⟩:∃ x,x=wc:=⟨_,rfl⟩;subst hw1;have Q1:=qq hq1;clear hok hbc hq1 HK HR HT HM HB HW
    cases q with
    | true=>
      go_wp2_with fail
      refine(works8_any w1 (Ht.out.below Q1.out)).mono ?_; rintro e w9 ⟨rfl,hb9⟩
      have Hb9:=qq (Q1.out.trans (hb9.mono Q1.out.size));clear hb9;go_wp2_with fail;go_ret;exact⟨rfl,Hb9.out⟩
    | false=>
      have hP:=HOK.out rfl;have HP:=qq hP;have l2:n2≤100:=hP.small.2;clear hP HOK;obtain⟨i0,hi0,hz0,hz1,hz2⟩:=info_parts muInfoP;go_wp2_with fail
      go_loopg [7,54] n2 (fun gh s7 i wr=>∃ (k:Nat) (A5:Option Addr) (c5:Nat),k≤n2∧gh=n2 - k∧s7=.slice A5 k c5∧i=.int .i64 (k:Nat)∧wr.ownsRow w1.heap.size 24 2 (.slice A5 k c5) k (muC (muL (ms.take k)))∧Below w1.heap.size w1 wr)
      case atStart=>exact⟨0,none,0,Nat.zero_le _,rfl,rfl,rfl,World.ownsRow_nil _ _ _ _,Below.refl _ _⟩
      case round=>
        obtain⟨k,A5,c5,hk,rfl,rfl,rfl,hown,hbel⟩:=hrel
        by_cases hkn:k<n2
        · have d0:decide (k<n2)=true:=by simpa using hkn
          have hk':k<ms.length:=by omega
          obtain⟨b,off,rfl,_,hc⟩:=(HM1.out.below hbel).at_ (by omega);have e0:=hc k hk'
          have hst:muC (muL (ms.take (k+1)))=muC (muL (ms.take k))++[.int .i64 0,.int .u8 ms[k]]:=by
            rw[List.take_succ_eq_append_getElem hk'];unfold muL;rw[List.map_append,muC_append];rfl
          obtain⟨y,hy⟩:∃ y,ms[k]=y:=⟨_,rfl⟩;rw[hy] at e0 hst
          have k1:(0:Int)≤(k:Int):=by omega
          have k2:(k:Int)<n2:=by omega
          have Hst:=qq hst;have Hown:=qq hown;have Hbel:=qq hbel;clear hc hst hy hown hbel
          go_wp2_with (at_builtin; refine wpList_append_one w1 wr rfl (.tmp 58) (.tmp 61) 50 rfl w1.heap.size 24 i0 _ 2 16 Tryz.underlying50 hi0 hz0 hz1 hz2 rfl (by omega) (.slice A5 k c5) k _ rfl [.int .i64 0,.int .u8 y] rfl (by intro u hu; simp at hu; rcases hu with rfl | rfl <;> rfl) rfl Hown.out (by unfold maxLen; omega) (by omega) Hbel.out Hbel.out.size ?_; intro A7 c7 w7 how7 hbelw7 hgw7 hzw7; clear hgw7)
          go_roundg (n2 - (k+1))
          case measure=>omega
          case rel=>exact⟨k+1,A7,c7,by omega,rfl,rfl,by simp,by rw[Hst.out]; exact how7,hbelw7⟩
        · have d0:decide (k<n2)=false:=by simpa using hkn
          obtain rfl:k=n2:=by omega
          have hall:ms.take k=ms:=List.take_of_length_le (by omega);rw[hall] at hown;have HMu:=qq (musV_own hown);have HK2:=qq (HK1.out.below hbel HK1.out.lt);have HR2:=qq (HR1.out.fresh hbel);have HT2:=qq (TysV.fresh HT1.out hbel);have HM2:=qq (HM1.out.freshM hbel);have Q2:=qq (Q1.out.trans (hbel.mono Q1.out.size));clear hown hbel hall HK1 HR1 HT1 HM1 Q1;obtain⟨w2,hw2⟩:∃ x,x=wr:=⟨_,rfl⟩;subst hw2;go_wp2_with fail;refine(hasM_one A2 k c2 ms 0 w2 _ HM2.out).mono ?_;rintro e w3 ⟨q,rfl,rfl⟩
          cases q with
          | true=>
            go_wp2_with fail
            refine(works8_any w3 (Ht.out.below Q2.out)).mono ?_; rintro e w9 ⟨rfl,hb9⟩
            have Hb9:=qq (Q2.out.trans (hb9.mono Q2.out.size));clear hb9;go_wp2_with fail;go_ret;exact⟨rfl,Hb9.out⟩
          | false=>
            obtain⟨x0,x1,x2,x3,x4,x5,x6,x7,x8,x9⟩:=box_cells HK2.out;obtain⟨u,hu⟩:∃ u,putT s.t ts (muL ms)=u:=⟨_,rfl⟩;obtain⟨er,her⟩:∃ e,putE s.t ts (muL ms)=e:=⟨_,rfl⟩;have Hu:=qq hu;have Her:=qq her
            have n40:n1≤1099511627776:=by have:=HP.out.small.1; omega
            have Hq:=qq (put_u hu her Aa ma ca A1 n1 c1 A5 k c5 w3 HR2.out.ty HT2.out HMu.out n40);clear hu her n40;go_wp2_with fail;refine Hq.out.mono ?_;rintro e w4 ⟨U,mu,cu,rfl,hU0,hb4⟩;have hbx:=below_box (w:=w4) (Obj.cells #[.int .u8 u.k,.int .i64 u.n,.int .i64 u.v,.int .u8 u.c,.slice U mu cu] 27);have hbU:=BT.new hU0;have hb5:=hb4.trans (hbx.mono hb4.size);have HK3:=qq (HK2.out.below hb5 HK2.out.lt);have HR3:=qq (HR2.out.fresh hb5);have HT3:=qq (TysV.fresh HT2.out hb5);have HM3:=qq (HM2.out.freshM hb5);have Q3:=qq (Q2.out.trans (hb5.mono Q2.out.size));obtain⟨w5,hw5⟩:∃ x,w4.alloc (Obj.cells #[.int .u8 u.k,.int .i64 u.n,.int .i64 u.v,.int .u8 u.c,.slice U mu cu] 27)=x:=⟨_,rfl⟩;rw[hw5] at hbU HK3 HR3 HT3 HM3 Q3;have BU:=qq hbU;have Hw5:=qq hw5;clear x0 x1 x2 x3 x4 x5 x6 x7 x8 x9 hU0 hb4 hbx hbU hb5 hw5 Hq HMu HK2 HR2 HT2 HM2
            by_cases g5:er=0
            · have d5:(er != 0)=false:=by simpa using g5
              have Hlaw:=qq (puts_law HP.out.ok (types:=ts) (ms:=ms) (by rw[hlt]; exact HP.out.ts) (by rw[ln2]; exact HP.out.ms) (Her.out.trans g5) Hu.out)
              clear g5;obtain⟨b0,b1,b2,b3,b4⟩:=BU.out.five;obtain⟨x0,x1,x2,x3,x4,x5,x6,x7,x8,x9⟩:=box_cells HK3.out;go_upto_region 12 with fail;rw[Hw5.out];go_wp2_with fail;refine(instG_any s u _ U mu cu w5 ⟨Aa,ma,ca,_,_,_,_,_,_,rfl,HR3.out⟩ BU.out.2).mono ?_;rintro e w6 ⟨Y1,o1,z1,us,Y2,o2,z2,vs,ok,rfl,hus,hvs,hin,hb6⟩;have hok:ok=true↔LetsA (multsT s.t).length s.tab ms:=hin.iff.trans ⟨fun h=>Hlaw.out.2.1.1 h.2,fun h=>⟨HP.out.ok,Hlaw.out.2.1.2 h⟩⟩;have HK4:=qq (HK3.out.below hb6 HK3.out.lt);have HR4:=qq (HR3.out.fresh hb6);have HT4:=qq (TysV.fresh HT3.out hb6);have HM4:=qq (HM3.out.freshM hb6);have Q4:=qq (Q3.out.trans (hb6.mono Q3.out.size));have Hus:=qq hus;have Hvs:=qq hvs;have Hin:=qq hin;have Hok:=qq hok;clear b0 b1 b2 b3 b4 x0 x1 x2 x3 x4 x5 x6 x7 x8 x9 hus hvs hin hb6 hok HK3 HR3 HT3 HM3 Q3 BU;obtain⟨x0,x1,x2,x3,x4,x5,x6,x7,x8,x9⟩:=box_cells HK4.out;go_wp2_with fail;refine(tabLets_any HP.out.ok.tab _ A2 k c2 ms w6 HR4.out.tab HM4.out).mono ?_;rintro e w7 ⟨b,rfl,hb,hb7⟩;obtain rfl:b=ok:=Bool.eq_iff_iff.2 (hb.trans Hok.out.symm);have Hus5:=qq (TysV.fresh Hus.out hb7);have Hvs5:=qq (Hvs.out.freshM hb7);have HT5:=qq (TysV.fresh HT4.out hb7);have HM5:=qq (HM4.out.freshM hb7);have Q5:=qq (Q4.out.trans (hb7.mono Q4.out.size));clear x0 x1 x2 x3 x4 x5 x6 x7 x8 x9 hb hb7 HK4 HR4 HT4 HM4 Q4 Hus Hvs
              cases b with
              | false=>
                go_wp2_with fail
                refine(works8_any w7 (Ht.out.below Q5.out)).mono ?_; rintro e w9 ⟨rfl,hb9⟩
                have Hb9:=qq (Q5.out.trans (hb9.mono Q5.out.size));clear hb9;go_wp2_with fail;go_ret;exact⟨rfl,Hb9.out⟩
              | true=>
                have hy:=Hin.out.yes rfl;rw[Hlaw.out.2.2.1,Hlaw.out.2.2.2] at hy;obtain⟨rfl,rfl⟩:=hy
                have Hq:=qq (equalT_any (nodes (.mk 0 0 0 0 us)) (same_go _) us us (fun i h=>by have:=nodes_get (t:=.mk 0 0 0 0 us) h; exact Nat.le_of_lt this) Y1 o1 z1 A1 n1 c1 w7 Hus5.out HT5.out true ((sameL_iff us us).2 rfl))
                go_wp2_with fail;refine Hq.out.mono ?_;rintro e w8 ⟨rfl,hb8⟩;have Hvs6:=qq (Hvs5.out.freshM hb8);have HM6:=qq (HM5.out.freshM hb8);have Q6:=qq (Q5.out.trans (hb8.mono Q5.out.size));clear hb8 Hq;go_wp2_with fail;refine(equalM_any Y2 o2 z2 vs A2 k c2 vs w8 Hvs6.out HM6.out).mono ?_;rintro e w9 ⟨rfl,hb9⟩;have Q7:=qq (Q6.out.trans (hb9.mono Q6.out.size))
                have dv:(vs==vs)=true:=by simp
                clear hb9;rw[dv];go_wp2_with fail
                refine(works8_any w9 (Ht.out.below Q7.out)).mono ?_; rintro e w10 ⟨rfl,hb10⟩
                have Hb10:=qq (Q7.out.trans (hb10.mono Q7.out.size));clear hb10;go_wp2_with fail;go_ret;exact⟨rfl,Hb10.out⟩
            · have d5:(er != 0)=true:=by simpa using g5
              clear g5;go_upto_region 12 with fail;rw[Hw5.out];go_wp2_with fail
              refine(works8_any w5 (Ht.out.below Q3.out)).mono ?_; rintro e w9 ⟨rfl,hb9⟩
              have Hb9:=qq (Q3.out.trans (hb9.mono Q3.out.size));clear hb9;go_wp2_with fail;go_ret;exact⟨rfl,Hb9.out⟩
namespace schemePuts
theorem lifted (os:Os) (started:os.Started) (H:Type) (enc:TypeId × Value→H):
    ReturnsInHanded {} Tryz.checked os 4 .any (fun w args=>(Rows.schemePutsSpec.pre enc Tryz.prog Tryz.f4 [] false w args∧laidMetH Tryz.prog laid3 w)∧sizedMet enc Tryz.prog Tryz.f4 (OpenSpec.ofChange Rows.schemePutsSpec) false w args) (Rows.schemePutsSpec.post enc Tryz.prog Tryz.f4 false true false false):=by
  refine returnsInHanded_of_change_and (C:=Tryz.checked) (X:=fun w _=>laidMetH Tryz.prog laid3 w) (fun _ _ _ hh h=>h.of_heap hh) own started (by kernel_rfl) Tryz.func4
    (ChangeSpec.witness_shaped (enc:=enc) (C:=Tryz.checked) (os:=os) (X:=fun w _=>laidMetH Tryz.prog laid3 w) false (World.doorLaid Tryz.prog 400 os) #[.agg #[.int .i64 0,.int .i64 0,.int .u8 0,.int .i64 0,.int .i64 0,.int .u8 0,.slice none 0 0,.slice none 0 0,.slice none 0 0,.slice none 0 0],.slice none 0 0,.slice none 0 0] 8 rfl (World.shaped_of_RefB (by kernel_rfl) (by kernel_rfl)) (by kernel_rfl) (by kernel_rfl) (by kernel_rfl) (door_met os _)) ?_
  intro W base args ds gs before hval0 hW hcnd hsz0 hL _
  have hsz:(DataW.weightsEach Tryz.prog (Tryz.f4.params.toList++Rows.schemePutsSpec.plain.varTypes Tryz.prog) (ds++gs)).all (· ≤ reachBytes)=true:=hsz0
  have hval:∀ (j:Nat) t v,Tryz.f4.params[j]?=some t→args[j]?=some v→Value.okWide Tryz.prog W .any base t v:=hval0;have hW':=hW;obtain⟨p,q,hA0,hV,rfl,hfz,hnd⟩:=hW;have hA:DataW.TrodAll enc Tryz.prog W 0 (fun _=>true) true Tryz.f4.params.toList args.toList ds p:=hA0;rw[Tryz.params4] at hA hval hsz;obtain⟨v0,vs0,d0,ds0,p0,q0,hargs,rfl,rfl,h0,r_0⟩:=trodAll_cons hA;obtain⟨v1,vs1,d1,ds1,p1,q1,rfl,rfl,rfl,h1,r_1⟩:=trodAll_cons r_0;obtain⟨v2,vs2,d2,ds2,p2,q2,rfl,rfl,rfl,h2,r_2⟩:=trodAll_cons r_1;obtain⟨rfl,rfl,rfl⟩:=trodAll_nil r_2
  obtain rfl:args=#[v0,v1,v2]:=by cases args; simp_all
  obtain⟨rfl,rfl⟩:=trodVars_none hV;have w0:=rd_sch (hval 0 40 v0 rfl rfl) h0 (light_of hsz (j:=0) rfl rfl);have w1:=rd_tys (hval 1 25 v1 rfl rfl) h1;obtain⟨A2,n2,c2,l2,rfl,r2,nc2,cm2,ln2,w2⟩:=rd_ints Tryz.underlying35 Tryz.underlying22 (by kernel_rfl) (hval 2 35 v2 rfl rfl) h2;refine(walk_schemePuts (w:=W) (tab_of_laid hL) v0 w0 v1 w1 A2 n2 c2 l2 r2 nc2 cm2 ln2 w2).mono fun e W' ⟨he,bel⟩=>?_;subst he;exact⟨_,rfl,law_post laidOut (by kernel_rfl) rfl rfl Tryz.underlying4 hW' rfl rfl rfl bel⟩
theorem over:Rows.schemePutsRow.holds Tryz.pinned (OpenSpec.ofChange Rows.schemePutsSpec):=
  OpenClaim.holds_of_wide 4 Tryz.f4 rfl rfl rfl rfl rfl rfl rfl ⟨rfl,rfl,rfl,rfl,rfl⟩ rfl rfl rfl rfl rfl (by kernel_rfl) Tryz.func4 (by kernel_rfl)
    (of_decide_eq_true (by kernel_rfl)) (by unfold Func.isWrapper; first | (rw[if_pos (by decide +kernel)]; kernel_rfl) | (rw[if_neg (by decide +kernel)]; exact⟨rfl,rfl⟩))
    (fun os started H enc _=>lifted os started H enc)
theorem card:Rows.SchemePutsCardSaid:=
  Claim7.holds_tied_plain_at .later [] [.data,.data,.data] true Rows.schemePutsCard.stood.harness false
    over (fun _ h=>by cases h) (by kernel_rfl) (fun _ h=>by cases h) schemePuts_row_tie rfl ⟨rfl,rfl⟩ (by kernel_rfl) rfl
    (fun f fn hf hfn=>by
      obtain rfl:f=4:=Option.some.inj ((show Tryz.prog.funcNamed "usufruct/usufructlaw08.SchemePuts"=some 4 by kernel_rfl).symm.trans hf) |>.symm
      obtain rfl:fn=Tryz.f4:=(Option.some.inj (Tryz.func4.symm.trans hfn)).symm
      exact⟨by kernel_rfl,fun j t ht=>by
        rw[Tryz.params4] at ht
        have hm:t∈[40,25,35]:=by simpa using Array.mem_of_getElem? ht
        have hall:([40,25,35].all fun u=>!Tryz.prog.wantsStandIn u)=true:=by kernel_rfl
        exact(show Tryz.prog.wantsStandIn t=false by simpa using List.all_eq_true.1 hall t hm)⟩)
    (by kernel_rfl)
theorem proved:Rows.SchemePutsCardSaid:=card
#print axioms proved
end schemePuts
end Go.Proofs.YtdmakpmbknindaaGreatDoor
