import Derived.Test.YtdmakpmbknindaaGreatDoorR0
import Derived.Test.YtdmakpmbknindaaGreatDoorM16
set_option linter.unusedVariables false
set_option linter.unusedSimpArgs false
set_option maxHeartbeats 4000000
set_option maxRecDepth 100000
namespace Go.Proofs.YtdmakpmbknindaaGreatDoor
open Go.RowKit
def RefSol (xs:List IneqD) (low:List Int) (a:List Int) (ok:Bool):Prop:=
 (ok=true→LeastSolL xs low a)∧(ok=false→a=[]∧∀ asg,¬ SolvL xs low asg)
def RSPost (xs:List IneqD) (low:List Int) (w:World) (e:Ending) (w':World):Prop:=
 ∃ A m c a ok,e=.returned (.tuple #[.slice A m c,.bool ok])∧RdI .u8 w' w'.heap.size A m c a∧RefSol xs low a ok∧Below w.heap.size w w'
theorem refSolve_any (n:Nat) (hn:n≤1048576) (Aw:Option Addr) (nw cw:Nat) (low:List Int) (Al:Option Addr) (nl cl:Nat) (xs:List IneqD) (w:World) (hlw:RdI .u8 w w.heap.size Aw nw cw low) (hx:IneqsV w w.heap.size Al nl cl xs) (hok:OkS (n:Int) low xs):
 Calls Tryz.prog 51 #[.int .i64 n,.slice Aw nw cw,.slice Al nl cl] w (RSPost xs (low0 n low) w):=by
 obtain⟨i0,hi0,hz0,hz1,hz2⟩:=info_parts multInfo;have hll:=hlw.len;have hxl:=hx.len
 have n63:n≤9223372036854775807:=by omega
 have nw63:nw≤9223372036854775807:=Nat.le_trans hlw.2.1 hlw.2.2;have nl63:nl≤9223372036854775807:=Nat.le_trans hx.2.1 hx.2.2.1;have Hlw:=qq hlw;have Hx:=qq hx;have Hok:=qq hok;have Hl0:=qq (low0_len hok);have Hrg:=qq (low0_rng hok);clear hlw hx hok
 go_enter Tryz.func51,Tryz.ntmps51
 go_wp2_with fail
 go_loopg [8,9] n (fun gh s i wr=>∃ (k:Nat) (A:Option Addr) (c:Nat),k≤n∧gh=n - k∧i=.int .i64 (k:Nat)∧s=.slice A k c∧wr.ownsRow w.heap.size 22 1 (.slice A k c) k (((low0 n low).take k).map (Value.int .u8))∧Below w.heap.size w wr)
 case atStart=>exact⟨0,none,0,Nat.zero_le _,rfl,rfl,rfl,by simpa using World.ownsRow_nil _ _ _ _,Below.refl _ _⟩
 case round=>
  obtain⟨k,A,c,hk,rfl,rfl,rfl,hown,hbel⟩:=hrel;have Hown:=qq hown;have Hbel:=qq hbel
  by_cases hkn:k<n
  · have hk0:k<(low0 n low).length:=by rw[Hl0.out]; exact hkn
    have i1:(0:Int)≤(k:Int):=by omega
    have i3:(k:Int)<n:=by omega
    have htk:(low0 n low).take (k+1)=(low0 n low).take k++[(low0 n low)[k]]:=List.take_succ_eq_append_getElem hk0;have Htk:=qq htk
    by_cases h5:nw=0
    · have hlk:(low0 n low)[k]=1:=by
       have e:low0 (n:Int) low=List.replicate n 1:=by unfold low0; rw[if_pos (List.eq_nil_of_length_eq_zero (by omega))]; simp
       have h:∀ z∈low0 (n:Int) low,z=1:=by rw[e]; exact fun z hz=>List.eq_of_mem_replicate hz
       exact h _ (List.getElem_mem hk0)
      have Hlk:=qq hlk;subst h5;clear hlk htk hown hbel;have hb9:=Hbel.out.alloc Hbel.out.size (Obj.cells #[.int .u8 (1)] 22)
      go_wp2_with (at_builtin; refine wpList_append_rd _ rfl (.tmp 28) (.tmp 29) 35 rfl w.heap.size 22 i0 _ 1 1 Tryz.underlying35 hi0 hz0 hz1 hz2 rfl (by omega) (.slice A k c) k (((low0 n low).take k).map (Value.int .u8)) rfl (Hown.out.alloc _) (wr.heap.size+1) (some ⟨wr.heap.size,0,none⟩) 1 1 [.int .u8 (1)] rfl (rd_new1 _ _ _) (by intro u hu; simp at hu; subst hu; rfl) (by unfold maxLen; omega) (by omega) hb9.size ?_; intro v7 w7 ho7 hg7 hat7; obtain⟨A7,c7,rfl⟩:=ownsRow_form ho7)
      have hb7:=hb9.grown hg7 hb9.size (fun b' hb'=>(ownsRow_lt (Hown.out.alloc (Obj.cells #[.int .u8 (1)] 22)) hb').1);go_roundg (n - (k+1))
      case measure=>omega
      case rel=>exact⟨k+1,A7,c7,by omega,rfl,by simp,rfl,by rw[Htk.out,Hlk.out,List.map_append]; exact ho7,hb7⟩
    · have hlow:low0 (n:Int) low=low:=by unfold low0; rw[if_neg (fun e=>h5 (by rw[← hll,e]; rfl))]
      have hkl:k<low.length:=by rw[← hlow]; exact hk0
      have hnw:nw=n:=by rw[← hll,← hlow]; exact Hl0.out
      obtain⟨b,o,q,hb,hc⟩:=(Hlw.out.below hbel).at_ (by omega);subst q;have e0:=hc k hkl;obtain⟨z,hz⟩:∃ z,low[k]=z:=⟨_,rfl⟩
      have Hlk:Hid ((low0 n low)[k]=z):=qq (by rw[← hz]; congr 1)
      rw[hz] at e0
      have i2:(k:Int)<nw:=by omega
      have d4':0<nw:=by omega
      clear hz hc htk hown hbel hlow h5 hnw;have hb9:=Hbel.out.alloc Hbel.out.size (Obj.cells #[.int .u8 (z)] 22)
      go_wp2_with (at_builtin; refine wpList_append_rd _ rfl (.tmp 21) (.tmp 26) 35 rfl w.heap.size 22 i0 _ 1 1 Tryz.underlying35 hi0 hz0 hz1 hz2 rfl (by omega) (.slice A k c) k (((low0 n low).take k).map (Value.int .u8)) rfl (Hown.out.alloc _) (wr.heap.size+1) (some ⟨wr.heap.size,0,none⟩) 1 1 [.int .u8 (z)] rfl (rd_new1 _ _ _) (by intro u hu; simp at hu; subst hu; rfl) (by unfold maxLen; omega) (by omega) hb9.size ?_; intro v7 w7 ho7 hg7 hat7; obtain⟨A7,c7,rfl⟩:=ownsRow_form ho7)
      have hb7:=hb9.grown hg7 hb9.size (fun b' hb'=>(ownsRow_lt (Hown.out.alloc (Obj.cells #[.int .u8 (z)] 22)) hb').1);go_roundg (n - (k+1))
      case measure=>omega
      case rel=>exact⟨k+1,A7,c7,by omega,rfl,by simp,rfl,by rw[Htk.out,Hlk.out,List.map_append]; exact ho7,hb7⟩
  · have hkn':k=n:=by omega
    subst hkn';have hinv:=InvL.start xs (low0 k low) (fun v hv=>(Hrg.out _ (getD_mem hv)).2)
    have hown0:wr.ownsRow w.heap.size 22 1 (.slice A k c) k ((low0 k low).map (Value.int .u8)):=by
     have:=Hown.out
     rw[List.take_of_length_le (by rw[Hl0.out]; exact Nat.le_refl _)] at this
     exact this
    have Hinv:=qq hinv;have Hown0:=qq hown0;have Hov:Hid (∀ x∈xs,OverL k x):=qq fun x hx=>OverL.of_may (Hok.out.may x hx);clear hown hbel hinv hown0 Hown hkn;go_wp2_with fail
    go_loopg [10] (slackL (low0 k low)) (fun gh _ wr=>∃ is why,gh=slackL is∧InvL xs (low0 k low) is why∧wr.ownsRow w.heap.size 22 1 (.slice A k c) k (is.map (Value.int .u8))∧Below w.heap.size w wr)
    case atStart=>exact⟨_,_,rfl,Hinv.out,Hown0.out,Hbel.out⟩
    case round=>
     obtain⟨is0,why0,rfl,hinv0,hown1,hbel1⟩:=hrel;have Hinv0:=qq hinv0;have Hown1:=qq hown1;have Hbel1:=qq hbel1;clear hinv0 hown1 hbel1;go_wp2_with fail
     go_loopg [10,11] nl (fun gh more i wr=>∃ (j:Nat) (is why:List Int) (b:Bool),j≤nl∧gh=nl - j∧i=.int .i64 (j:Nat)∧more=.bool b∧InvL xs (low0 k low) is why∧wr.ownsRow w.heap.size 22 1 (.slice A k c) k (is.map (Value.int .u8))∧Below w.heap.size w wr∧(b=false→is=is0∧∀ (i:Nat) x,i<j→xs[i]?=some x→holdL is x)∧(b=true→slackL is+1≤slackL is0)∧slackL is≤slackL is0)
     case atStart=>exact⟨0,is0,why0,false,Nat.zero_le _,rfl,rfl,rfl,Hinv0.out,Hown1.out,Hbel1.out,fun _=>⟨rfl,fun i x h=>absurd h (by omega)⟩,fun h=>Bool.noConfusion h,Nat.le_refl _⟩
     case round=>
      obtain⟨j,is,why,b,hj,rfl,rfl,rfl,hinv,hown2,hbel2,hb0,hb1,hsl⟩:=hrel;have Hinv2:=qq hinv;have Hown2:=qq hown2;have Hbel2:=qq hbel2;have Hb0:=qq hb0;have Hb1:=qq hb1;have Hsl:=qq hsl
      have hisl:is.length=k:=by rw[hinv.il]; exact Hl0.out
      have Hisl:=qq hisl
      have hrng:∀ v,v<k→1≤is.getD v 0∧is.getD v 0≤3:=fun v hv=>by
       have h1:=hinv.le v (by rw[Hl0.out]; exact hv)
       have h2:=hinv.top v (by rw[Hl0.out]; exact hv)
       have h3:=Hrg.out _ (getD_mem (l:=low0 k low) (by rw[Hl0.out]; exact hv))
       omega
      have Hrng:=qq hrng;clear hinv hown2 hb0 hb1 hsl hrng
      by_cases hjl:j<nl
      · have hjx:j<xs.length:=by omega
        obtain⟨bl,offl,q,hbl,hcell⟩:=(Hx.out.below hbel2).at_ (by omega);subst q;obtain⟨e0,e1,e2,e3⟩:=hcell j hjx;have hxi:xs[j]?=some xs[j]:=qj hjx;have hov:=Hov.out _ (List.getElem_mem hjx);generalize xs[j]=x at e0 e1 e2 e3 hxi hov;obtain⟨hbad,hiff⟩:=holdsQ_iff hov hisl Hrng.out;have hone:=refOne_any x.lv x.lc x.c x.r A k c is wr wr.heap.size (RdI.of_own Hown2.out) (Nat.le_refl _) hbad (fun h=>(hov.lv h).1);have Hone:=qq hone;have Hxi:=qq hxi;have Hovx:=qq hov;have Hiff:=qq hiff
        have i1:(0:Int)≤(j:Int):=by omega
        have i2:(j:Int)<nl:=by omega
        clear hcell hxi hov hbad hiff hone hbel2
        cases hh:holdsQ is x.lv x.lc x.c x.r with
        | true=>
          have Hh:=qq hh;clear hh;go_wp2_with fail;refine Hone.out.mono ?_;rintro e w3 ⟨rfl,hb3⟩;rw[Hh.out];have Hb9:=qq (Hbel2.out.trans (hb3.mono Hbel2.out.size));have Ho9:=qq (ownsRow_beyond Hown2.out hb3);clear hb3;go_wp2_with fail;go_roundg (nl - (j+1))
          case measure=>omega
          case rel=>
           refine⟨j+1,is,why,b,by omega,rfl,by simp,rfl,Hinv2.out,Ho9.out,Hb9.out,fun h=>⟨(Hb0.out h).1,fun i y hi hy=>?_⟩,Hb1.out,Hsl.out⟩
           rcases Nat.lt_or_ge i j with h' | h'
           · exact(Hb0.out h).2 i y h' hy
           · have:i=j:=by omega
             subst this;rw[Hxi.out] at hy
             cases hy
             exact Hiff.out.1 Hh.out
        | false=>
          have Hh:=qq hh
          have hnh:¬ holdL is x:=fun h=>by have:=Hiff.out.2 h; rw[hh] at this; cases this
          have Hnh:=qq hnh;clear hh hnh
          by_cases hr0:x.r<0
          · have f1:decide (x.r<0)=true:=by simp; omega
            have hR:RefSol xs (low0 k low) [] false:=⟨fun h=>Bool.noConfusion h,fun _=>⟨rfl,fun asg ha=>Hinv2.out.clash (List.mem_of_getElem? Hxi.out) (by rw[Hl0.out]; exact Hovx.out) hr0 (by have:=Hnh.out; unfold holdL at this; rw[if_neg (by omega)] at this; omega) asg ha⟩⟩
            have HR:=qq hR;clear hR hr0;go_wp2_with fail;refine Hone.out.mono ?_;rintro e w3 ⟨rfl,hb3⟩;rw[Hh.out];have Hb9:=qq (Hbel2.out.trans (hb3.mono Hbel2.out.size));obtain⟨_,_,q,_,hcell⟩:=(Hx.out.below Hb9.out).at_ (by omega)
            cases q
            obtain⟨_,_,_,e3⟩:=hcell j hjx;rw[(List.getElem?_eq_some_iff.1 Hxi.out).2] at e3;clear hb3 hcell;go_wp2_with fail;exact bodyPost_ret (v:=.tuple #[.slice none 0 0,.bool false]) (by simp[results,Tryz.results51,go_sem]) rfl ⟨_,_,_,_,_,rfl,RdI.nil,HR.out,Hb9.out⟩
          · have f1:decide (x.r<0)=false:=by simp; omega
            have hb:raiseB is x=true:=(raiseB_iff _ _).2 ⟨by omega,by have:=Hnh.out; unfold holdL at this; rw[if_pos (by omega)] at this; omega⟩
            have hinv9:=Hinv2.out.raise Hxi.out (by rw[Hl0.out]; exact Hovx.out) hb
            have hsl9:=slackL_raise Hovx.out hisl (fun v hv=>(Hrng.out v hv).2) hb
            obtain⟨g,hA⟩:∃ g,A=some ⟨g,0,none⟩:=by
             rcases Hown2.out.2 with ⟨_,hk0⟩ | ⟨g',_,_,e,_⟩
             · have:=Hovx.out.r; omega
             · cases e; exact⟨g',rfl⟩
            subst hA;obtain⟨lv,lc,xc,xr⟩:=x;dsimp only at e0 e1 e2 e3 hr0 f1 hinv9 hsl9;obtain⟨kr,hkr⟩:∃ kr:Nat,xr=(kr:Int):=⟨xr.toNat,(Int.toNat_of_nonneg (by omega)).symm⟩;subst hkr
            have hkrk:kr<k:=by have:=Hovx.out.r; dsimp only at this; omega
            rw[Int.toNat_natCast] at hinv9 hsl9
            by_cases h0:lc=0
            · subst h0
              obtain⟨v0,v1⟩:=Hovx.out.lv rfl;dsimp only at v0 v1;obtain⟨lvn,hlv⟩:∃ m:Nat,lv=(m:Int):=⟨lv.toNat,(Int.toNat_of_nonneg v0).symm⟩;subst hlv
              have hlvk:lvn<k:=by omega
              have hL:leftL is ⟨(lvn:Int),0,xc,(kr:Int)⟩=is[lvn]'(by omega):=by
               unfold leftL;dsimp only;rw[if_pos rfl,Int.toNat_natCast,List.getD_eq_getElem?_getD,qj (by omega)];rfl
              rw[hL] at hinv9 hsl9;clear hr0 hL;have Hinv9:=qq hinv9;have Hsl9:=qq hsl9;clear hinv9 hsl9 hb;go_wp2_with fail;refine Hone.out.mono ?_;rintro e w3 ⟨rfl,hb3⟩;rw[Hh.out];have hb9:=Hbel2.out.trans (hb3.mono Hbel2.out.size);have ho9:=ownsRow_beyond Hown2.out hb3;obtain⟨_,_,q,_,hcell⟩:=(Hx.out.below hb9).at_ (by omega)
              cases q
              obtain⟨e0,e1,e2,e3⟩:=hcell j hjx;rw[(List.getElem?_eq_some_iff.1 Hxi.out).2] at e0 e1 e2 e3;obtain⟨_,_,q,_,hci⟩:=(RdI.of_own ho9).at_ (by omega)
              cases q
              simp only[Nat.zero_add] at hci
              have k1:(0:Int)≤(kr:Int):=by omega
              have k2:(kr:Int)<k:=by omega
              have k3:=hci kr (by omega);have k4:=ho9.frozenAt kr;have k5:=hci lvn (by omega)
              have j1:(0:Int)≤(lvn:Int):=by omega
              have j2:(lvn:Int)<k:=by omega
              clear hci hcell hb3;have hst:=(ho9.stored kr (.int .u8 (is[lvn]))).1;rw[← List.map_set] at hst
              have hbs:=hb9.setCell (p:=⟨g,kr,none⟩) (show w.heap.size≤g from(ownsRow_lt ho9 (b:=g) rfl).1) (.int .u8 (is[lvn]))
              have Hst:=qq hst;have Hbs:=qq hbs;clear hst hbs ho9 hb9;go_wp2_with fail;go_roundg (nl - (j+1))
              case measure=>omega
              case rel=>exact⟨j+1,_,_,true,by omega,rfl,by simp,rfl,Hinv9.out,Hst.out,Hbs.out,fun h=>Bool.noConfusion h,fun _=>by have:=Hsl9.out; have:=Hsl.out; omega,by have:=Hsl9.out; have:=Hsl.out; omega⟩
            · have hL:leftL is ⟨lv,lc,xc,(kr:Int)⟩=lc:=by
               unfold leftL;dsimp only;rw[if_neg h0]
              rw[hL] at hinv9 hsl9
              have g0:(lc==0)=false:=by simp[h0]
              clear hr0 hL h0;have Hinv9:=qq hinv9;have Hsl9:=qq hsl9;clear hinv9 hsl9 hb;go_wp2_with fail;refine Hone.out.mono ?_;rintro e w3 ⟨rfl,hb3⟩;rw[Hh.out];have hb9:=Hbel2.out.trans (hb3.mono Hbel2.out.size);have ho9:=ownsRow_beyond Hown2.out hb3;obtain⟨_,_,q,_,hcell⟩:=(Hx.out.below hb9).at_ (by omega)
              cases q
              obtain⟨e0,e1,e2,e3⟩:=hcell j hjx;rw[(List.getElem?_eq_some_iff.1 Hxi.out).2] at e0 e1 e2 e3;obtain⟨_,_,q,_,hci⟩:=(RdI.of_own ho9).at_ (by omega)
              cases q
              simp only[Nat.zero_add] at hci
              have k1:(0:Int)≤(kr:Int):=by omega
              have k2:(kr:Int)<k:=by omega
              have k3:=hci kr (by omega);have k4:=ho9.frozenAt kr;clear hci hcell hb3;have hst:=(ho9.stored kr (.int .u8 (lc))).1;rw[← List.map_set] at hst
              have hbs:=hb9.setCell (p:=⟨g,kr,none⟩) (show w.heap.size≤g from(ownsRow_lt ho9 (b:=g) rfl).1) (.int .u8 (lc))
              have Hst:=qq hst;have Hbs:=qq hbs;clear hst hbs ho9 hb9;go_wp2_with fail;go_roundg (nl - (j+1))
              case measure=>omega
              case rel=>exact⟨j+1,_,_,true,by omega,rfl,by simp,rfl,Hinv9.out,Hst.out,Hbs.out,fun h=>Bool.noConfusion h,fun _=>by have:=Hsl9.out; have:=Hsl.out; omega,by have:=Hsl9.out; have:=Hsl.out; omega⟩
      · cases b with
        | false=>
          have hR:RefSol xs (low0 k low) is true:=by
           obtain⟨_,h2⟩:=Hb0.out rfl
           have hall:∀ x∈xs,holdL is x:=fun x hx=>by
            obtain⟨i,hi⟩:=List.getElem?_of_mem hx
            exact h2 i x (by have:=(List.getElem?_eq_some_iff.1 hi).1; omega) hi
           exact⟨fun _=>⟨⟨Hinv2.out.il,Hinv2.out.le,hall⟩,fun asg ha=>Hinv2.out.least asg ha.sol⟩,fun h=>Bool.noConfusion h⟩
          have HR:=qq hR;have Hr:=qq (RdI.of_own Hown2.out);clear hR hbel2;go_wp2_with fail;exact bodyPost_ret (v:=.tuple #[.slice A k c,.bool true]) (by simp[results,Tryz.results51,go_sem]) rfl ⟨_,_,_,_,_,rfl,Hr.out,HR.out,Hbel2.out⟩
        | true=>
          clear hbel2;go_wp2_with fail;go_roundg (slackL is)
          case measure=>have:=Hb1.out (by first | rfl | trivial); omega
          case rel=>exact⟨is,why,rfl,Hinv2.out,Hown2.out,Hbel2.out⟩
theorem sameRow_any (A:Option Addr) (n c:Nat) (us:List Int) (A':Option Addr) (n' c':Nat) (us':List Int) (w:World) (h:RdI .u8 w w.heap.size A n c us) (h':RdI .u8 w w.heap.size A' n' c' us') {r:Bool} (hr:(us==us')=r):
 Calls Tryz.prog 117 #[.slice A n c,.slice A' n' c'] w fun e w'=>e=.returned (.bool r)∧Below w.heap.size w w':=by
 have Hq:=qq (equalM_any A n c us A' n' c' us' w h h');rw[hr] at Hq;clear h h' hr
 go_enter Tryz.func117,Tryz.ntmps117
 go_wp2_with fail
 refine Hq.out.mono ?_; rintro e w1 ⟨rfl,hb⟩
 go_wp2_with fail;go_ret;exact⟨rfl,hb⟩
theorem sameRows_any (A:Option Addr) (n c:Nat) (ls:List (List Int)) (A':Option Addr) (n' c':Nat) (ls':List (List Int)) (w:World) (h:MssV w w.heap.size A n c ls) (h':MssV w w.heap.size A' n' c' ls') {r:Bool} (hr:decide (ls=ls')=r):
 Calls Tryz.prog 116 #[.slice A n c,.slice A' n' c',.func (.func 117) #[] #[]] w fun e w'=>e=.returned (.bool r)∧Below w.heap.size w w':=by
 have hlen:=h.1;have hlen':=h'.1;have m63:n≤9223372036854775807:=Nat.le_trans h.2.1 h.2.2.1;have m63':n'≤9223372036854775807:=Nat.le_trans h'.2.1 h'.2.2.1;have H:=qq h;have H':=qq h';have Hr:=qq hr;clear h h' hr
 by_cases hnn:n=n'
 · subst hnn
   have dn:((n:Int) != (n:Int))=false:=by simp
   go_enter Tryz.func116,Tryz.ntmps116
   go_wp2_with fail
   go_loopg [17] n (fun gh i wr=>∃ k:Nat,k≤n∧gh=n - k∧i=.int .i64 k∧Below w.heap.size w wr∧∀ j (h:j<ls.length) (h':j<ls'.length),j<k→ls[j]=ls'[j])
   case atStart=>exact⟨0,Nat.zero_le _,rfl,rfl,Below.refl _ _,fun j _ _ hj=>absurd hj (by omega)⟩
   case round=>
    obtain⟨k,hk,rfl,rfl,hbel,hb⟩:=hrel
    by_cases hkm:k<n
    · have d0:decide (k<n)=true:=by simpa using hkm
      have hk1:k<ls.length:=by omega
      have hk2:k<ls'.length:=by omega
      obtain⟨b,off,rfl,hbb,hc⟩:=(H.out.fresh hbel).2.2.2 (by omega);obtain⟨b',off',rfl,hbb',hc'⟩:=(H'.out.fresh hbel).2.2.2 (by omega);obtain⟨Ax,cx,e0,hx⟩:=hc k hk1;obtain⟨Ay,cy,e1,hy⟩:=hc' k hk2;obtain⟨q,hq⟩:∃ q,(ls[k]==ls'[k])=q:=⟨_,rfl⟩;have Hq:=qq (sameRow_any Ax _ cx ls[k] Ay _ cy ls'[k] wr hx hy hq);have Hbel:=qq hbel;have Hb:=qq hb;have hqe:=hq
      have k1:(0:Int)≤(k:Int):=by omega
      have k2:(k:Int)<n:=by omega
      obtain⟨x,hxx⟩:∃ x,ls[k].length=x:=⟨_,rfl⟩;obtain⟨y,hyy⟩:∃ y,ls'[k].length=y:=⟨_,rfl⟩;rw[hxx] at e0 Hq;rw[hyy] at e1 Hq;have Hqe:=qq hqe;clear hc hc' hx hy hq hqe hbel hb hxx hyy
      cases q with
      | false=>
        have HR:Hid (false=r):=qq (by
         rw[← Hr.out,eq_comm,decide_eq_false_iff_not];intro e;subst e;have:=Hqe.out
         simp at this)
        go_wp2_with fail
        refine Hq.out.mono ?_; rintro e w1 ⟨rfl,hb1⟩
        go_wp2_with fail;go_ret;exact⟨ret_bool HR.out,Hbel.out.trans (hb1.mono Hbel.out.size)⟩
      | true=>
        go_wp2_with fail
        refine Hq.out.mono ?_; rintro e w1 ⟨rfl,hb1⟩
        go_wp2_with fail;go_roundg (n - (k+1))
        case measure=>omega
        case rel=>exact⟨k+1,by omega,rfl,by go_num,Hbel.out.trans (hb1.mono Hbel.out.size),fun j h1 h2 hj=>by
         rcases Nat.lt_or_ge j k with h | h
         · exact Hb.out j h1 h2 h
         · obtain rfl:j=k:=by omega
           simpa using Hqe.out⟩
    · have d0:decide (k<n)=false:=by simpa using hkm
      have HR:Hid (true=r):=qq (by
       rw[← Hr.out,eq_comm,decide_eq_true_iff]
       exact List.ext_getElem (by omega) fun j h1 h2=>hb j h1 h2 (by omega))
      have Hbel:=qq hbel;clear hb hbel;go_wp2_with fail;go_ret;exact⟨ret_bool HR.out,Hbel.out⟩
 · have dn:((n:Int) != (n':Int))=true:=by simp; omega
   have HR:Hid (false=r):=qq (by
    rw[← Hr.out,eq_comm,decide_eq_false_iff_not];intro e;subst e
    omega)
   go_enter Tryz.func116,Tryz.ntmps116
   go_wp2_with fail;go_ret;exact⟨ret_bool HR.out,Below.refl _ _⟩
theorem tab_eq (t u:TabD):decide (t=u)=(t.low==u.low&&t.up==u.up&&decide (t.pair=u.pair)):=by
 cases t with
 | mk a b c=>
   cases u with
   | mk a' b' c'=>
     rw[Bool.eq_iff_iff];simp[and_assoc]
theorem tabSame_any {t u:TabD} {r:Bool} (hr:decide (t=u)=r) (v v':Value) (w:World) (hv:TabV w w.heap.size v t) (hv':TabV w w.heap.size v' u):
 Calls Tryz.prog 54 #[v,v'] w fun e w'=>e=.returned (.bool r)∧Below w.heap.size w w':=by
 obtain⟨A1,c1,A2,c2,A3,c3,rfl,r1,r2,r3⟩:=hv;obtain⟨D1,d1,D2,d2,D3,d3,rfl,s1,s2,s3⟩:=hv';rw[tab_eq] at hr;obtain⟨b1,h1⟩:∃ b,(t.low==u.low)=b:=⟨_,rfl⟩;obtain⟨b2,h2⟩:∃ b,(t.up==u.up)=b:=⟨_,rfl⟩;obtain⟨b3,h3⟩:∃ b,decide (t.pair=u.pair)=b:=⟨_,rfl⟩;rw[h1,h2,h3] at hr;obtain⟨n1,e1⟩:∃ n,t.low.length=n:=⟨_,rfl⟩;obtain⟨n2,e2⟩:∃ n,t.up.length=n:=⟨_,rfl⟩;obtain⟨n3,e3⟩:∃ n,t.pair.length=n:=⟨_,rfl⟩;obtain⟨m1,f1⟩:∃ n,u.low.length=n:=⟨_,rfl⟩;obtain⟨m2,f2⟩:∃ n,u.up.length=n:=⟨_,rfl⟩;obtain⟨m3,f3⟩:∃ n,u.pair.length=n:=⟨_,rfl⟩;rw[e1] at r1 ⊢;rw[e2] at r2 ⊢;rw[e3] at r3 ⊢;rw[f1] at s1 ⊢;rw[f2] at s2 ⊢;rw[f3] at s3 ⊢;obtain⟨W,hW⟩:∃ W,(w.alloc (Obj.cells #[.slice A1 n1 c1,.slice A2 n2 c2,.slice A3 n3 c3] 38)).alloc (Obj.cells #[.slice D1 m1 d1,.slice D2 m2 d2,.slice D3 m3 d3] 38)=W:=⟨_,rfl⟩
 have hb:Below w.heap.size w W:=by rw[← hW]; exact((Below.refl _ _).alloc (Nat.le_refl _) _).alloc (by simp) _
 have hz:Blk W w.heap.size 38 #[.slice A1 n1 c1,.slice A2 n2 c2,.slice A3 n3 c3]:=by rw[← hW]; exact(blk_new w _ _).alloc _
 have hy:Blk W (w.heap.size+1) 38 #[.slice D1 m1 d1,.slice D2 m2 d2,.slice D3 m3 d3]:=by
  rw[← hW];have:=blk_new (w.alloc (Obj.cells #[.slice A1 n1 c1,.slice A2 n2 c2,.slice A3 n3 c3] 38)) #[.slice D1 m1 d1,.slice D2 m2 d2,.slice D3 m3 d3] 38;rwa [World.size_alloc] at this
 have H1:=qq (equalM_any A1 n1 c1 t.low D1 m1 d1 u.low W (r1.freshM hb) (s1.freshM hb));rw[h1] at H1;have R2:=qq (r2.freshM hb);have S2:=qq (s2.freshM hb);have R3:=qq (r3.fresh hb);have S3:=qq (s3.fresh hb);have HW:=qq hW;have Hb:=qq hb;have Hz:=qq hz;have Hy:=qq hy;have Hh2:=qq h2;have Hh3:=qq h3;clear hW hb hz hy r1 r2 r3 s1 s2 s3 e1 e2 e3 f1 f2 f3 h1 h2 h3
 cases b1 with
 | false=>
   have HR:Hid (false=r):=qq (by simpa using hr);clear hr
   go_enter Tryz.func54,Tryz.ntmps54
   go_wp2_with fail;rw[HW.out]
   refine H1.out.mono ?_; rintro e w1 ⟨rfl,hb1⟩
   go_wp2_with fail;go_ret;exact⟨ret_bool HR.out,Hb.out.trans (hb1.mono Hb.out.size)⟩
 | true=>
   go_enter Tryz.func54,Tryz.ntmps54
   go_wp2_with fail;rw[HW.out]
   refine H1.out.mono ?_; rintro e w1 ⟨rfl,hb1⟩
   have hz1:=Hz.out.below hb1 Hz.out.lt;have hy1:=Hy.out.below hb1 Hy.out.lt;have z1:=hz1.cell 1;have z2:=hz1.cell 2;have y1:=hy1.cell 1;have y2:=hy1.cell 2;have hq:=equalM_any A2 n2 c2 t.up D2 m2 d2 u.up w1 (R2.out.freshM hb1) (S2.out.freshM hb1);rw[Hh2.out] at hq;have Hq:=qq hq;have Hb1:=qq hb1;clear hq hb1 hz1 hy1 H1
   cases b2 with
   | false=>
     have HR:Hid (false=r):=qq (by simpa using hr);clear hr;go_wp2_with fail
     refine Hq.out.mono ?_; rintro e w2 ⟨rfl,hb2⟩
     go_wp2_with fail;go_ret;exact⟨ret_bool HR.out,Hb.out.trans ((Hb1.out.trans (hb2.mono Hb1.out.size)).mono Hb.out.size)⟩
   | true=>
     have HR:Hid (b3=r):=qq (by simpa using hr);clear hr;go_wp2_with fail
     refine Hq.out.mono ?_; rintro e w2 ⟨rfl,hb2⟩
     have q2:=(hb2.cell (p:=⟨w.heap.size,2,none⟩) (by have:=Hz.out.lt; have:=Hb1.out.size; show w.heap.size<_; omega)).trans z2
     have p2:=(hb2.cell (p:=⟨w.heap.size+1,2,none⟩) (by have:=Hy.out.lt; have:=Hb1.out.size; show w.heap.size+1<_; omega)).trans y2
     have hbb:=Hb1.out.trans (hb2.mono Hb1.out.size);have Hq3:=qq (sameRows_any A3 n3 c3 t.pair D3 m3 d3 u.pair w2 (R3.out.fresh hbb) (S3.out.fresh hbb) Hh3.out);have Hbb:=qq (Hb.out.trans (hbb.mono Hb.out.size));clear z1 z2 y1 y2 hb2 hbb Hq;go_wp2_with fail
     refine Hq3.out.mono ?_; rintro e w3 ⟨rfl,hb3⟩
     go_wp2_with fail;go_ret;exact⟨ret_bool HR.out,Hbb.out.trans (hb3.mono Hbb.out.size)⟩
section
variable {N:Nat} {n:Int} {xs:List IneqD} {keep:List Int} {t:TabD} {er:Int}
theorem TableR.ref (h:TableR N xs keep t):t=refTab N xs (keep.map Int.toNat):=by
 obtain⟨low,h1,h2,h3⟩:=h.ex;exact proj_ref h.ok.well h1 h2 h.nat h3
theorem ProjR.mayNot (h:ProjR n xs keep t er) (hn:n≤1048576) (hl:xs.length≤1048576) (hok:¬ OkS n [] xs) (hk:keep.length≤150):er=2∧t=emptyT:=by
 rcases h with ⟨h,_,_⟩ | ⟨_,a,core,e1,hS,h⟩
 · omega
 · have h0:=(hS.bad hn hl hok).2.2
   rcases h with ⟨h1,e1,e⟩ | ⟨h1,_,_,_⟩ | ⟨h1,_,_,_⟩
   · exact⟨by omega,e1⟩
   · omega
   · omega
end
theorem take_snoc {α:Type} {l:List α} {k:Nat} {d:α} (h:k<l.length):l.take (k+1)=l.take k++[l.getD k d]:=by
 rw[List.take_succ_eq_append_getElem h,List.getD_eq_getElem?_getD,qj h];rfl
def natK (kn:List Nat):List Int:=kn.map fun v=>((v:Nat):Int)
theorem natK_len (kn:List Nat):(natK kn).length=kn.length:=by simp[natK]
theorem natK_at {kn:List Nat} {k:Nat} (h:k<(natK kn).length):(natK kn)[k]=((kn.getD k 0:Nat):Int):=by
 have h2:k<kn.length:=by rw[← natK_len kn]; exact h
 simp[natK,h2]
theorem natK_nat {keep:List Int} (h:∀ v∈keep,0≤v):natK (keep.map Int.toNat)=keep:=by
 unfold natK;rw[List.map_map];refine(List.map_congr_left fun v hv=>?_).trans (List.map_id keep);simp only[Function.comp,id];exact Int.toNat_of_nonneg (h v hv)
def fillE (N k:Nat):List Int:=List.replicate k 1++List.replicate (N - k) 0
theorem fill_len {N k:Nat} (h:k≤N):(fillE N k).length=N:=by simp[fillE]; omega
theorem fill_set {N k:Nat} (h:k<N):(fillE N k).set k 1=fillE N (k+1):=by
 unfold fillE;rw[List.set_append_right _ _ (by simp)];rw[List.length_replicate,Nat.sub_self]
 obtain⟨m,hm⟩:∃ m,N - k=m+1:=⟨N - k - 1,by omega⟩
 rw[hm,List.replicate_succ,qh,show N - (k+1)=m by omega,List.replicate_succ',List.append_assoc]
 rfl
theorem fill_all (N:Nat):fillE N N=List.replicate N 1:=by simp[fillE]
theorem free_any (Al:Option Addr) (nl cl:Nat) (xs:List IneqD) (Ak:Option Addr) (nk ck:Nat) (kn:List Nat) (Aa:Option Addr) (na ca:Nat) (a:List Int) (w:World) (hx:IneqsV w w.heap.size Al nl cl xs) (hk:RdI .i64 w w.heap.size Ak nk ck (natK kn)) (ha:RdI .u8 w w.heap.size Aa na ca a) (hna:na=nk) (hl:nl≤1000) (hkb:nk≤1000):
 Calls Tryz.prog 162 #[.slice Al nl cl,.slice Ak nk ck,.slice Aa na ca] w fun e w'=>∃ A c,e=.returned (.slice A (nl+nk) c)∧IneqsV w' w'.heap.size A (nl+nk) c (xs++freeE kn a)∧Below w.heap.size w w':=by
 obtain⟨i0,hi0,hz0,hz1,hz2⟩:=info_parts ineqInfo;subst hna;have hxl:=hx.len;have hkl:=hk.len;have hal:=ha.len
 have hkn:kn.length=na:=by rw[← natK_len]; exact hkl
 have hr1:=hx.rd4.keep (w':=w.alloc (Obj.cells #[] 70)) (fun p hp=>World.cell?_alloc_lt _ _ p hp);have Hx:=qq hx;have Hk:=qq hk;have Ha:=qq ha;clear hx hk ha
 go_enter Tryz.func162,Tryz.ntmps162
 go_wp2_with (at_builtin; refine wpList_append_rd _ rfl _ _ 28 rfl w.heap.size 70 i0 _ 4 32 Tryz.underlying28 hi0 hz0 hz1 hz2 rfl (by omega) _ 0 [] rfl (World.ownsRow_lit w #[] 0 (Nat.le_refl _) (Nat.zero_le _) rfl) w.heap.size Al nl cl (cellsQ xs) rfl hr1 (cellsQ_one xs) (by unfold maxLen; omega) (by omega) (by simp) ?_; intro v1 w1 hown1 hg1 hat1; obtain⟨A1,c1,rfl⟩:=ownsRow_form hown1)
 rw[Nat.zero_add,List.nil_append] at hown1
 have hb1:Below w.heap.size w w1:=((Below.refl _ _).alloc (Nat.le_refl _) _).grown hg1 (by simp) (fun k hk=>by have hk':some w.heap.size=some k:=hk; injection hk' with h; omega)
 have Hown1:=qq hown1;have Hb1:=qq hb1;clear hown1 hb1 hg1 hat1 hr1
 go_loopg [7,8] na (fun gh s i wr=>∃ (k:Nat) (A:Option Addr) (c:Nat),k≤na∧gh=na - k∧i=.int .i64 (k:Nat)∧s=.slice A (nl+k) c∧wr.ownsRow w.heap.size 70 4 (.slice A (nl+k) c) (nl+k) (cellsQ (xs++(freeE kn a).take k))∧Below w.heap.size w wr)
 case atStart=>exact⟨0,A1,c1,Nat.zero_le _,rfl,rfl,rfl,by simpa using Hown1.out,Hb1.out⟩
 case round=>
  obtain⟨k,A,c,hk,rfl,rfl,rfl,hown,hbel⟩:=hrel;have Hown:=qq hown;have Hbel:=qq hbel;clear hown hbel
  by_cases hkn':k<na
  · have d0:decide (k<na)=true:=by simpa using hkn'
    have hk':k<(natK kn).length:=by omega
    obtain⟨b,off,rfl,hbl,hc⟩:=Hk.out.at_ (by omega);have q0:=hc k hk';rw[natK_at hk'] at q0
    have ha':k<a.length:=by omega
    obtain⟨b2,off2,rfl,hbl2,hc2⟩:=Ha.out.at_ (by omega);have q1:=hc2 k ha';rw[← getE_at ha'] at q1;have Htk:=qq (free_take (kn:=kn) (a:=a) (k:=k) (by omega));obtain⟨v,hv⟩:∃ v:Int,((kn.getD k 0:Nat):Int)=v:=⟨_,rfl⟩;obtain⟨m,hm⟩:∃ m:Int,a.getD k 0=m:=⟨_,rfl⟩;have Hv:=qq hv;have Hm:=qq hm;rw[hv] at q0;rw[hm] at q1
    have i1:(0:Int)≤(k:Int):=by omega
    have i2:(k:Int)<na:=by omega
    have E0:=qq q0;have E1:=qq q1;have e0:wr.cell? ⟨b,off+k,none⟩=some (.int .i64 v):=(Hbel.out.cell (p:=⟨b,off+k,none⟩) hbl).trans q0;have e1:wr.cell? ⟨b2,off2+k,none⟩=some (.int .u8 m):=(Hbel.out.cell (p:=⟨b2,off2+k,none⟩) hbl2).trans q1;clear hc hc2 hv hm q0 q1;have hsz:=Hbel.out.size;go_upto_region 5 with fail;refine wp_region_noPanic ?_;refine wp_region_T (fun w'=>w'.cell? ⟨b,off+k,none⟩=some (.int .i64 v)∧w'.cell? ⟨b2,off2+k,none⟩=some (.int .u8 m)) 13 (by kernel_rfl) ⟨e0,e1⟩ (fun hHeld=>?_);have howD:wr.drew.ownsRow w.heap.size 70 4 (.slice A (nl+k) c) (nl+k) (cellsQ (xs++(freeE kn a).take k)):=Hown.out;have hbelD:=Below.drew Hbel.out;have hblD:b<wr.drew.heap.size:=Nat.lt_of_lt_of_le hbl hsz;have hbl2D:b2<wr.drew.heap.size:=Nat.lt_of_lt_of_le hbl2 hsz;generalize wr.drew=W0 at hHeld howD hbelD hblD hbl2D ⊢;have hH2:=hHeld;refine nx0 0 ?_
    iterate 11 (refine nx (v:=?_) rfl (by kernel_rfl) (fun _ _ _ h=>h) (by rfl) ?_ (by assumption) ?_; rotate_left; focus (intro w hSw; (try dsimp only at hSw); first | (go_simp; done) | (go_simp; with_reducible rfl)); try simp only[Act.put,qg,qe,qf,qd,qh,qi,Nat.reduceAdd])
    refine nx9 ?_;have hb9:=hbelD.alloc hbelD.size (Obj.cells #[.int .i64 v,.int .u8 0,.int .u8 m,.int .i64 (-1)] 70);have ho9:=howD.alloc (Obj.cells #[.int .i64 v,.int .u8 0,.int .u8 m,.int .i64 (-1)] 70);have Hb9:=qq hb9;have Ho9:=qq ho9;clear hb9 ho9;have hS9:(W0.alloc (Obj.cells #[.int .i64 v,.int .u8 0,.int .u8 m,.int .i64 (-1)] 70)).cell? ⟨b,off+k,none⟩=some (.int .i64 v)∧(W0.alloc (Obj.cells #[.int .i64 v,.int .u8 0,.int .u8 m,.int .i64 (-1)] 70)).cell? ⟨b2,off2+k,none⟩=some (.int .u8 m):=⟨(World.cell?_alloc_lt _ _ ⟨b,off+k,none⟩ hblD).trans hH2.1,(World.cell?_alloc_lt _ _ ⟨b2,off2+k,none⟩ hbl2D).trans hH2.2⟩;refine wpAnyT_step (i:=11) (by kernel_rfl) rfl (fun K hK=>?_);go_simp;refine hK.out _ _ hS9 ?_;clear hK K
    try simp only[Act.put,qg,qe,qf,qd,qh,qi]
    clear hS9 hHeld hH2;refine wpAnyT_step (i:=12) (by kernel_rfl) rfl (fun K hK=>?_)
    (refine step_append_rd _ (by rfl) (.tmp 18) (.tmp 29) 28 (by rfl) w.heap.size 70 i0 _ 4 32 Tryz.underlying28 hi0 hz0 hz1 hz2 rfl (by omega) (.slice A (nl+k) c) (nl+k) (cellsQ (xs++(freeE kn a).take k)) (by rfl) Ho9.out (W0.heap.size+1) (some ⟨W0.heap.size,0,none⟩) 1 1 (cellsQ [⟨v,0,m, -1⟩]) (by rfl) (rd_newq _ ⟨v,0,m, -1⟩ _) (cellsQ_one _) (by unfold maxLen; omega) (by omega) Hb9.out.size ?_; intro v7 w7 ho7 hg7 hat7; obtain⟨A7,c7,rfl⟩:=ownsRow_form ho7; have hb7:=Hb9.out.grown hg7 Hb9.out.size (fun b' hb'=>(ownsRow_lt Ho9.out hb').1); have hS7:w7.cell? ⟨b,off+k,none⟩=some (.int .i64 v)∧w7.cell? ⟨b2,off2+k,none⟩=some (.int .u8 m):=⟨(hb7.cell (p:=⟨b,off+k,none⟩) hbl).trans E0.out,(hb7.cell (p:=⟨b2,off2+k,none⟩) hbl2).trans E1.out⟩)
    refine hK.out _ _ hS7 ?_;clear hK K
    try simp only[Act.put,qg,qe,qf,qd,qh,qi]
    clear hS7 hat7 hg7;have Ho7:=qq ho7;have Hb7:=qq hb7;clear ho7 hb7;refine wpAnyT_seq 13 (by omega) (by rfl) (by kernel_rfl) ?_;simp only[List.drop_succ_cons,List.drop_zero];go_wp2_with fail;refine NoPanic.normal ?_;go_wp2_with fail;go_roundg (na - (k+1))
    case measure=>omega
    case rel=>exact⟨k+1,A7,c7,by omega,rfl,by simp,rfl,by rw[Htk.out,Hv.out,Hm.out,← List.append_assoc,cellsQ_append]; exact Ho7.out,Hb7.out⟩
  · have d0:decide (k<na)=false:=by simpa using hkn'
    obtain⟨nk9,rfl⟩:∃ nk9,nk9=k:=⟨_,rfl⟩
    have hkn9:na=nk9:=by omega
    subst hkn9
    have hend:IneqsV wr wr.heap.size A (nl+na) c (xs++freeE kn a):=by
     have:=IneqsV.of_own4 (by simpa using Hown.out)
     rwa [List.take_of_length_le (by rw[free_len]; omega)] at this
    have Hend:=qq hend;clear hend;go_wp2_with fail;go_ret;exact⟨A,c,rfl,Hend.out,Hbel.out⟩
theorem refMay5_any (r:Bool) (N:Nat) (Al:Option Addr) (nl cl:Nat) (xs:List IneqD) (Ak:Option Addr) (nk ck:Nat) (kn:List Nat) (Aa:Option Addr) (na ca:Nat) (a:List Int) (w:World) (hx:IneqsV w w.heap.size Al nl cl xs) (hk:RdI .i64 w w.heap.size Ak nk ck (natK kn)) (ha:RdI .u8 w w.heap.size Aa na ca a) (hna:na=nk) (hl:nl≤1000) (hkb:nk≤1000) (hN:N≤1000) (hok:OkS (N:Int) [] xs) (hlt:∀ v∈kn,v<N) (hd:kn.Nodup) (har:∀ i,i<a.length→1≤a.getD i 0∧a.getD i 0≤3) (hr:r=true↔∃ f,SolE N xs f∧∀ i,i<kn.length→f.getD (kn.getD i 0) 0=a.getD i 0):
 Calls Tryz.prog 146 #[.int .i64 N,.slice Al nl cl,.slice Ak nk ck,.slice Aa na ca] w fun e w'=>e=.returned (.bool r)∧Below w.heap.size w w':=by
 subst hna;have hkl:=hk.len;have hal:=ha.len
 have hkn:kn.length=na:=by rw[← natK_len]; exact hkl
 have hmk:=make_mult N (by omega)
 have n63:N≤9223372036854775807:=by omega
 have hF0:Blk (w.alloc (Obj.cells (Array.replicate N (Value.int .u8 0)) 22)) w.heap.size 22 ((fillE N 0).map (Value.int .u8)).toArray:=by
  rw[show((fillE N 0).map (Value.int .u8)).toArray=Array.replicate N (Value.int .u8 0) by simp[fillE]]; exact blk_new _ _ _
 have hbF:=below_box (w:=w) (Obj.cells (Array.replicate N (Value.int .u8 0)) 22);have Hx:=qq hx;have Hk:=qq hk;have Ha:=qq ha;have Hok:=qq hok;have Hlt:=qq hlt;have Hd:=qq hd;have Har:=qq har;have Hr:=qq hr;have HF0:=qq hF0;have HbF:=qq hbF;clear hx hk ha hok hlt hd har hr hF0 hbF
 go_enter Tryz.func146,Tryz.ntmps146
 go_wp2_with fail
 go_loopg [10] N (fun gh i wr=>∃ k:Nat,k≤N∧gh=N - k∧i=.int .i64 (k:Nat)∧Blk wr w.heap.size 22 ((fillE N k).map (Value.int .u8)).toArray∧Below w.heap.size w wr)
 case atStart=>exact⟨0,Nat.zero_le _,rfl,rfl,HF0.out,HbF.out⟩
 case round=>
  obtain⟨k,hk,rfl,rfl,hbl,hbel⟩:=hrel
  by_cases hkN:k<N
  · have d0:decide (k<N)=true:=by simpa using hkN
    have i1:(0:Int)≤(k:Int):=by omega
    have i2:(k:Int)<N:=by omega
    have hc:wr.cell? ⟨w.heap.size,k,none⟩=some (.int .u8 ((fillE N k)[k]'(by rw[fill_len hk]; exact hkN))):=by
     rw[hbl.cell k]; simp
    generalize ((fillE N k)[k]'(by rw[fill_len hk]; exact hkN))=z at hc
    have hfz:=hbl.frozen k;have hb2:=blk_set hbl k 1;rw[fill_set hkN] at hb2;have hbel2:=hbel.setCell (p:=⟨w.heap.size,k,none⟩) (Nat.le_refl _) (.int .u8 1);have Hb2:=qq hb2;have Hbel2:=qq hbel2;clear hb2 hbel2 hbl hbel;go_wp2_with fail;go_roundg (N - (k+1))
    case measure=>omega
    case rel=>exact⟨k+1,by omega,rfl,by simp,Hb2.out,Hbel2.out⟩
  · have d0:decide (k<N)=false:=by simpa using hkN
    obtain⟨N9,rfl⟩:∃ N9,N9=k:=⟨_,rfl⟩
    have hN9:N=N9:=by omega
    subst hN9;rw[fill_all] at hbl;have Hbl:=qq hbl;have Hbel:=qq hbel;obtain⟨wO,hwO⟩:∃ x,x=wr:=⟨_,rfl⟩;subst hwO;clear hbl hbel HF0 HbF;go_wp2_with fail
    go_loopg [11] na (fun gh i wr=>∃ k:Nat,k≤na∧gh=na - k∧i=.int .i64 (k:Nat)∧Blk wr w.heap.size 22 ((setE (List.replicate N 1) kn a k).map (Value.int .u8)).toArray∧Below w.heap.size w wr)
    case atStart=>exact⟨0,Nat.zero_le _,rfl,rfl,Hbl.out,Hbel.out⟩
    case round=>
     obtain⟨k,hk,rfl,rfl,hbl,hbel⟩:=hrel
     have hsl:(setE (List.replicate N 1) kn a k).length=N:=by rw[setE_len]; simp
     by_cases hkn':k<na
     · have d0:decide (k<na)=true:=by simpa using hkn'
       have hk':k<(natK kn).length:=by omega
       obtain⟨b,off,rfl,hb1,hc⟩:=(Hk.out.below hbel).at_ (by omega);have e0:=hc k hk';rw[natK_at hk'] at e0
       have ha':k<a.length:=by omega
       obtain⟨b2,off2,rfl,hb2,hc2⟩:=(Ha.out.below hbel).at_ (by omega);have e1:=hc2 k ha';rw[← getE_at ha'] at e1;have hv:=keep_lt Hlt.out (i:=k) (by omega);obtain⟨v,hve⟩:∃ v,kn.getD k 0=v:=⟨_,rfl⟩;obtain⟨m,hme⟩:∃ m,a.getD k 0=m:=⟨_,rfl⟩;rw[hve] at e0 hv;rw[hme] at e1
       have i1:(0:Int)≤(k:Int):=by omega
       have i2:(k:Int)<na:=by omega
       have i3:(0:Int)≤(v:Int):=by omega
       have i4:(v:Int)<N:=by omega
       have hset:(setE (List.replicate N 1) kn a k).set v m=setE (List.replicate N 1) kn a (k+1):=by rw[← hve,← hme]; rfl
       have Hset:=qq hset;clear hc hc2 hset hve hme;go_upto_region 9 with fail;refine wp_region_noPanic ?_;refine wp_region_T (fun w'=>w'.cell? ⟨b,off+k,none⟩=some (.int .i64 (v:Nat))∧w'.cell? ⟨b2,off2+k,none⟩=some (.int .u8 m)) 10 (by kernel_rfl) ⟨e0,e1⟩ (fun hHeld=>?_);have hblD:Blk wr.drew w.heap.size 22 ((setE (List.replicate N 1) kn a k).map (Value.int .u8)).toArray:=hbl;have hbelD:=Below.drew hbel;clear hbl hbel e0 e1;generalize wr.drew=W0 at hHeld hblD hbelD ⊢;refine nx0 0 ?_
       iterate 10 (refine nx (v:=?_) rfl (by kernel_rfl) (fun _ _ _ h=>h) (by rfl) ?_ (by assumption) ?_; rotate_left; focus (intro w hSw; (try dsimp only at hSw); first | (go_simp; done) | (go_simp; with_reducible rfl)); try simp only[Act.put,qg,qe,qf,qd,qh,qi,Nat.reduceAdd])
       refine nx9 ?_;clear hHeld;have hst:=blk_set hblD v m;rw[Hset.out] at hst
       have k3:W0.cell? ⟨w.heap.size,v,none⟩=some (.int .u8 ((setE (List.replicate N 1) kn a k)[v]'(by rw[hsl]; exact hv))):=by
        rw[hblD.cell v]; simp
       generalize ((setE (List.replicate N 1) kn a k)[v]'(by rw[hsl]; exact hv))=z at k3
       have k4:=hblD.frozen v;have hst2:=hbelD.setCell (p:=⟨w.heap.size,v,none⟩) (Nat.le_refl _) (.int .u8 m);have Hst:=qq hst;have Hst2:=qq hst2;clear hst hst2 hblD hbelD hv hsl;refine wpAnyT_seq 10 (by omega) (by rfl) (by kernel_rfl) ?_;simp only[List.drop_succ_cons,List.drop_zero];go_wp2_with fail;refine NoPanic.normal ?_;go_wp2_with fail;go_roundg (na - (k+1))
       case measure=>omega
       case rel=>exact⟨k+1,by omega,rfl,by simp,Hst.out,Hst2.out⟩
     · have d0:decide (k<na)=false:=by simpa using hkn'
       obtain⟨k9,rfl⟩:∃ k9,k9=k:=⟨_,rfl⟩
       have hk9:na=k9:=by omega
       subst hk9
       have hlow:=rdM_blk hbl hsl (by unfold maxLen; omega)
       have Hlow:=qq hlow;have Hbe2:=qq hbel;have Hsl:=qq hsl;clear hlow hbl hbel hsl;go_wp2_with fail;refine(free_any Al nl cl xs Ak na ck kn Aa na ca a wr ((Hx.out.below Hbe2.out).more Hbe2.out.size) ((Hk.out.below Hbe2.out).more Hbe2.out.size) ((Ha.out.below Hbe2.out).more Hbe2.out.size) rfl hl hkb).mono ?_;rintro e w3 ⟨A3,c3,rfl,hfr,hb3⟩;have Hfr:=qq hfr;have Hlow3:=qq ((Hlow.out.below hb3).more hb3.size);have Hb3:=qq (Hbe2.out.trans (hb3.mono Hbe2.out.size));clear hfr hb3;go_wp2_with fail
       have hok2:OkS (N:Int) (setE (List.replicate N 1) kn a na) (xs++freeE kn a):=⟨by omega,.inr (by rw[Hsl.out]),fun x hx=>by
        rcases List.mem_append.1 hx with q | q
        · exact Hok.out.may x q
        · obtain⟨i,hi,rfl⟩:=mem_free.1 q
          have:=Har.out i (by omega)
          exact may_free (keep_lt Hlt.out hi) hN this.1 this.2,setE_rng Har.out na (by omega)⟩
       refine(refSolve_any N (by omega) _ _ _ _ _ _ _ _ w3 Hlow3.out Hfr.out hok2).mono ?_;rintro e w4 ⟨A4,m4,c4,a4,ok4,rfl,hr4,hR4,hb4⟩;rw[low0_self Hsl.out] at hR4;have hiff:=free_iff (a:=a) (Hok.out.well) Hlt.out Hd.out fun i hi=>Har.out i (by omega);rw[hkn] at hiff
       have hok4:ok4=r:=by
        cases ok4 with
        | true=>
          refine(Hr.out.2 ?_).symm;rw[hkn];exact hiff.1 ⟨_,(hR4.1 rfl).1⟩
        | false=>
          cases r with
          | false=>rfl
          | true=>
            have h1:=Hr.out.1 rfl;rw[hkn] at h1;obtain⟨g,hg⟩:=hiff.2 h1;exact absurd hg ((hR4.2 rfl).2 g)
       subst hok4;have Hend:=qq (Hb3.out.trans (hb4.mono Hb3.out.size));clear hb4 hr4 hR4 hiff hok2;go_wp2_with fail;go_ret;exact⟨rfl,Hend.out⟩
end Go.Proofs.YtdmakpmbknindaaGreatDoor
