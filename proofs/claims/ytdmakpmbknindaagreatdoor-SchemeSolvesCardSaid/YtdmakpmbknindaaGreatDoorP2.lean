import Derived.Test.YtdmakpmbknindaaGreatDoorM13
import Derived.Test.YtdmakpmbknindaaGreatDoorP0
set_option linter.unusedVariables false
set_option linter.unusedSimpArgs false
set_option maxHeartbeats 2000000
set_option maxRecDepth 100000
namespace Go.Proofs.YtdmakpmbknindaaGreatDoor
open Go.RowKit
def rowBad (k:Nat) (l:List Int):Bool:=decide (l.length≠k) || noneB l
theorem rowMay_any {l:List Int} {k:Nat} {r:Bool} (hr:rowBad k l=r) (b:Nat) (A:Option Addr) (c:Nat) (w:World) (B:Nat) (h:RdI .u8 w B A l.length c l) (hb:w.cell? ⟨b,0,none⟩=some (.int .i64 k)):
 Calls Tryz.prog 119 #[.slice A l.length c,.pointer (some ⟨b,0,none⟩)] w fun e w'=>e=.returned (.bool r)∧w=w':=by
 unfold rowBad at hr
 by_cases hl:l.length=k
 · have hn:noneB l=r:=by rw[← hr]; simp[hl]
   have d0:((l.length:Int) != k)=false:=by rw[hl]; simp
   have Hq:=qq (none_any hn A l.length c w B h);clear hl hn h hr
   go_enter Tryz.func119,Tryz.ntmps119
   go_wp2_with fail
   refine Hq.out.mono ?_; rintro e w1 ⟨rfl,rfl⟩
   go_wp2_with fail;go_ret;exact⟨rfl,rfl⟩
 · have hr':true=r:=by rw[← hr]; simp[hl]
   subst hr'
   have d0:((l.length:Int) != k)=true:=by simp; omega
   clear hl h hr
   go_enter Tryz.func119,Tryz.ntmps119
   go_wp2_with fail;go_ret;exact⟨rfl,rfl⟩
theorem rowsIdxG_any {k:Nat} (b:Nat) (A:Option Addr) (n c:Nat) (ls:List (List Int)) (w:World) (B:Nat) (h:MssV w B A n c ls) (hb:w.cell? ⟨b,0,none⟩=some (.int .i64 k)) {x:Int} (hx:findM (rowBad k) ls=x):
 Calls Tryz.prog 147 #[.slice A n c,.func (.func 119) #[] #[.pointer (some ⟨b,0,none⟩)]] w fun e w'=>e=.returned (.int .i64 x)∧w=w':=by
 have hlen:=h.1;have m63:n≤9223372036854775807:=Nat.le_trans h.2.1 h.2.2.1;have H:=qq h;have Hx:=qq hx;clear h hx
 go_enter Tryz.func147,Tryz.ntmps147
 go_wp2_with fail
 go_loopg [5,8] n (fun gh _ i wr=>∃ k':Nat,k'≤n∧gh=n - k'∧i=.int .i64 k'∧wr=w∧∀ j (h:j<ls.length),j<k'→rowBad k ls[j]=false)
 case atStart=>exact⟨0,Nat.zero_le _,rfl,rfl,rfl,fun j _ hj=>absurd hj (by omega)⟩
 case round=>
  obtain⟨q,hk,rfl,rfl,rfl,hbf⟩:=hrel;have Hbf:=qq hbf;clear hbf
  by_cases hkm:q<n
  · have d0:decide (q<n)=true:=by simpa using hkm
    have hk':q<ls.length:=by omega
    obtain⟨b',off,rfl,_,hc⟩:=H.out.2.2.2 (by omega);obtain⟨A',c',e0,hr⟩:=hc q hk';obtain⟨y,hy⟩:∃ y,rowBad k ls[q]=y:=⟨_,rfl⟩;have Hq:=qq (rowMay_any hy b A' c' wr B hr hb);have Hy:=qq hy
    have k1:(0:Int)≤(q:Int):=by omega
    have k2:(q:Int)<n:=by omega
    clear hc hr hy;obtain⟨z,hz⟩:∃ y,ls[q].length=y:=⟨_,rfl⟩;rw[hz] at e0 Hq;clear hz
    cases y with
    | false=>
      go_wp2_with fail
      refine Hq.out.mono ?_; rintro e w1 ⟨rfl,rfl⟩
      go_wp2_with fail;go_roundg (n - (q+1))
      case measure=>omega
      case rel=>exact⟨q+1,by omega,rfl,by go_num,rfl,fun j hj hjk=>by
       rcases Nat.lt_succ_iff_lt_or_eq.1 hjk with h | h
       · exact Hbf.out j hj h
       · subst h; exact Hy.out⟩
    | true=>
      have Hxe:Hid ((q:Int)=x):=qq (by rw[← Hx.out]; exact(findM_at hk' Hbf.out Hy.out).symm)
      go_wp2_with fail
      refine Hq.out.mono ?_; rintro e w1 ⟨rfl,rfl⟩
      go_wp2_with fail;go_ret
      exact⟨by rw[← Hxe.out]; rfl,rfl⟩
  · have d0:decide (q<n)=false:=by simpa using hkm
    have Hxe:Hid ((-1:Int)=x):=qq (by rw[← Hx.out]; exact(findM_none fun j hj=>Hbf.out j hj (by omega)).symm)
    go_wp2_with fail;go_ret
    exact⟨by rw[← Hxe.out]; rfl,rfl⟩
theorem rowsHasG_any {k:Nat} (b:Nat) (A:Option Addr) (n c:Nat) (ls:List (List Int)) (w:World) (B:Nat) (h:MssV w B A n c ls) (hb:w.cell? ⟨b,0,none⟩=some (.int .i64 k)) {r:Bool} (hr:ls.any (rowBad k)=r):
 Calls Tryz.prog 118 #[.slice A n c,.func (.func 119) #[] #[.pointer (some ⟨b,0,none⟩)]] w fun e w'=>e=.returned (.bool r)∧w=w':=by
 obtain⟨x,hx⟩:∃ x,findM (rowBad k) ls=x:=⟨_,rfl⟩;have Hq:=qq (rowsIdxG_any b A n c ls w B h hb hx)
 have Hd:Hid (decide (x≥0)=r):=qq (by rw[← hx,← hr]; exact findM_any _ _)
 clear h hx hr
 go_enter Tryz.func118,Tryz.ntmps118
 go_wp2_with fail
 refine Hq.out.mono ?_; rintro e w1 ⟨rfl,rfl⟩
 go_wp2_with fail;go_ret
 exact⟨by rw[← Hd.out]; rfl,rfl⟩
theorem okTab_of {t:TabD} (hk:t.low.length≤150) (ul:t.up.length=t.low.length) (pl:t.pair.length=t.low.length) (nl:noneB t.low=false) (nu:noneB t.up=false) (np:t.pair.any (rowBad t.low.length)=false):OkTab t.low.length t:=
 ⟨hk,rfl,ul,pl,nl,nu,fun l hl=>by
  have:=List.any_eq_false.1 np l hl;unfold rowBad at this;simp only[Bool.or_eq_true,decide_eq_true_eq,not_or,ne_eq,Decidable.not_not,Bool.not_eq_true] at this
  exact this⟩
theorem okTab_np {t:TabD} {k:Nat} (h:OkTab k t):t.pair.any (rowBad t.low.length)=false:=by
 rw[List.any_eq_false];intro l hl;have:=h.np l hl;unfold rowBad;rw[h.ll,this.1,this.2];simp
theorem tabMay_any (t:TabD) (v:Value) (w:World) (hv:TabV w w.heap.size v t):
 Calls Tryz.prog 55 #[v] w fun e w'=>∃ er:Int,e=.returned (.int .i64 er)∧(er=0↔OkTab t.low.length t)∧Below w.heap.size w w':=by
 obtain⟨A1,c1,A2,c2,A3,c3,rfl,r1,r2,r3⟩:=hv;obtain⟨k,hk⟩:∃ k,t.low.length=k:=⟨_,rfl⟩;obtain⟨k2,hk2⟩:∃ k,t.up.length=k:=⟨_,rfl⟩;obtain⟨k3,hk3⟩:∃ k,t.pair.length=k:=⟨_,rfl⟩
 have z1:k≤9223372036854775807:=by have:=r1.2.1; have:=r1.2.2; have:=r1.len; unfold maxLen at *; omega
 have z2:k2≤9223372036854775807:=by have:=r2.2.1; have:=r2.2.2; have:=r2.len; unfold maxLen at *; omega
 have z3:k3≤9223372036854775807:=by have:=r3.2.1; have:=r3.2.2.1; have:=r3.1; unfold maxLen at *; omega
 rw[hk] at r1 ⊢;rw[hk2] at r2 ⊢;rw[hk3] at r3 ⊢;obtain⟨W,hW⟩:∃ W,(w.alloc (Obj.cells #[.slice A1 k c1,.slice A2 k2 c2,.slice A3 k3 c3] 38)).alloc (Obj.cells #[.int .i64 k] 3)=W:=⟨_,rfl⟩
 have hb:Below w.heap.size w W:=by rw[← hW]; exact((Below.refl _ _).alloc (Nat.le_refl _) _).alloc (by simp) _
 have hz:W.cell? ⟨w.heap.size+1,0,none⟩=some (.int .i64 k):=by
  rw[← hW];have:=(blk_new (w.alloc (Obj.cells #[.slice A1 k c1,.slice A2 k2 c2,.slice A3 k3 c3] 38)) #[.int .i64 k] 3).cell 0;rwa [World.size_alloc] at this
 have q1:=r1.below hb;have q2:=r2.below hb;have q3:=r3.below hb;obtain⟨n1,hn1⟩:∃ r,noneB t.low=r:=⟨_,rfl⟩;obtain⟨n2,hn2⟩:∃ r,noneB t.up=r:=⟨_,rfl⟩;obtain⟨n3,hn3⟩:∃ r,t.pair.any (rowBad k)=r:=⟨_,rfl⟩
 have H1:Hid (∀ w',w'=W→Calls Tryz.prog 69 #[.slice A1 k c1] w' fun e w2=>e=.returned (.bool n1)∧w'=w2):=qq fun w' h=>by subst h; exact none_any hn1 A1 k c1 _ _ q1
 have H2:Hid (∀ w',w'=W→Calls Tryz.prog 69 #[.slice A2 k2 c2] w' fun e w2=>e=.returned (.bool n2)∧w'=w2):=qq fun w' h=>by subst h; exact none_any hn2 A2 k2 c2 _ _ q2
 have H3:Hid (∀ w',w'=W→Calls Tryz.prog 118 #[.slice A3 k3 c3,.func (.func 119) #[] #[.pointer (some ⟨w.heap.size+1,0,none⟩)]] w' fun e w2=>e=.returned (.bool n3)∧w'=w2):=qq fun w' h=>by subst h; exact rowsHasG_any (k:=k) (w.heap.size+1) A3 k3 c3 t.pair _ _ q3 hz hn3
 have HW:=qq hW;have Hb:=qq hb
 have hit:OkTab k t↔k≤150∧k2=k∧k3=k∧n1=false∧n2=false∧n3=false:=by
  refine⟨fun h=>⟨h.k150,by rw[← hk2]; exact h.ul,by rw[← hk3]; exact h.pl,by rw[← hn1]; exact h.nl,by rw[← hn2]; exact h.nu,by rw[← hn3,← hk]; exact okTab_np h⟩,fun⟨a,b,c,d,e,f⟩=>?_⟩
  have:=okTab_of (t:=t) (by omega) (by omega) (by omega) (by rw[hn1]; exact d) (by rw[hn2]; exact e) (by rw[hk,hn3]; exact f)
  rwa [hk] at this
 have Hit:=qq hit;clear hW hb hz r1 r2 r3 q1 q2 q3 hn1 hn2 hn3 hk hk2 hk3 hit
 go_enter Tryz.func55,Tryz.ntmps55
 by_cases e1:k≤150
 · have d1:decide ((k:Int)>150)=false:=by simp; omega
   by_cases e2:k2≤150
   · have d2:decide ((k2:Int)>150)=false:=by simp; omega
     by_cases e3:k3≤150
     · have d3:decide ((k3:Int)>150)=false:=by simp; omega
       by_cases e4:k2=k
       · have d4:((k2:Int) != (k:Int))=false:=by simp[e4]
         by_cases e5:k3=k
         · have d5:((k3:Int) != (k:Int))=false:=by simp[e5]
           have He:=qq (And.intro e1 (And.intro e4 e5));clear e1 e2 e3 e4 e5
           cases n1 with
           | true=>
             have Hno:Hid (¬ OkTab k t):=qq fun h=>by have:=Hit.out.1 h; exact Bool.noConfusion this.2.2.2.1
             go_wp2_with fail
             refine(H1.out _ HW.out).mono ?_; rintro e w1 ⟨rfl,rfl⟩
             go_wp2_with fail;go_ret
             exact⟨2,rfl,⟨fun h=>absurd h (by decide),fun h=>absurd h Hno.out⟩,by rw[HW.out]; exact Hb.out⟩
           | false=>
             go_wp2_with fail
             refine(H1.out _ HW.out).mono ?_; rintro e w1 ⟨rfl,rfl⟩
             cases n2 with
             | true=>
               have Hno:Hid (¬ OkTab k t):=qq fun h=>by have:=Hit.out.1 h; exact Bool.noConfusion this.2.2.2.2.1
               go_wp2_with fail
               refine(H2.out _ HW.out).mono ?_; rintro e w1 ⟨rfl,rfl⟩
               go_wp2_with fail;go_ret
               exact⟨2,rfl,⟨fun h=>absurd h (by decide),fun h=>absurd h Hno.out⟩,by rw[HW.out]; exact Hb.out⟩
             | false=>
               go_wp2_with fail
               refine(H2.out _ HW.out).mono ?_; rintro e w1 ⟨rfl,rfl⟩
               cases n3 with
               | true=>
                 have Hno:Hid (¬ OkTab k t):=qq fun h=>by have:=Hit.out.1 h; exact Bool.noConfusion this.2.2.2.2.2
                 go_wp2_with fail
                 refine(H3.out _ HW.out).mono ?_; rintro e w1 ⟨rfl,rfl⟩
                 go_wp2_with fail;go_ret
                 exact⟨2,rfl,⟨fun h=>absurd h (by decide),fun h=>absurd h Hno.out⟩,by rw[HW.out]; exact Hb.out⟩
               | false=>
                 have Hyes:Hid (OkTab k t):=qq (Hit.out.2 ⟨He.out.1,He.out.2.1,He.out.2.2,by simp,by simp,by simp⟩)
                 go_wp2_with fail
                 refine(H3.out _ HW.out).mono ?_; rintro e w1 ⟨rfl,rfl⟩
                 go_wp2_with fail;go_ret
                 exact⟨0,rfl,⟨fun _=>Hyes.out,fun _=>rfl⟩,by rw[HW.out]; exact Hb.out⟩
         · have d5:((k3:Int) != (k:Int))=true:=by simp; omega
           have Hno:Hid (¬ OkTab k t):=qq fun h=>by have:=Hit.out.1 h; omega
           clear e1 e2 e3 e4 e5;go_wp2_with fail;go_ret
           exact⟨2,rfl,⟨fun h=>absurd h (by decide),fun h=>absurd h Hno.out⟩,by rw[HW.out]; exact Hb.out⟩
       · have d4:((k2:Int) != (k:Int))=true:=by simp; omega
         have Hno:Hid (¬ OkTab k t):=qq fun h=>by have:=Hit.out.1 h; omega
         clear e1 e2 e3 e4;go_wp2_with fail;go_ret
         exact⟨2,rfl,⟨fun h=>absurd h (by decide),fun h=>absurd h Hno.out⟩,by rw[HW.out]; exact Hb.out⟩
     · have d3:decide ((k3:Int)>150)=true:=by simp; omega
       have Hno:Hid (¬ OkTab k t):=qq fun h=>by have:=Hit.out.1 h; omega
       clear e1 e2 e3;go_wp2_with fail;go_ret
       exact⟨3,rfl,⟨fun h=>absurd h (by decide),fun h=>absurd h Hno.out⟩,by rw[HW.out]; exact Hb.out⟩
   · have d2:decide ((k2:Int)>150)=true:=by simp; omega
     have Hno:Hid (¬ OkTab k t):=qq fun h=>by have:=Hit.out.1 h; omega
     clear e1 e2;go_wp2_with fail;go_ret
     exact⟨3,rfl,⟨fun h=>absurd h (by decide),fun h=>absurd h Hno.out⟩,by rw[HW.out]; exact Hb.out⟩
 · have d1:decide ((k:Int)>150)=true:=by simp; omega
   have Hno:Hid (¬ OkTab k t):=qq fun h=>by have:=Hit.out.1 h; omega
   clear e1;go_wp2_with fail;go_ret
   exact⟨3,rfl,⟨fun h=>absurd h (by decide),fun h=>absurd h Hno.out⟩,by rw[HW.out]; exact Hb.out⟩
end Go.Proofs.YtdmakpmbknindaaGreatDoor
