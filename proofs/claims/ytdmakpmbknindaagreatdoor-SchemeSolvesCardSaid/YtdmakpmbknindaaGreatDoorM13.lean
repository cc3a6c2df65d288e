import Derived.Test.YtdmakpmbknindaaGreatDoorM12
set_option linter.unusedVariables false
set_option linter.unusedSimpArgs false
set_option maxHeartbeats 2000000
set_option maxRecDepth 100000
namespace Go.Proofs.YtdmakpmbknindaaGreatDoor
open Go.RowKit
theorem equalM_any (A:Option Addr) (n c:Nat) (us:List Int) (A':Option Addr) (n' c':Nat) (us':List Int) (w:World) (h:RdI .u8 w w.heap.size A n c us) (h':RdI .u8 w w.heap.size A' n' c' us'):
 Calls Tryz.prog 25 #[.slice A n c,.slice A' n' c'] w fun e w'=>e=.returned (.bool (us==us'))∧Below w.heap.size w w':=by
 have hl:=h.len;have hl':=h'.len;have n63:n≤9223372036854775807:=Nat.le_trans h.2.1 h.2.2;have n63':n'≤9223372036854775807:=Nat.le_trans h'.2.1 h'.2.2
 by_cases e:n=n'
 · subst e
   have d0:((n:Int) != (n:Int))=false:=by simp
   have H:=qq h;have H':=qq h';clear h h'
   go_enter Tryz.func25,Tryz.ntmps25
   go_wp2_with fail
   go_loopg [5,13] n (fun gh _ i wr=>∃ k,k≤n∧gh=n - k∧i=.int .i64 (k:Nat)∧(∀ (j:Nat) (h1:j<us.length) (h2:j<us'.length),j<k→us[j]=us'[j])∧Below w.heap.size w wr)
   case atStart=>exact⟨0,Nat.zero_le _,rfl,rfl,fun j _ _ h=>absurd h (by omega),Below.refl _ _⟩
   case round=>
    obtain⟨k,hk,rfl,rfl,hall,hbel⟩:=hrel;have Hall:=qq hall;have Hbel:=qq hbel;clear hall
    by_cases hkn:k<n
    · have k1:k<us.length:=by omega
      have k2:k<us'.length:=by omega
      obtain⟨b,o,rfl,hb,hc⟩:=(H.out.below hbel).at_ (by omega);obtain⟨b',o',rfl,hb',hc'⟩:=(H'.out.below hbel).at_ (by omega);have e0:=hc k k1;have e1:=hc' k k2
      have i1:(0:Int)≤(k:Int):=by omega
      have i2:(k:Int)<n:=by omega
      by_cases he:us[k]=us'[k]
      · have d1:(us[k] != us'[k])=false:=by simp[he]
        have He:=qq he;clear he;generalize us[k]=z at e0 d1;generalize us'[k]=z' at e1 d1;clear hc hc' hbel;go_wp2_with fail
        go_quiet (fail)
        go_wp2_with fail;go_roundg (n - (k+1))
        case measure=>omega
        case rel=>
         refine⟨k+1,by omega,rfl,by simp,fun j h1 h2 hj=>?_,below_drewN_t Hbel.out _⟩
         rcases Nat.lt_or_ge j k with h | h
         · exact Hall.out j h1 h2 h
         · have:j=k:=by omega
           subst this;exact He.out
      · have d1:(us[k] != us'[k])=true:=by simp[he]
        have HF:Hid (false=(us==us')):=by
         show _=_
         symm
         rw[beq_eq_false_iff_ne];intro hu;subst hu;exact he rfl
        clear he;generalize us[k]=z at e0 d1;generalize us'[k]=z' at e1 d1;clear hc hc' hbel;go_wp2_with fail
        go_quiet (fail)
        go_wp2_with fail;go_ret;exact⟨ret_bool HF.out,below_drewN_t Hbel.out _⟩
    · have HF:Hid (true=(us==us')):=by
       show _=_
       symm
       rw[beq_iff_eq]
       apply List.ext_getElem (by omega)
       intro j h1 h2;exact Hall.out j h1 h2 (by omega)
      clear hbel;go_wp2_with fail;go_ret;exact⟨ret_bool HF.out,Hbel.out⟩
 · have d0:((n:Int) != (n':Int))=true:=by simp; omega
   have HF:Hid (false=(us==us')):=by
    show _=_
    symm
    rw[beq_eq_false_iff_ne];intro hu;rw[hu] at hl;omega
   clear h h' e
   go_enter Tryz.func25,Tryz.ntmps25
   go_wp2_with fail;go_ret;exact⟨ret_bool HF.out,Below.refl _ _⟩
theorem low0_len {n:Nat} {low:List Int} {xs:List IneqD} (h:OkS (n:Int) low xs):(low0 (n:Int) low).length=n:=by
 unfold low0
 split
 · simp
 · rename_i hne
   rcases h.len with e | e
   · exact absurd e hne
   · omega
theorem low0_rng {n:Nat} {low:List Int} {xs:List IneqD} (h:OkS (n:Int) low xs):∀ z∈low0 (n:Int) low,1≤z∧z≤3:=by
 unfold low0
 split
 · intro z hz; rw[List.eq_of_mem_replicate hz]; omega
 · exact h.rng
theorem getD_mem {l:List Int} {v:Nat} (h:v<l.length):l.getD v 0∈l:=by
 rw[List.getD_eq_getElem?_getD,qj h]; exact List.getElem_mem h
theorem holdsQ_iff {n:Nat} {x:IneqD} {asg:List Int} (hx:OverL n x) (hl:asg.length=n) (hr:∀ v,v<n→1≤asg.getD v 0∧asg.getD v 0≤3):badQ asg x.lv x.lc x.r=false∧(holdsQ asg x.lv x.lc x.c x.r=true↔holdL asg x):=by
 have hok:∀ v:Int,0≤v→v<n→okV asg v=true∧atK asg v=asg.getD v.toNat 0:=fun v h0 h1=>by
  have h2:=hr v.toNat (by omega)
  have h3:okV asg v=true:=by
   unfold okV oneB atV;simp only[Bool.and_eq_true,decide_eq_true_eq]
   exact⟨by omega,h2⟩
  refine⟨h3,?_⟩;unfold atK atV;rw[if_pos h3]
 constructor
 · unfold badQ
   by_cases h0:x.lc=0
   · have:=hx.lv h0
     rw[(hok x.lv this.1 this.2).1]
     by_cases h1:0≤x.r
     · rw[(hok x.r h1 hx.r).1]; simp
     · simp[h1]
   · by_cases h1:0≤x.r
     · rw[(hok x.r h1 hx.r).1]; simp[h0]
     · simp[h0,h1]
 · unfold holdsQ holdL leftQ rightQ leftL
   rw[decide_eq_true_eq]
   by_cases h0:x.lc=0
   · have:=hx.lv h0
     rw[if_pos h0,if_pos h0,(hok x.lv this.1 this.2).2]
     by_cases h1:0≤x.r
     · rw[if_pos h1,if_pos h1,(hok x.r h1 hx.r).2]
     · rw[if_neg h1,if_neg h1]
   · rw[if_neg h0,if_neg h0]
     by_cases h1:0≤x.r
     · rw[if_pos h1,if_pos h1,(hok x.r h1 hx.r).2]
     · rw[if_neg h1,if_neg h1]
def MssV (w:World) (B:Nat) (A:Option Addr) (n c:Nat) (ls:List (List Int)):Prop:=
 ls.length=n∧n≤c∧c≤maxLen∧(0<n→∃ b off,A=some ⟨b,off,none⟩∧b<B∧∀ i (h:i<ls.length),∃ A' c',w.cell? ⟨b,off+i,none⟩=some (.slice A' ls[i].length c')∧RdI .u8 w B A' ls[i].length c' ls[i])
def TabV (w:World) (B:Nat) (v:Value) (t:TabD):Prop:=
 ∃ A1 c1 A2 c2 A3 c3,v=.agg #[.slice A1 t.low.length c1,.slice A2 t.up.length c2,.slice A3 t.pair.length c3]∧RdI .u8 w B A1 t.low.length c1 t.low∧RdI .u8 w B A2 t.up.length c2 t.up∧MssV w B A3 t.pair.length c3 t.pair
section
variable {w w':World} {B B' n c:Nat} {A:Option Addr} {ls:List (List Int)} {us:List Int} {v:Value} {t:TabD}
theorem MssV.below (h:MssV w B A n c ls) (hb:Below B w w'):MssV w' B A n c ls:=by
 refine⟨h.1,h.2.1,h.2.2.1,fun hn=>?_⟩;obtain⟨b,off,e,hbB,hc⟩:=h.2.2.2 hn;refine⟨b,off,e,hbB,fun i hi=>?_⟩;obtain⟨A',c',h1,h2⟩:=hc i hi;exact⟨A',c',(hb.cell (p:=⟨b,off+i,none⟩) hbB).trans h1,h2.below hb⟩
theorem MssV.more (h:MssV w B A n c ls) (hb:B≤B'):MssV w B' A n c ls:=by
 refine⟨h.1,h.2.1,h.2.2.1,fun hn=>?_⟩;obtain⟨b,off,e,hbB,hc⟩:=h.2.2.2 hn
 refine⟨b,off,e,by omega,fun i hi=>?_⟩
 obtain⟨A',c',h1,h2⟩:=hc i hi;exact⟨A',c',h1,h2.more hb⟩
theorem MssV.fresh (h:MssV w w.heap.size A n c ls) (hb:Below w.heap.size w w'):MssV w' w'.heap.size A n c ls:=(h.below hb).more hb.size
theorem RdI.freshM (h:RdI .u8 w w.heap.size A n c us) (hb:Below w.heap.size w w'):RdI .u8 w' w'.heap.size A n c us:=(h.below hb).more hb.size
theorem TabV.fresh (h:TabV w w.heap.size v t) (hb:Below w.heap.size w w'):TabV w' w'.heap.size v t:=by
 obtain⟨A1,c1,A2,c2,A3,c3,e,h1,h2,h3⟩:=h;exact⟨A1,c1,A2,c2,A3,c3,e,h1.freshM hb,h2.freshM hb,h3.fresh hb⟩
end
def notM (m:Int):Bool:=decide (m<1) || decide (m>3)
def findM {α:Type} (p:α→Bool) (l:List α):Int:=match l.findIdx? p with
 | some i=>(i:Int)
 | none => -1
theorem findM_at {α:Type} {p:α→Bool} {l:List α} {i:Nat} (h:i<l.length) (hb:∀ j (h:j<l.length),j<i→p l[j]=false) (hp:p l[i]=true):findM p l=i:=by
 have:l.findIdx? p=some i:=List.findIdx?_eq_some_iff_getElem.2 ⟨h,hp,fun j hj=>by simpa using hb j (by omega) hj⟩
 unfold findM;rw[this]
theorem findM_none {α:Type} {p:α→Bool} {l:List α} (hb:∀ j (h:j<l.length),p l[j]=false):findM p l = -1:=by
 have:l.findIdx? p=none:=List.findIdx?_eq_none_iff.2 fun x hx=>by
  obtain⟨i,hi,rfl⟩:=List.getElem_of_mem hx;exact hb i hi
 unfold findM;rw[this]
theorem findM_any {α:Type} (p:α→Bool) (l:List α):decide (findM p l≥0)=l.any p:=by
 unfold findM
 cases h:l.findIdx? p with
 | none=>
   have:=List.findIdx?_eq_none_iff.1 h;show decide ((-1:Int)≥0)=_
   rw[List.any_eq_false.2 (fun x hx=>by simpa using this x hx)]
   rfl
 | some i=>
   obtain⟨h1,h2,_⟩:=List.findIdx?_eq_some_iff_getElem.1 h;show decide ((i:Int)≥0)=_;rw[List.any_eq_true.2 ⟨_,List.getElem_mem h1,h2⟩];simp
theorem notM_any (m:Int) (w:World):Calls Tryz.prog 124 #[.int .u8 m] w fun e w'=>e=.returned (.bool (notM m))∧w=w':=by
 have H:∀ b,notM m=b→Hid (b=notM m):=fun b h=>qq h.symm
 by_cases h1:m<1
 · have d1:decide (m<1)=true:=by simpa using h1
   have HF:=H true (by simp[notM,h1])
   go_enter Tryz.func124,Tryz.ntmps124
   go_wp2_with fail;go_ret
   exact⟨by rw[← HF.out]; rfl,rfl⟩
 · have d1:decide (m<1)=false:=by simpa using h1
   obtain⟨b,hb⟩:∃ b,decide (m>3)=b:=⟨_,rfl⟩;have HF:=H b (by simp only[notM,d1,hb,Bool.false_or])
   go_enter Tryz.func124,Tryz.ntmps124
   go_wp2_with fail;go_ret
   exact⟨by rw[← HF.out]; rfl,rfl⟩
theorem indexMG (p:Int→Bool) (F:FuncId) (cap:Array Value) (hF:∀ (a:Array Value) (w:World),Sem.run Tryz.prog (callFunc F a) w=.ok (.enter F a) w) (A:Option Addr) (n c:Nat) (us:List Int) (w:World) (B:Nat) (h:RdI .u8 w B A n c us)
 (he:∀ x∈us,Calls Tryz.prog F (#[.int .u8 x]++cap) w fun e w'=>e=.returned (.bool (p x))∧w=w'):
 Calls Tryz.prog 70 #[.slice A n c,.func (.func F) #[] cap] w fun e w'=>e=.returned (.int .i64 (findM p us))∧w=w':=by
 have hlen:=h.len;have m63:n≤9223372036854775807:=Nat.le_trans h.2.1 h.2.2;have H:=qq h;have He:=qq he;clear h he
 go_enter Tryz.func70,Tryz.ntmps70
 go_wp2_with fail
 go_loopg [5,8] n (fun gh _ i wr=>∃ k:Nat,k≤n∧gh=n - k∧i=.int .i64 k∧wr=w∧∀ j (h:j<us.length),j<k→p us[j]=false)
 case atStart=>exact⟨0,Nat.zero_le _,rfl,rfl,rfl,fun j _ hj=>absurd hj (by omega)⟩
 case round=>
  obtain⟨k,hk,rfl,rfl,rfl,hb⟩:=hrel
  by_cases hkm:k<n
  · have d0:decide (k<n)=true:=by simpa using hkm
    have hk':k<us.length:=by omega
    obtain⟨b,off,rfl,_,hc⟩:=H.out.at_ (by omega);have e0:=hc k hk';have Hb:=qq hb;have hq:=He.out us[k] (List.getElem_mem hk');obtain⟨P,hP⟩:∃ P,p us[k]=P:=⟨_,rfl⟩;rw[hP] at hq;have HP:=qq hP
    have k1:(0:Int)≤(k:Int):=by omega
    have k2:(k:Int)<n:=by omega
    clear hc hb hP;obtain⟨y,hy⟩:∃ y,us[k]=y:=⟨_,rfl⟩;rw[hy] at e0 hq;have Hq:=qq hq;clear hy hq
    cases P with
    | true=>
      have HR:Hid ((k:Int)=findM p us):=qq (findM_at hk' Hb.out HP.out).symm;go_wp2_with fail
      refine Hq.out.mono ?_; rintro e w1 ⟨rfl,rfl⟩
      go_wp2_with fail;go_ret;exact⟨ret_int HR.out,rfl⟩
    | false=>
      have Hn:Hid (∀ j (h:j<us.length),j<k+1→p us[j]=false):=qq fun j hj hjk=>by
       rcases Nat.lt_or_ge j k with h | h
       · exact Hb.out j hj h
       · obtain rfl:j=k:=by omega
         exact HP.out
      go_wp2_with fail
      refine Hq.out.mono ?_; rintro e w1 ⟨rfl,rfl⟩
      go_wp2_with fail;go_roundg (n - (k+1))
      case measure=>omega
      case rel=>exact⟨k+1,by omega,rfl,by go_num,rfl,Hn.out⟩
  · have d0:decide (k<n)=false:=by simpa using hkm
    have HR:Hid ((-1:Int)=findM p us):=qq (findM_none fun j hj=>hb j hj (by omega)).symm;clear hb;go_wp2_with fail;go_ret;exact⟨ret_int HR.out,rfl⟩
theorem containsMG (p:Int→Bool) (F:FuncId) (cap:Array Value) (hF:∀ (a:Array Value) (w:World),Sem.run Tryz.prog (callFunc F a) w=.ok (.enter F a) w) (A:Option Addr) (n c:Nat) (us:List Int) (w:World) (B:Nat) (h:RdI .u8 w B A n c us)
 (he:∀ x∈us,Calls Tryz.prog F (#[.int .u8 x]++cap) w fun e w'=>e=.returned (.bool (p x))∧w=w') (r:Bool) (hr:us.any p=r):
 Calls Tryz.prog 27 #[.slice A n c,.func (.func F) #[] cap] w fun e w'=>e=.returned (.bool r)∧w=w':=by
 have hq:=indexMG p F cap hF A n c us w B h he;have hd:=findM_any p us;rw[hr] at hd;obtain⟨i,hi⟩:∃ i,findM p us=i:=⟨_,rfl⟩;rw[hi] at hq hd;have Hq:=qq hq;clear hq hr hi h he
 go_enter Tryz.func27,Tryz.ntmps27
 go_wp2_with fail
 refine Hq.out.mono ?_; rintro e w1 ⟨rfl,rfl⟩
 have Hd:Hid (decide (i≥0)=r):=qq hd;clear hd;go_wp2_with fail;go_ret;exact⟨ret_bool Hd.out,rfl⟩
def noneB (us:List Int):Bool:=us.any notM
theorem none_any {us:List Int} {r:Bool} (hr:noneB us=r) (A:Option Addr) (n c:Nat) (w:World) (B:Nat) (h:RdI .u8 w B A n c us):
 Calls Tryz.prog 69 #[.slice A n c] w fun e w'=>e=.returned (.bool r)∧w=w':=by
 have Hq:=qq (containsMG notM 124 #[] (fun _ _=>rfl) A n c us w B h (fun x _=>by simpa using notM_any x w) r hr)
 clear h hr
 go_enter Tryz.func69,Tryz.ntmps69
 go_wp2_with fail
 refine Hq.out.mono ?_; rintro e w1 ⟨rfl,rfl⟩
 go_wp2_with fail;go_ret;exact⟨rfl,rfl⟩
structure OkTab (k:Nat) (t:TabD):Prop where
 k150:k≤150
 ll:t.low.length=k
 ul:t.up.length=k
 pl:t.pair.length=k
 nl:noneB t.low=false
 nu:noneB t.up=false
 np:∀ l∈t.pair,l.length=k∧noneB l=false
theorem noneB_no {us:List Int} (h:∀ i,i<us.length→1≤us.getD i 0∧us.getD i 0≤3):noneB us=false:=by
 unfold noneB;rw[List.any_eq_false];intro x hx;obtain⟨i,hi,rfl⟩:=List.getElem_of_mem hx;have:=h i hi;rw[List.getD_eq_getElem?_getD,qj hi,Option.getD_some] at this;unfold notM;simp;omega
theorem noneB_rng {us:List Int} (h:noneB us=false) (i:Nat) (hi:i<us.length):1≤us.getD i 0∧us.getD i 0≤3:=by
 unfold noneB at h;rw[List.any_eq_false] at h;have:=h us[i] (List.getElem_mem hi);unfold notM at this;simp at this;rw[List.getD_eq_getElem?_getD,qj hi,Option.getD_some];omega
theorem TabOf.ok {k:Nat} {S:List Int→Prop} {t:TabD} (h:TabOf k S t) (hk:k≤150):OkTab k t:=by
 refine⟨hk,h.ll,h.ul,h.pl,noneB_no fun i hi=>h.rl i (by rw[← h.ll]; exact hi),noneB_no fun i hi=>h.ru i (by rw[← h.ul]; exact hi),fun l hl=>?_⟩
 obtain⟨i,hi,rfl⟩:=List.getElem_of_mem hl
 have hik:i<k:=by rw[← h.pl]; exact hi
 have e1:t.pair.getD i []=t.pair[i]:=by rw[List.getD_eq_getElem?_getD,qj hi]; rfl
 have hlen:=h.pr i hik;rw[e1] at hlen;refine⟨hlen,noneB_no fun j hj=>?_⟩;have:=h.rp i j hik (by omega);unfold pairE at this;rw[e1] at this;exact this
/-- a row of a table that may be -/
theorem rowOk_any {l:List Int} {k:Nat} (hl:l.length=k) (hn:noneB l=false) (b:Nat) (A:Option Addr) (c:Nat) (w:World) (B:Nat) (h:RdI .u8 w B A l.length c l) (hb:w.cell? ⟨b,0,none⟩=some (.int .i64 k)):
 Calls Tryz.prog 119 #[.slice A l.length c,.pointer (some ⟨b,0,none⟩)] w fun e w'=>e=.returned (.bool false)∧w=w':=by
 have d0:((l.length:Int) != k)=false:=by rw[hl]; simp
 have Hq:=qq (none_any hn A l.length c w B h);clear hl hn h
 go_enter Tryz.func119,Tryz.ntmps119
 go_wp2_with fail
 refine Hq.out.mono ?_; rintro e w1 ⟨rfl,rfl⟩
 go_wp2_with fail;go_ret;exact⟨rfl,rfl⟩
theorem rowsIdx_any {k:Nat} (b:Nat) (A:Option Addr) (n c:Nat) (ls:List (List Int)) (w:World) (B:Nat) (h:MssV w B A n c ls) (hok:∀ l∈ls,l.length=k∧noneB l=false) (hb:w.cell? ⟨b,0,none⟩=some (.int .i64 k)):
 Calls Tryz.prog 147 #[.slice A n c,.func (.func 119) #[] #[.pointer (some ⟨b,0,none⟩)]] w fun e w'=>e=.returned (.int .i64 (-1))∧w=w':=by
 have hlen:=h.1;have m63:n≤9223372036854775807:=Nat.le_trans h.2.1 h.2.2.1;have H:=qq h;have Hok:=qq hok;clear h hok
 go_enter Tryz.func147,Tryz.ntmps147
 go_wp2_with fail
 go_loopg [5,8] n (fun gh _ i wr=>∃ k':Nat,k'≤n∧gh=n - k'∧i=.int .i64 k'∧wr=w)
 case atStart=>exact⟨0,Nat.zero_le _,rfl,rfl,rfl⟩
 case round=>
  obtain⟨q,hk,rfl,rfl,rfl⟩:=hrel
  by_cases hkm:q<n
  · have d0:decide (q<n)=true:=by simpa using hkm
    have hk':q<ls.length:=by omega
    obtain⟨b',off,rfl,_,hc⟩:=H.out.2.2.2 (by omega);obtain⟨A',c',e0,hr⟩:=hc q hk';have ho:=Hok.out ls[q] (List.getElem_mem hk');have Hq:=qq (rowOk_any ho.1 ho.2 b A' c' wr B hr hb)
    have k1:(0:Int)≤(q:Int):=by omega
    have k2:(q:Int)<n:=by omega
    clear hc hr ho;obtain⟨y,hy⟩:∃ y,ls[q].length=y:=⟨_,rfl⟩;rw[hy] at e0 Hq;clear hy;go_wp2_with fail
    refine Hq.out.mono ?_; rintro e w1 ⟨rfl,rfl⟩
    go_wp2_with fail;go_roundg (n - (q+1))
    case measure=>omega
    case rel=>exact⟨q+1,by omega,rfl,by go_num,rfl⟩
  · have d0:decide (q<n)=false:=by simpa using hkm
    go_wp2_with fail;go_ret;exact⟨rfl,rfl⟩
theorem rowsHas_any {k:Nat} (b:Nat) (A:Option Addr) (n c:Nat) (ls:List (List Int)) (w:World) (B:Nat) (h:MssV w B A n c ls) (hok:∀ l∈ls,l.length=k∧noneB l=false) (hb:w.cell? ⟨b,0,none⟩=some (.int .i64 k)):
 Calls Tryz.prog 118 #[.slice A n c,.func (.func 119) #[] #[.pointer (some ⟨b,0,none⟩)]] w fun e w'=>e=.returned (.bool false)∧w=w':=by
 have Hq:=qq (rowsIdx_any b A n c ls w B h hok hb);clear h hok
 go_enter Tryz.func118,Tryz.ntmps118
 go_wp2_with fail
 refine Hq.out.mono ?_; rintro e w1 ⟨rfl,rfl⟩
 go_wp2_with fail;go_ret;exact⟨rfl,rfl⟩
theorem tabMay_ok {k:Nat} {t:TabD} (hok:OkTab k t) (v:Value) (w:World) (hv:TabV w w.heap.size v t):
 Calls Tryz.prog 55 #[v] w fun e w'=>e=.returned (.int .i64 0)∧Below w.heap.size w w':=by
 obtain⟨A1,c1,A2,c2,A3,c3,rfl,r1,r2,r3⟩:=hv;obtain⟨hk,ll,ul,pl,nl,nu,np⟩:=hok;rw[ll] at r1 ⊢;rw[ul] at r2 ⊢;rw[pl] at r3 ⊢;obtain⟨W,hW⟩:∃ W,(w.alloc (Obj.cells #[.slice A1 k c1,.slice A2 k c2,.slice A3 k c3] 38)).alloc (Obj.cells #[.int .i64 k] 3)=W:=⟨_,rfl⟩
 have hb:Below w.heap.size w W:=by rw[← hW]; exact((Below.refl _ _).alloc (Nat.le_refl _) _).alloc (by simp) _
 have hz:W.cell? ⟨w.heap.size+1,0,none⟩=some (.int .i64 k):=by
  rw[← hW];have:=(blk_new (w.alloc (Obj.cells #[.slice A1 k c1,.slice A2 k c2,.slice A3 k c3] 38)) #[.int .i64 k] 3).cell 0;rwa [World.size_alloc] at this
 have q1:=r1.below hb;have q2:=r2.below hb;have q3:=r3.below hb
 have H1:Hid (∀ w',w'=W→Calls Tryz.prog 69 #[.slice A1 k c1] w' fun e w2=>e=.returned (.bool false)∧w'=w2):=qq fun w' h=>by subst h; exact none_any nl A1 k c1 _ _ q1
 have H2:Hid (∀ w',w'=W→Calls Tryz.prog 69 #[.slice A2 k c2] w' fun e w2=>e=.returned (.bool false)∧w'=w2):=qq fun w' h=>by subst h; exact none_any nu A2 k c2 _ _ q2
 have H3:Hid (∀ w',w'=W→Calls Tryz.prog 118 #[.slice A3 k c3,.func (.func 119) #[] #[.pointer (some ⟨w.heap.size+1,0,none⟩)]] w' fun e w2=>e=.returned (.bool false)∧w'=w2):=qq fun w' h=>by subst h; exact rowsHas_any (k:=k) (w.heap.size+1) A3 k c3 t.pair _ _ q3 np hz
 have HW:=qq hW;have Hb:=qq hb
 have d0:decide ((k:Int)>150)=false:=by simp; omega
 clear hW hb hz r1 r2 r3 ll ul pl nl nu np q1 q2 q3
 go_enter Tryz.func55,Tryz.ntmps55
 go_wp2_with fail
 refine(H1.out _ HW.out).mono ?_; rintro e w1 ⟨rfl,rfl⟩
 go_wp2_with fail
 refine(H2.out _ HW.out).mono ?_; rintro e w1 ⟨rfl,rfl⟩
 go_wp2_with fail
 refine(H3.out _ HW.out).mono ?_; rintro e w1 ⟨rfl,rfl⟩
 go_wp2_with fail;go_ret;rw[HW.out];exact⟨rfl,Hb.out⟩
def LetsA (k:Nat) (t:TabD) (a:List Int):Prop:=a.length=k∧noneB a=false∧LetsE k t a
def RowL (k:Nat) (t:TabD) (a:List Int) (i:Nat):Prop:=t.low.getD i 0≤a.getD i 0∧a.getD i 0≤t.up.getD i 0∧∀ j,j<k→a.getD i 0≤max (pairE t i j) (a.getD j 0)
theorem getE_at {us:List Int} {i:Nat} (h:i<us.length):us.getD i 0=us[i]:=by rw[List.getD_eq_getElem?_getD,qj h]; rfl
def LetsPost (k:Nat) (t:TabD) (asg:List Int) (w:World) (e:Ending) (w':World):Prop:=∃ b,e=.returned (.bool b)∧(b=true↔LetsA k t asg)∧Below w.heap.size w w'
theorem LetsPost.of {k:Nat} {t:TabD} {asg:List Int} {w w':World} {b:Bool} (h:b=true↔LetsA k t asg) (hb:Below w.heap.size w w'):LetsPost k t asg w (.returned (.bool b)) w':=⟨b,rfl,h,hb⟩
theorem tabLets_any {k:Nat} {t:TabD} (hok:OkTab k t) (v:Value) (Aa:Option Addr) (na ca:Nat) (asg:List Int) (w:World) (hv:TabV w w.heap.size v t) (ha:RdI .u8 w w.heap.size Aa na ca asg):
 Calls Tryz.prog 22 #[v,.slice Aa na ca] w (LetsPost k t asg w):=by
 have hM:=fun W h=>tabMay_ok hok v W h;have hv0:=hv;obtain⟨A1,c1,A2,c2,A3,c3,rfl,r1,r2,r3⟩:=hv;have hla:=ha.len;have hnp:=hok.np;have ll:=hok.ll;have ul:=hok.ul;have pl:=hok.pl;have hk:=hok.k150;have na63:na≤9223372036854775807:=Nat.le_trans ha.2.1 ha.2.2;obtain⟨W,hW⟩:∃ W,w.alloc (Obj.cells #[.slice A1 t.low.length c1,.slice A2 t.up.length c2,.slice A3 t.pair.length c3] 38)=W:=⟨_,rfl⟩;have hb:=below_box (w:=w) (Obj.cells #[.slice A1 t.low.length c1,.slice A2 t.up.length c2,.slice A3 t.pair.length c3] 38);have hz:=blk_new w #[.slice A1 t.low.length c1,.slice A2 t.up.length c2,.slice A3 t.pair.length c3] 38;rw[hW] at hb hz;have Hq:=qq (hM W (hv0.fresh hb));have R1:=qq (r1.freshM hb);have R2:=qq (r2.freshM hb);have R3:=qq (r3.fresh hb);have Ra:=qq (ha.freshM hb);rw[ll] at R1 hW hz Hq ⊢;rw[ul] at R2 hW hz Hq ⊢;rw[pl] at R3 hW hz Hq ⊢;have HW:=qq hW;have Hb:=qq hb;have Hz:=qq hz;have Hnp:=qq hnp;have hpl:=pl;have hmx:=@run_max2 Tryz.prog;clear hM hv0 r1 r2 r3 ha hW hb hz hnp hok
 go_enter Tryz.func22,Tryz.ntmps22
 go_wp2_with fail;rw[HW.out]
 refine Hq.out.mono ?_; rintro e w1 ⟨rfl,hb1⟩
 have hz1:=Hz.out.below hb1 Hz.out.lt;have z0:=hz1.cell 0;have z1:=hz1.cell 1;have z2:=hz1.cell 2;replace R1:=qq (R1.out.freshM hb1);replace R2:=qq (R2.out.freshM hb1);replace R3:=qq (R3.out.fresh hb1);replace Ra:=qq (Ra.out.freshM hb1);have HbF:=qq (Hb.out.trans (hb1.mono Hb.out.size));clear hb1 hz1 Hq
 by_cases hnk:na=k
 case neg=>
  have d1:((na:Int) != k)=true:=by simp; omega
  have HN:Hid (false=true↔LetsA k t asg):=qq ⟨fun h=>Bool.noConfusion h,fun h=>absurd h.1 (by omega)⟩;go_wp2_with fail;go_ret;exact LetsPost.of (b:=false) HN.out HbF.out
 subst hnk
 have d1:((na:Int) != (na:Int))=false:=by simp
 obtain⟨q,hq⟩:∃ q,noneB asg=q:=⟨_,rfl⟩;have Hnq:=qq hq;have Hq:=qq (none_any hq Aa na ca w1 _ Ra.out);clear hq;go_wp2_with fail
 refine Hq.out.mono ?_; rintro e w2 ⟨rfl,rfl⟩
 cases q with
 | true=>
   have HN:Hid (false=true↔LetsA na t asg):=qq ⟨fun h=>Bool.noConfusion h,fun h=>by have:=h.2.1; rw[Hnq.out] at this; cases this⟩
   go_wp2_with fail;go_ret;exact LetsPost.of (b:=false) HN.out HbF.out
 | false=>
 go_wp2_with fail
 go_loopg [26] na (fun gh i wr=>∃ j:Nat,j≤na∧gh=na - j∧i=.int .i64 j∧wr=w1∧∀ i,i<j→RowL na t asg i)
 case atStart=>exact⟨0,Nat.zero_le _,rfl,rfl,rfl,fun i hi=>absurd hi (by omega)⟩
 case round=>
  obtain⟨i,hi,rfl,rfl,rfl,hrows⟩:=hrel
  by_cases hik:i<na
  · have d2:decide (i<na)=true:=by simpa using hik
    obtain⟨ba,oa,rfl,_,hca⟩:=Ra.out.at_ (by omega);obtain⟨b1,o1,rfl,_,hc1⟩:=R1.out.at_ (by omega);obtain⟨b2,o2,rfl,_,hc2⟩:=R2.out.at_ (by omega);obtain⟨b3,o3,rfl,_,hc3⟩:=R3.out.2.2.2 (by omega);have ea:=hca i (by omega);have e1:=hc1 i (by omega);have e2:=hc2 i (by omega)
    have hi3:i<t.pair.length:=by omega
    obtain⟨Ap,cp,e3,hrp⟩:=hc3 i hi3;have hpo:=Hnp.out t.pair[i] (List.getElem_mem hi3);rw[hpo.1] at e3 hrp;obtain⟨m,hm⟩:∃ m,asg.getD i 0=m:=⟨_,rfl⟩;obtain⟨lo,hlo⟩:∃ m,t.low.getD i 0=m:=⟨_,rfl⟩;obtain⟨u,hu⟩:∃ m,t.up.getD i 0=m:=⟨_,rfl⟩;rw[← getE_at,hm] at ea;rw[← getE_at,hlo] at e1;rw[← getE_at,hu] at e2;have Hm:=qq hm;have Hlo:=qq hlo;have Hu:=qq hu;have Hrows:=qq hrows;have Hrp:=qq hrp;have Hca:=qq hca
    have Hpe:Hid (∀ j,pairE t i j=t.pair[i].getD j 0):=qq fun j=>by
     unfold pairE
     rw[List.getD_eq_getElem?_getD (l:=t.pair),qj hi3]; rfl
    obtain⟨pr,hpr⟩:∃ p,t.pair[i]=p:=⟨_,rfl⟩;rw[hpr] at Hrp Hpe
    have k1:(0:Int)≤(i:Int):=by omega
    have k2:(i:Int)<na:=by omega
    have hll1:(i:Int)<t.low.length:=by omega
    clear hm hlo hu hrows hrp hca hc1 hc2 hc3 hpo hpr
    by_cases h1:m<lo
    · have d3:decide (m<lo)=true:=by simpa using h1
      have HN:Hid (false=true↔LetsA na t asg):=qq ⟨fun h=>Bool.noConfusion h,fun h=>by
       have:=(h.2.2 i hik).1;rw[Hm.out,Hlo.out] at this
       omega⟩
      clear h1;go_wp2_with fail;go_ret;exact LetsPost.of (b:=false) HN.out HbF.out
    have d3:decide (m<lo)=false:=by simpa using h1
    by_cases h2:m>u
    · have d4:decide (m>u)=true:=by simpa using h2
      have HN:Hid (false=true↔LetsA na t asg):=qq ⟨fun h=>Bool.noConfusion h,fun h=>by
       have:=(h.2.2 i hik).2.1;rw[Hm.out,Hu.out] at this
       omega⟩
      clear h1 h2;go_wp2_with fail;go_ret;exact LetsPost.of (b:=false) HN.out HbF.out
    have d4:decide (m>u)=false:=by simpa using h2
    have Hlu:Hid (lo≤m∧m≤u):=qq (by omega);clear h1 h2;go_wp2_with fail
    go_loopg [53] na (fun gh i' wr2=>∃ j:Nat,j≤na∧gh=na - j∧i'=.int .i64 j∧wr2=wr∧∀ l,l<j→m≤max (pr.getD l 0) (asg.getD l 0))
    case atStart=>exact⟨0,Nat.zero_le _,rfl,rfl,rfl,fun l hl=>absurd hl (by omega)⟩
    case round=>
     obtain⟨j,hj,rfl,rfl,rfl,hcol⟩:=hrel
     by_cases hjk:j<na
     · have d5:decide (j<na)=true:=by simpa using hjk
       have hprl:=Hrp.out.len;obtain⟨bp,op,rfl,_,hcp⟩:=Hrp.out.at_ (by omega);have e4:=hcp j (by omega);have e5:=Hca.out j (by omega);obtain⟨cj,hcj⟩:∃ m,pr.getD j 0=m:=⟨_,rfl⟩;obtain⟨aj,haj⟩:∃ m,asg.getD j 0=m:=⟨_,rfl⟩;rw[← getE_at,hcj] at e4;rw[← getE_at,haj] at e5;have Hcj:=qq hcj;have Haj:=qq haj;have Hcol:=qq hcol
       have k3:(0:Int)≤(j:Int):=by omega
       have k4:(j:Int)<na:=by omega
       clear hcj haj hcol hcp
       by_cases h3:m>max cj aj
       · have d6:decide (m>max cj aj)=true:=by simpa using h3
         have HN:Hid (false=true↔LetsA na t asg):=qq ⟨fun h=>Bool.noConfusion h,fun h=>by
          have:=(h.2.2 i hik).2.2 j hjk;rw[Hm.out,Hpe.out,Hcj.out,Haj.out] at this
          omega⟩
         clear h3;go_wp2_with fail;go_ret;exact LetsPost.of (b:=false) HN.out HbF.out
       · have d6:decide (m>max cj aj)=false:=by simpa using h3
         have Hc2:Hid (∀ l,l<j+1→m≤max (pr.getD l 0) (asg.getD l 0)):=qq fun l hl=>by
          rcases Nat.lt_or_ge l j with h | h
          · exact Hcol.out l h
          · obtain rfl:l=j:=by omega
            rw[Hcj.out,Haj.out]; omega
         clear h3;go_wp2_with fail;go_roundg (na - (j+1))
         case measure=>omega
         case rel=>exact⟨j+1,by omega,rfl,by go_num,rfl,Hc2.out⟩
     · have d5:decide (j<na)=false:=by simpa using hjk
       have Hr2:Hid (∀ i',i'<i+1→RowL na t asg i'):=qq fun i' hi'=>by
        rcases Nat.lt_or_ge i' i with h | h
        · exact Hrows.out i' h
        · obtain rfl:i'=i:=by omega
          refine⟨by rw[Hm.out,Hlo.out]; exact Hlu.out.1,by rw[Hm.out,Hu.out]; exact Hlu.out.2,fun l hl=>?_⟩
          rw[Hm.out,Hpe.out];exact hcol l (by omega)
       clear hcol;go_wp2_with fail;go_roundg (na - (i+1))
       case measure=>omega
       case rel=>exact⟨i+1,by omega,rfl,by go_num,rfl,Hr2.out⟩
  · have d2:decide (i<na)=false:=by simpa using hik
    have HN:Hid (true=true↔LetsA na t asg):=qq ⟨fun _=>⟨hla,Hnq.out,fun i' hi'=>hrows i' (by omega)⟩,fun _=>rfl⟩;clear hrows;go_wp2_with fail;go_ret
    exact LetsPost.of (b:=true) (by have:=HN.out; simpa using this) HbF.out
end Go.Proofs.YtdmakpmbknindaaGreatDoor
