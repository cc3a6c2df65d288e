import Derived.Test.YtgpeijkjmkocgaaDoorM12
import Derived.Test.YtgpeijkjmkocgaaDoorShelfP
import Derived.Lib.SlicesS
set_option linter.unusedVariables false
set_option linter.unusedSimpArgs false
set_option maxHeartbeats 1000000
set_option maxRecDepth 100000
namespace Go.Proofs.YtgpeijkjmkocgaaDoor
open Go.RowKit
theorem refData_any (A:Option Addr) (n c:Nat) (A2:Option Addr) (n2 c2:Nat) (xs:List DataD) (nm:ByteArray) (w:World) (S:Nat→Prop) (hS:∀ b,S b→b<w.heap.size) (h:Sl w S encDt 3 xs A n c):
  Calls Tryd.prog 60 #[.agg #[.slice A n c,.slice A2 n2 c2],.string nm] w fun e w'=>e=.returned (.int .i64 (idxP (fun x=>decide (x.name=nm)) xs))∧Below w.heap.size w w':=by
 have hbx:=below_box (w:=w) (Obj.cells #[.slice A n c,.slice A2 n2 c2] 25);have hz:=blk_new w #[.slice A n c,.slice A2 n2 c2] 25;obtain⟨W,hW⟩:∃ x,w.alloc (Obj.cells #[.slice A n c,.slice A2 n2 c2] 25)=x:=⟨_,rfl⟩;rw[hW] at hbx hz;have x0:W.cell? ⟨w.heap.size,0,none⟩=some (.slice A n c):=hz.cell 0;have hlen:=h.len;have m63:=h.cap;have H:=qq (h.keep (S':=S) (w':=W) (fun _ h=>h) fun p hp=>hbx.cell (hS _ hp));have Hbx:=qq hbx;have HW:=qq hW;clear hbx hz hW h hS
 go_enter Tryd.func60,Tryd.ntmps60
 go_upto_region 1 with fail;rw[HW.out];go_wp2_with fail
 go_loopg [5] xs.length (fun gh i wr=>∃ k:Nat,k≤xs.length∧gh=xs.length - k∧i=.int .i64 k∧(∀ j (h:j<xs.length),j<k→decide (xs[j].name=nm)=false)∧wr=W)
 case atStart=>exact⟨0,Nat.zero_le _,rfl,rfl,fun j _ hj=>absurd hj (by omega),rfl⟩
 case round=>
  obtain⟨k,hk,rfl,rfl,hno,rfl⟩:=hrel;have Hno:=qq hno;clear hno
  by_cases hkn:k<n
  · have d0:decide (k<n)=true:=by simpa using hkn
    have hk':k<xs.length:=by omega
    obtain⟨b,off,rfl,hb,hc⟩:=datas_at H.out (by omega);obtain⟨q0,q1,A',m',c',q2,q3⟩:=hc k hk';obtain⟨P,hP⟩:∃ P,decide (xs[k].name=nm)=P:=⟨_,rfl⟩;have HP:=qq hP
    have k1:(0:Int)≤(k:Int):=by omega
    have k2:(k:Int)<n:=by omega
    obtain⟨s0,hs0⟩:∃ s,xs[k].name=s:=⟨_,rfl⟩;rw[hs0] at q0 hP
    have dq:(s0.toList==nm.toList)=P:=by rw[str_eq]; exact hP
    clear hc hP hs0
    cases P with
    | false=>
      have hno2:∀ j (h:j<xs.length),j<k+1→decide (xs[j].name=nm)=false:=fun j hj hjk=>by
       rcases Nat.lt_or_ge j k with h | h
       · exact Hno.out j hj h
       · obtain rfl:j=k:=by omega
         exact HP.out
      have Hno2:=qq hno2;clear hno2;go_wp2_with fail;go_roundg (xs.length - (k+1))
      case measure=>omega
      case rel=>exact⟨k+1,by omega,rfl,by go_num,Hno2.out,rfl⟩
    | true=>
      have HF:Hid ((k:Int)=idxP (fun x=>decide (x.name=nm)) xs):=qq (idxP_at hk' Hno.out HP.out).symm;go_wp2_with fail;go_ret;exact⟨ret_int HF.out,Hbx.out⟩
  · have d0:decide (k<n)=false:=by simpa using hkn
    have HF:Hid (-1=idxP (fun x=>decide (x.name=nm)) xs):=qq (idxP_none (fun j hj=>Hno.out j hj (by omega))).symm;go_wp2_with fail;go_ret;exact⟨ret_int HF.out,Hbx.out⟩
theorem refCon_any (A:Option Addr) (n c:Nat) (A2:Option Addr) (n2 c2:Nat) (xs:List ConD) (nm:ByteArray) (w:World) (S:Nat→Prop) (hS:∀ b,S b→b<w.heap.size) (h:Sl w S encCn 4 xs A2 n2 c2):
  Calls Tryd.prog 29 #[.agg #[.slice A n c,.slice A2 n2 c2],.string nm] w fun e w'=>e=.returned (.int .i64 (idxP (fun x=>decide (x.name=nm)) xs))∧Below w.heap.size w w':=by
 have hbx:=below_box (w:=w) (Obj.cells #[.slice A n c,.slice A2 n2 c2] 25);have hz:=blk_new w #[.slice A n c,.slice A2 n2 c2] 25;obtain⟨W,hW⟩:∃ x,w.alloc (Obj.cells #[.slice A n c,.slice A2 n2 c2] 25)=x:=⟨_,rfl⟩;rw[hW] at hbx hz;have x0:W.cell? ⟨w.heap.size,1,none⟩=some (.slice A2 n2 c2):=hz.cell 1;have hlen:=h.len;have m63:=h.cap;have H:=qq (h.keep (S':=S) (w':=W) (fun _ h=>h) fun p hp=>hbx.cell (hS _ hp));have Hbx:=qq hbx;have HW:=qq hW;clear hbx hz hW h hS
 go_enter Tryd.func29,Tryd.ntmps29
 go_upto_region 1 with fail;rw[HW.out];go_wp2_with fail
 go_loopg [5] xs.length (fun gh i wr=>∃ k:Nat,k≤xs.length∧gh=xs.length - k∧i=.int .i64 k∧(∀ j (h:j<xs.length),j<k→decide (xs[j].name=nm)=false)∧wr=W)
 case atStart=>exact⟨0,Nat.zero_le _,rfl,rfl,fun j _ hj=>absurd hj (by omega),rfl⟩
 case round=>
  obtain⟨k,hk,rfl,rfl,hno,rfl⟩:=hrel;have Hno:=qq hno;clear hno
  by_cases hkn:k<n2
  · have d0:decide (k<n2)=true:=by simpa using hkn
    have hk':k<xs.length:=by omega
    obtain⟨b,off,rfl,hb,hc⟩:=cons_at H.out (by omega);obtain⟨q0,q1,⟨A',m',c',q2,q3⟩,A3,m3,c3,q4,q5⟩:=hc k hk';obtain⟨P,hP⟩:∃ P,decide (xs[k].name=nm)=P:=⟨_,rfl⟩;have HP:=qq hP
    have k1:(0:Int)≤(k:Int):=by omega
    have k2:(k:Int)<n2:=by omega
    obtain⟨s0,hs0⟩:∃ s,xs[k].name=s:=⟨_,rfl⟩;rw[hs0] at q0 hP
    have dq:(s0.toList==nm.toList)=P:=by rw[str_eq]; exact hP
    clear hc hP hs0
    cases P with
    | false=>
      have hno2:∀ j (h:j<xs.length),j<k+1→decide (xs[j].name=nm)=false:=fun j hj hjk=>by
       rcases Nat.lt_or_ge j k with h | h
       · exact Hno.out j hj h
       · obtain rfl:j=k:=by omega
         exact HP.out
      have Hno2:=qq hno2;clear hno2;go_wp2_with fail;go_roundg (xs.length - (k+1))
      case measure=>omega
      case rel=>exact⟨k+1,by omega,rfl,by go_num,Hno2.out,rfl⟩
    | true=>
      have HF:Hid ((k:Int)=idxP (fun x=>decide (x.name=nm)) xs):=qq (idxP_at hk' Hno.out HP.out).symm;go_wp2_with fail;go_ret;exact⟨ret_int HF.out,Hbx.out⟩
  · have d0:decide (k<n2)=false:=by simpa using hkn
    have HF:Hid (-1=idxP (fun x=>decide (x.name=nm)) xs):=qq (idxP_none (fun j hj=>Hno.out j hj (by omega))).symm;go_wp2_with fail;go_ret;exact⟨ret_int HF.out,Hbx.out⟩
theorem strs_at {w:World} {S:Nat→Prop} {A:Option Addr} {n c:Nat} {ws:List ByteArray} (h:Sl w S encS 1 ws A n c) (hn:0<n):∃ b off,A=some ⟨b,off,none⟩∧S b∧∀ i (h:i<ws.length),w.cell? ⟨b,off+i,none⟩=some (.string ws[i]):=by
 obtain⟨b,off,e,hb,hr⟩:=Sl.at_ (enc:=encS) (k:=1) (fun _=>rfl) h hn;refine⟨b,off,e,hb,fun i hi=>?_⟩;have:=hr i hi;unfold encS at this;simp only[celsIn_cons,celIn_v] at this;obtain⟨⟨u0,h0,rfl⟩,_⟩:=this;rw[Nat.mul_one] at h0;exact h0
theorem refAt13_any (A:Option Addr) (n c:Nat) (ws:List ByteArray) (nm:ByteArray) (w:World) (S:Nat→Prop) (h:Sl w S encS 1 ws A n c):
  Calls Tryd.prog 79 #[.slice A n c,.string nm] w fun e w'=>e=.returned (.int .i64 (idxS ws nm))∧w'=w:=by
 have hlen:=h.len;have m63:=h.cap;have H:=qq h;clear h
 go_enter Tryd.func79,Tryd.ntmps79
 go_wp2_with fail
 go_loopg [5] n (fun gh i wr=>∃ k:Nat,k≤n∧gh=n - k∧i=.int .i64 k∧(∀ j (h:j<ws.length),j<k→decide (ws[j]=nm)=false)∧wr=w)
 case atStart=>exact⟨0,Nat.zero_le _,rfl,rfl,fun j _ hj=>absurd hj (by omega),rfl⟩
 case round=>
  obtain⟨k,hk,rfl,rfl,hno,rfl⟩:=hrel;have Hno:=qq hno;clear hno
  by_cases hkn:k<n
  · have d0:decide (k<n)=true:=by simpa using hkn
    have hk':k<ws.length:=by omega
    obtain⟨b,off,rfl,hb,hc⟩:=strs_at H.out (by omega);have q0:=hc k hk';obtain⟨P,hP⟩:∃ P,decide (ws[k]=nm)=P:=⟨_,rfl⟩;have HP:=qq hP
    have k1:(0:Int)≤(k:Int):=by omega
    have k2:(k:Int)<n:=by omega
    obtain⟨s0,hs0⟩:∃ s,ws[k]=s:=⟨_,rfl⟩;rw[hs0] at q0 hP
    have dq:(s0.toList==nm.toList)=P:=by rw[str_eq]; exact hP
    clear hc hP hs0
    cases P with
    | false=>
      have hno2:∀ j (h:j<ws.length),j<k+1→decide (ws[j]=nm)=false:=fun j hj hjk=>by
       rcases Nat.lt_or_ge j k with h | h
       · exact Hno.out j hj h
       · obtain rfl:j=k:=by omega
         exact HP.out
      have Hno2:=qq hno2;clear hno2;go_wp2_with fail;go_roundg (n - (k+1))
      case measure=>omega
      case rel=>exact⟨k+1,by omega,rfl,by go_num,Hno2.out,rfl⟩
    | true=>
      have HF:Hid ((k:Int)=idxS ws nm):=qq (idxP_at hk' Hno.out HP.out).symm;go_wp2_with fail;go_ret;exact⟨ret_int HF.out,rfl⟩
  · have d0:decide (k<n)=false:=by simpa using hkn
    have HF:Hid (-1=idxS ws nm):=qq (idxP_none (fun j hj=>Hno.out j hj (by omega))).symm;go_wp2_with fail;go_ret;exact⟨ret_int HF.out,rfl⟩
theorem idxOfS_eq (zs:List ByteArray) (x:ByteArray):Lib.idxOfS zs x=idxS zs x:=by
 have e:zs.take zs.length=zs:=List.take_length;unfold idxS idxP
 cases h:zs.findIdx? (fun y=>decide (y=x)) with
 | none=>
   have h1:=List.findIdx?_eq_none_iff.1 h
   have h2:=Lib.idxOfS_miss zs zs.length x fun j hj=>by
    rw[List.getD_eq_getElem?_getD,qj hj,Option.getD_some]
    simpa using h1 _ (List.getElem_mem hj)
   rwa [e] at h2
 | some k=>
   obtain⟨hk,hp,hno⟩:=List.findIdx?_eq_some_iff_getElem.1 h
   have h2:=Lib.idxOfS_hit zs zs.length k x hk (Nat.le_refl _) (by
    rw[List.getD_eq_getElem?_getD,qj hk,Option.getD_some]
    simpa using hp) fun j hj=>by
    have hj':j<zs.length:=by omega
    rw[List.getD_eq_getElem?_getD,qj hj',Option.getD_some]
    simpa using hno j hj
   rwa [e] at h2
theorem indexS_any (A:Option Addr) (n c:Nat) (ws:List ByteArray) (nm:ByteArray) (w:World) (S:Nat→Prop) (h:Sl w S encS 1 ws A n c):
  Calls Tryd.prog 98 #[.slice A n c,.string nm] w fun e w'=>e=.returned (.int .i64 (idxS ws nm))∧w'=w:=by
 have hl:=h.len
 by_cases h0:n=0
 · subst h0
   have:ws=[]:=List.length_eq_zero_iff.1 hl;subst this
   refine(Tryd.slices_Index_string_empty A c nm w).mono fun e w' ⟨h1,h2⟩=>⟨by rw[h1,idxOfS_eq],h2⟩
 · obtain⟨b,off,rfl,_,hc⟩:=strs_at h (by omega)
   refine(Tryd.slices_Index_string b off n c ws nm w (by omega) h.cap (fun j hj=>?_)).mono fun e w' ⟨h1,h2⟩=>⟨by rw[h1,idxOfS_eq,List.take_of_length_le (by omega)],h2⟩
   rw[hc j hj,List.getD_eq_getElem?_getD,qj hj,Option.getD_some]
theorem containsS_any (A:Option Addr) (n c:Nat) (ws:List ByteArray) (nm:ByteArray) (w:World) (S:Nat→Prop) (h:Sl w S encS 1 ws A n c):
  Calls Tryd.prog 70 #[.slice A n c,.string nm] w fun e w'=>e=.returned (.bool (ws.any fun x=>decide (x=nm)))∧w'=w:=by
 have hl:=h.len
 have hE:Lib.containsS ws nm=ws.any fun x=>decide (x=nm):=Bool.eq_iff_iff.2 (by
  rw[Lib.containsS_iff,List.any_eq_true]
  refine⟨fun h=>⟨nm,h,by simp⟩,fun⟨x,h1,h2⟩=>?_⟩
  have h3:x=nm:=of_decide_eq_true h2;rw[h3] at h1
  exact h1)
 by_cases h0:n=0
 · subst h0
   have:ws=[]:=List.length_eq_zero_iff.1 hl;subst this
   refine(Tryd.slices_Contains_string_empty A c nm w).mono fun e w' ⟨h1,h2⟩=>⟨by rw[h1]; simp,h2⟩
 · obtain⟨b,off,rfl,_,hc⟩:=strs_at h (by omega)
   refine(Tryd.slices_Contains_string b off n c ws nm w (by omega) h.cap (fun j hj=>?_)).mono fun e w' ⟨h1,h2⟩=>⟨by rw[h1,List.take_of_length_le (by omega),hE],h2⟩
   rw[hc j hj,List.getD_eq_getElem?_getD,qj hj,Option.getD_some]
theorem Sl.take {X:Type} {w:World} {S:Nat→Prop} {enc:X→List Cel} {k:Nat} {xs:List X} {A:Option Addr} {m cp:Nat} (h:Sl w S enc k xs A m cp) {i:Nat} (hi:i≤m):Sl w S enc k (xs.take i) A i cp:=by
 refine⟨by rw[List.length_take,h.len]; omega,Nat.le_trans hi h.2.1,h.2.2.1,fun h0=>?_⟩
 obtain⟨b,off,e,hb,hr⟩:=h.2.2.2 (by omega);refine⟨b,off,e,hb,?_⟩
 have e2:xs.flatMap enc=(xs.take i).flatMap enc++(xs.drop i).flatMap enc:=by rw[← List.flatMap_append,List.take_append_drop]
 rw[e2,CelsIn.append] at hr;exact hr.1
theorem builtin_any (s:ByteArray) (w:World):Calls Tryd.prog 78 #[.string s] w fun e w'=>e=.returned (.int .i64 (baseK s).2)∧w'=w:=by
 have q1:=nm_eq s nInt _ nInt_l;have q2:=nm_eq s nStr _ nStr_l;have q3:=nm_eq s nIo _ nIo_l;have q4:=nm_eq s nFile _ nFile_l;have q5:=nm_eq s nArr _ nArr_l
 have n51:nArr≠nInt:=by decide +kernel
 have n52:nArr≠nStr:=by decide +kernel
 have n53:nArr≠nIo:=by decide +kernel
 have n54:nArr≠nFile:=by decide +kernel
 by_cases h5:s=nArr
 · rw[decide_eq_true h5] at q5
   have h1:¬ s=nInt:=h5 ▸ n51;have h2:¬ s=nStr:=h5 ▸ n52;have h3:¬ s=nIo:=h5 ▸ n53;have h4:¬ s=nFile:=h5 ▸ n54
   have HR:Hid ((baseK s).2=1):=qq (by unfold baseK; rw[if_neg h1,if_neg h2,if_neg h3,if_neg h4,if_pos h5])
   have HQ:=qq (And.intro q1 (And.intro q2 (And.intro q3 (And.intro q4 q5))));clear q1 q2 q3 q4 q5 h1 h2 h3 h4 h5;obtain⟨q1,q2,q3,q4,q5⟩:=HQ.out
   go_enter Tryd.func78,Tryd.ntmps78
   go_wp2_with fail;rw[HR.out];go_ret;exact⟨rfl,rfl⟩
 · rw[decide_eq_false h5] at q5
   by_cases h1:s=nInt
   · rw[decide_eq_true h1] at q1
     have HR:Hid ((baseK s).2=0):=qq (by unfold baseK; rw[if_pos h1])
     have HQ:=qq (And.intro q1 (And.intro q2 (And.intro q3 (And.intro q4 q5))));clear q1 q2 q3 q4 q5 h1 h5;obtain⟨q1,q2,q3,q4,q5⟩:=HQ.out
     go_enter Tryd.func78,Tryd.ntmps78
     go_wp2_with fail;rw[HR.out];go_ret;exact⟨rfl,rfl⟩
   · rw[decide_eq_false h1] at q1
     by_cases h2:s=nStr
     · rw[decide_eq_true h2] at q2
       have HR:Hid ((baseK s).2=0):=qq (by unfold baseK; rw[if_neg h1,if_pos h2])
       have HQ:=qq (And.intro q1 (And.intro q2 (And.intro q3 (And.intro q4 q5))));clear q1 q2 q3 q4 q5 h1 h2 h5;obtain⟨q1,q2,q3,q4,q5⟩:=HQ.out
       go_enter Tryd.func78,Tryd.ntmps78
       go_wp2_with fail;rw[HR.out];go_ret;exact⟨rfl,rfl⟩
     · rw[decide_eq_false h2] at q2
       by_cases h3:s=nIo
       · rw[decide_eq_true h3] at q3
         have HR:Hid ((baseK s).2=0):=qq (by unfold baseK; rw[if_neg h1,if_neg h2,if_pos h3])
         have HQ:=qq (And.intro q1 (And.intro q2 (And.intro q3 (And.intro q4 q5))));clear q1 q2 q3 q4 q5 h1 h2 h3 h5;obtain⟨q1,q2,q3,q4,q5⟩:=HQ.out
         go_enter Tryd.func78,Tryd.ntmps78
         go_wp2_with fail;rw[HR.out];go_ret;exact⟨rfl,rfl⟩
       · rw[decide_eq_false h3] at q3
         by_cases h4:s=nFile
         · rw[decide_eq_true h4] at q4
           have HR:Hid ((baseK s).2=0):=qq (by unfold baseK; rw[if_neg h1,if_neg h2,if_neg h3,if_pos h4])
           have HQ:=qq (And.intro q1 (And.intro q2 (And.intro q3 (And.intro q4 q5))));clear q1 q2 q3 q4 q5 h1 h2 h3 h4 h5;obtain⟨q1,q2,q3,q4,q5⟩:=HQ.out
           go_enter Tryd.func78,Tryd.ntmps78
           go_wp2_with fail;rw[HR.out];go_ret;exact⟨rfl,rfl⟩
         · rw[decide_eq_false h4] at q4
           have HR:Hid ((baseK s).2 = -1):=qq (by unfold baseK; rw[if_neg h1,if_neg h2,if_neg h3,if_neg h4,if_neg h5])
           have HQ:=qq (And.intro q1 (And.intro q2 (And.intro q3 (And.intro q4 q5))));clear q1 q2 q3 q4 q5 h1 h2 h3 h4 h5;obtain⟨q1,q2,q3,q4,q5⟩:=HQ.out
           go_enter Tryd.func78,Tryd.ntmps78
           go_wp2_with fail;rw[HR.out];go_ret;exact⟨rfl,rfl⟩
theorem failD_then {X:Type} (d:DiagD) (bad:Bool) (x:Int) (p:PosD) (r:Except DiagD X) (h:r=.error ⟨x,p⟩∧bad=true∨(∃ y,r=.ok y)∧bad=false):failD d bad x p=d.then_ r:=by
 unfold failD DiagD.then_
 rcases h with ⟨rfl,rfl⟩ | ⟨⟨y,rfl⟩,rfl⟩
 · by_cases h0:d.e=0
   · simp[h0]
   · simp[h0]
 · by_cases h0:d.e=0
   · simp[h0]
   · simp[h0]
def nodeD (ds:List DataD) (ps:List ByteArray) (t:TyW):Except DiagD ((Int × Int × Int) × Int):=match nodeE ds ps t.k t.s t.m t.l.length with
 | .error e=>.error ⟨e,t.p⟩
 | .ok r=>.ok r
def lenD {X:Type} (t:TyW) (want:Int) (r:X):Except DiagD X:=if (t.l.length:Int)≠want then .error ⟨132,t.p⟩ else .ok r
theorem nodeE_ne {ds:List DataD} {ps:List ByteArray} {k m:Int} {s:ByteArray} {n:Nat} {e:Int} (h:nodeE ds ps k s m n=.error e):e≠0:=by
 unfold nodeE at h
 repeat' split at h
 all_goals first
  | (injection h with h; omega)
  | cases h
theorem tyE_ne (ds:List DataD) (ps:List ByteArray) (t:TyW):∀ g,tyE ds ps t=.error g→g.e≠0:=by
 induction t using tyW_ind with
 | h t ih=>
   intro g hg;rw[tyE_eq] at hg
   split at hg
   · rename_i e he
     injection hg with hg
     subst hg;exact nodeE_ne he
   · split at hg
     · injection hg with hg
       subst hg;show(132:Int)≠0;decide
     · split at hg
       · rename_i q hq
         injection hg with hg
         subst hg
         have key:∀ l:List TyW,(∀ x∈l,∀ g,tyE ds ps x=.error g→g.e≠0)→∀ g,tyE.tyEL ds ps l=.error g→g.e≠0:=by
          intro l
          induction l with
          | nil=>intro _ g h; cases h
          | cons x l ih2=>
            intro hx g h;rw[tyE.tyEL] at h
            split at h
            · rename_i q' hq'
              injection h with h
              subst h;exact hx x (by simp) _ hq'
            · split at h
              · rename_i q' hq'
                injection h with h
                subst h;exact ih2 (fun y hy=>hx y (List.mem_cons_of_mem _ hy)) _ hq'
              · cases h
         exact key t.l ih _ hq
       · cases hg
theorem tyEL_ne {ds:List DataD} {ps:List ByteArray}:∀ (l:List TyW) (g:DiagD),tyE.tyEL ds ps l=.error g→g.e≠0
 | [],g,h=>by cases h
 | x :: l,g,h=>by
   rw[tyE.tyEL] at h
   split at h
   · rename_i q' hq'
     injection h with h
     subst h;exact tyE_ne ds ps x _ hq'
   · split at h
     · rename_i q' hq'
       injection h with h
       subst h;exact tyEL_ne l _ hq'
     · cases h
theorem tyEL_snoc (ds:List DataD) (ps:List ByteArray):∀ (l:List TyW) (x:TyW),tyE.tyEL ds ps (l++[x])=(match tyE.tyEL ds ps l with
  | .error g=>.error g
  | .ok ys=>(match tyE ds ps x with
    | .error g=>.error g
    | .ok y=>.ok (ys++[y])))
 | [],x=>by
   show tyE.tyEL ds ps [x]=_;rw[tyE.tyEL,tyE.tyEL]
   cases tyE ds ps x <;> rfl
 | a :: l,x=>by
   show tyE.tyEL ds ps (a :: (l++[x]))=_;rw[tyE.tyEL,tyE.tyEL,tyEL_snoc ds ps l x]
   cases tyE ds ps a with
   | error g=>rfl
   | ok y=>
     cases tyE.tyEL ds ps l with
     | error g=>rfl
     | ok ys=>cases tyE ds ps x <;> rfl
theorem tyEL_pre (ds:List DataD) (ps:List ByteArray):∀ (l r:List TyW) (g:DiagD),tyE.tyEL ds ps l=.error g→tyE.tyEL ds ps (l++r)=.error g
 | [],r,g,h=>by cases h
 | a :: l,r,g,h=>by
   show tyE.tyEL ds ps (a :: (l++r))=_;rw[tyE.tyEL] at h ⊢
   cases e:tyE ds ps a with
   | error q=>rw[e] at h; exact h
   | ok y=>
     rw[e] at h;simp only at h ⊢
     cases e2:tyE.tyEL ds ps l with
     | error q=>
       rw[e2] at h;rw[tyEL_pre ds ps l r q e2];exact h
     | ok ys=>rw[e2] at h; cases h
def Kids (ds:List DataD) (ps:List ByteArray) (d2:DiagD) (l:List TyW) (d:DiagD) (xs:List TyD):Prop:=d=d2.then_ (tyE.tyEL ds ps l)∧∀ ys,d2.e=0→tyE.tyEL ds ps l=.ok ys→xs=ys
theorem Kids.nil {ds:List DataD} {ps:List ByteArray} {d2:DiagD}:Kids ds ps d2 [] d2 []:=⟨by unfold DiagD.then_; split <;> rfl,fun ys _ h=>by injection h⟩
theorem Kids.go {ds:List DataD} {ps:List ByteArray} {d2 d d':DiagD} {l:List TyW} {xs:List TyD} {x:TyW} {y:TyD} (h:Kids ds ps d2 l d xs) (h0:d.e=0) (hd:d'=d.then_ (tyE ds ps x)) (hy:∀ z,d.e=0→tyE ds ps x=.ok z→y=z):Kids ds ps d2 (l++[x]) d' (xs++[y]):=by
 obtain⟨h1,h2⟩:=h
 have e2:d2.e=0:=by
  by_cases q:d2.e=0
  · exact q
  · rw[h1] at h0
    unfold DiagD.then_ at h0;rw[if_pos q] at h0;exact absurd h0 q
 cases e:tyE.tyEL ds ps l with
 | error g=>
   rw[h1,e] at h0;unfold DiagD.then_ at h0;rw[if_neg (by simpa using e2)] at h0;exact absurd h0 (tyEL_ne l g e)
 | ok ys=>
   have e3:d=d2:=by rw[h1,e]; unfold DiagD.then_; split <;> rfl
   subst e3;have e4:=h2 ys e2 e;subst e4;refine⟨?_,fun zs _ hz=>?_⟩
   · rw[hd,tyEL_snoc,e]
     unfold DiagD.then_;rw[if_neg (by simpa using e2),if_neg (by simpa using e2)]
     cases tyE ds ps x <;> rfl
   · rw[tyEL_snoc,e] at hz
     cases e5:tyE ds ps x with
     | error g=>rw[e5] at hz; cases hz
     | ok z=>
       rw[e5] at hz
       injection hz with hz
       rw[← hz,hy z e2 e5]
theorem Kids.stop {ds:List DataD} {ps:List ByteArray} {d2 d:DiagD} {l r:List TyW} {xs:List TyD} (h:Kids ds ps d2 l d xs) (h0:d.e≠0):Kids ds ps d2 (l++r) d xs:=by
 obtain⟨h1,h2⟩:=h
 by_cases q:d2.e=0
 · cases e:tyE.tyEL ds ps l with
   | error g=>
     have e2:=tyEL_pre ds ps l r g e
     refine⟨by rw[h1,e,e2],fun ys _ hy=>?_⟩
     rw[e2] at hy; cases hy
   | ok ys=>
     rw[h1,e] at h0;unfold DiagD.then_ at h0;rw[if_neg (by simpa using q)] at h0;exact absurd q h0
 · refine⟨?_,fun ys h=>absurd h q⟩
   rw[h1];unfold DiagD.then_;rw[if_pos q,if_pos q]
theorem tyE_whole {ds:List DataD} {ps:List ByteArray} {t:TyW} {d d1 d2 d3:DiagD} {o:Int × Int × Int} {want:Int} {xs:List TyD} (h1:d1=d.then_ (nodeD ds ps t)) (ho:∀ r,d.e=0→nodeD ds ps t=.ok r→r=(o,want)) (h2:d2=d1.then_ (lenD t want ()))
  (h3:Kids ds ps d2 t.l d3 xs):d3=d.then_ (tyE ds ps t)∧∀ y,d.e=0→tyE ds ps t=.ok y→TyD.mk o.1 o.2.1 0 o.2.2 xs=y:=by
 obtain⟨h4,h5⟩:=h3
 have key:∀ {X:Type} (d:DiagD) (r:Except DiagD X),d.e≠0→d.then_ r=d:=fun d r h=>by unfold DiagD.then_; rw[if_pos h]
 by_cases q:d.e=0
 · rw[tyE_eq]
   cases e:nodeE ds ps t.k t.s t.m t.l.length with
   | error x=>
     have e1:nodeD ds ps t=.error ⟨x,t.p⟩:=by unfold nodeD; rw[e]
     have e2:d1=⟨x,t.p⟩:=by rw[h1,e1]; unfold DiagD.then_; rw[if_neg (by simpa using q)]
     have hx:=nodeE_ne e
     have e3:d3=⟨x,t.p⟩:=by rw[h4,h2,key d1 _ (by rw[e2]; exact hx),key d1 _ (by rw[e2]; exact hx),e2]
     refine⟨?_,fun y _ hy=>by cases hy⟩
     rw[e3];unfold DiagD.then_;rw[if_neg (by simpa using q)]
   | ok r=>
     have e1:nodeD ds ps t=.ok r:=by unfold nodeD; rw[e]
     have er:=ho r q e1;subst er
     have e2:d1=d:=by rw[h1,e1]; unfold DiagD.then_; split <;> rfl
     subst e2;obtain⟨k',n',c'⟩:=o
     by_cases hl:(t.l.length:Int)≠want
     · have e3:d2=⟨132,t.p⟩:=by rw[h2]; unfold DiagD.then_ lenD; rw[if_neg (by simpa using q),if_pos hl]
       have e4:d3=⟨132,t.p⟩:=by rw[h4,key d2 _ (by rw[e3]; exact(show(132:Int)≠0 by decide)),e3]
       simp only[if_pos hl]
       refine⟨?_,fun y _ hy=>by cases hy⟩
       rw[e4];unfold DiagD.then_;rw[if_neg (by simpa using q)]
     · have e3:d2=d1:=by rw[h2]; unfold DiagD.then_ lenD; rw[if_neg hl]; split <;> rfl
       subst e3;simp only[if_neg hl]
       cases e5:tyE.tyEL ds ps t.l with
       | error g=>
         refine⟨by rw[h4,e5]; unfold DiagD.then_; rw[if_neg (by simpa using q)],fun y _ hy=>by cases hy⟩
       | ok ys=>
         refine⟨by rw[h4,e5]; unfold DiagD.then_; rw[if_neg (by simpa using q)],fun y _ hy=>?_⟩
         injection hy with hy
         rw[← hy,h5 ys q e5]
 · refine⟨?_,fun y h=>absurd h q⟩
   have e1:d1=d:=by rw[h1,key d _ q]
   subst e1
   have e2:d2=d1:=by rw[h2,key d1 _ q]
   subst e2;rw[h4,key d2 _ q,key d2 _ q]
theorem nodeD1 {ds:List DataD} {ps:List ByteArray} {t:TyW} (h:t.k=1):nodeD ds ps t=if idxS ps t.s<0 then .error ⟨131,t.p⟩ else .ok ((1,idxS ps t.s,0),0):=by
 unfold nodeD nodeE;rw[if_pos h]
 by_cases q:idxS ps t.s<0
 · rw[if_pos q,if_pos q]
 · rw[if_neg q,if_neg q]
theorem nodeD2 {ds:List DataD} {ps:List ByteArray} {t:TyW} (h:t.k=2):nodeD ds ps t=if (baseK t.s).2<0 then (if idxD ds t.s<0 then .error ⟨131,t.p⟩ else .ok ((8,idxD ds t.s,0),((ds[(idxD ds t.s).toNat]?).map DataD.params).getD 0)) else .ok (((baseK t.s).1,0,0),(baseK t.s).2):=by
 unfold nodeD nodeE;rw[if_neg (by omega),if_pos h]
 by_cases q:(baseK t.s).2<0
 · rw[if_pos q,if_pos q]
   by_cases q2:idxD ds t.s<0
   · rw[if_pos q2,if_pos q2]
   · rw[if_neg q2,if_neg q2]
 · rw[if_neg q,if_neg q]
theorem nodeD3 {ds:List DataD} {ps:List ByteArray} {t:TyW} (h:t.k=3):nodeD ds ps t=if t.l.length≠2∨t.m<1∨3<t.m then .error ⟨2,t.p⟩ else .ok ((7,0,t.m),2):=by
 unfold nodeD nodeE;rw[if_neg (by omega),if_neg (by omega),if_pos h]
 by_cases q:t.l.length≠2∨t.m<1∨3<t.m
 · rw[if_pos q,if_pos q]
 · rw[if_neg q,if_neg q]
theorem nodeDx {ds:List DataD} {ps:List ByteArray} {t:TyW} (h1:t.k≠1) (h2:t.k≠2) (h3:t.k≠3):nodeD ds ps t=.error ⟨2,t.p⟩:=by
 unfold nodeD nodeE;rw[if_neg h1,if_neg h2,if_neg h3]
theorem then_ok {X:Type} {d:DiagD} {r:Except DiagD X} {y:X} (h:r=.ok y):d=d.then_ r:=by subst h; unfold DiagD.then_; split <;> rfl
def wCells (t:TyW) (A:Option Addr) (m cp:Nat):Array Value:=#[.int .u8 t.k,.string t.s,.int .u8 t.m,.int .i64 t.p.at_,.int .i64 t.p.line,.int .i64 t.p.col,.slice A m cp]
def tCells (k n v c:Int) (sl:Value):Array Value:=#[.int .u8 k,.int .i64 n,.int .i64 v,.int .u8 c,sl]
structure TyBx (w:World) (g:Nat) (t:TyW) (A:Option Addr) (m cp:Nat) (vd a1:Value) (d:DiagD) (k n v c:Int) (wx:World):Prop where
 bt:Blk wx w.heap.size 47 (wCells t A m cp)
 br:Blk wx (w.heap.size+1) 63 (tCells 0 0 0 0 (.slice none 0 0))
 bo:Blk wx (w.heap.size+1+1) 63 (tCells k n v c (.slice none 0 0))
 bk:Blk wx g 91 (mkC vd a1 d)
 bu:But g w wx
 gw:g<w.heap.size
theorem But.setNew {g:Nat} {w w':World} (h:But g w w') {b:Nat} (hb:w.heap.size≤b) (i:Nat) (u:Value):But g w (w'.setCell ⟨b,i,none⟩ u):=
 ⟨h.os,h.tape,h.output,by rw[World.size_setCell]; exact h.size,fun k hk hne=>(Below.heap_setCell _ _ _ _ (fun e=>by have:k=b:=e; omega)).trans (h.block k hk hne)⟩
section
variable {w:World} {g:Nat} {t:TyW} {A:Option Addr} {m cp:Nat} {vd a1:Value} {d:DiagD} {k n v c:Int} {wx wy:World}
theorem TyBx.below (h:TyBx w g t A m cp vd a1 d k n v c wx) (hb:Below wx.heap.size wx wy):TyBx w g t A m cp vd a1 d k n v c wy:=
 ⟨h.bt.below hb h.bt.lt,h.br.below hb h.br.lt,h.bo.below hb h.bo.lt,h.bk.below hb h.bk.lt,h.bu.then hb,h.gw⟩
theorem TyBx.diag (h:TyBx w g t A m cp vd a1 d k n v c wx) {d':DiagD} (hk:Blk wy g 91 (mkC vd a1 d')) (hb:But g wx wy):TyBx w g t A m cp vd a1 d' k n v c wy:=
 ⟨h.bt.but hb (by have:=h.gw; omega),h.br.but hb (by have:=h.gw; omega),h.bo.but hb (by have:=h.gw; omega),hk,h.bu.trans hb,h.gw⟩
theorem TyBx.kind (h:TyBx w g t A m cp vd a1 d k n v c wx) (k':Int):TyBx w g t A m cp vd a1 d k' n v c (wx.setCell ⟨w.heap.size+1+1,0,none⟩ (.int .u8 k')):=
 ⟨h.bt.other (by omega) _ _,h.br.other (by omega) _ _,h.bo.set_ 0 _,h.bk.other (by have:=h.gw; omega) _ _,h.bu.setNew (by omega) _ _,h.gw⟩
def set5 (w:World) (g:Nat) (k n v c:Int) (sl:Value):World:=((((w.setCell ⟨g,0,none⟩ (.int .u8 k)).setCell ⟨g,1,none⟩ (.int .i64 n)).setCell ⟨g,2,none⟩ (.int .i64 v)).setCell ⟨g,3,none⟩ (.int .u8 c)).setCell ⟨g,4,none⟩ sl
theorem TyBx.put (h:TyBx w g t A m cp vd a1 d k n v c wx) (k' n' v' c':Int):TyBx w g t A m cp vd a1 d k' n' v' c' (set5 wx (w.heap.size+1+1) k' n' v' c' (.slice none 0 0)):=by
 have hg:=h.gw
 have a1:w.heap.size+1+1≠w.heap.size:=by omega
 have a2:w.heap.size+1+1≠w.heap.size+1:=by omega
 have a3:w.heap.size+1+1≠g:=by omega
 have a4:w.heap.size≤w.heap.size+1+1:=by omega
 exact⟨((((h.bt.other a1 _ _).other a1 _ _).other a1 _ _).other a1 _ _).other a1 _ _,((((h.br.other a2 _ _).other a2 _ _).other a2 _ _).other a2 _ _).other a2 _ _,((((h.bo.set_ 0 _).set_ 1 _).set_ 2 _).set_ 3 _).set_ 4 _,
  ((((h.bk.other a3 _ _).other a3 _ _).other a3 _ _).other a3 _ _).other a3 _ _,((((h.bu.setNew a4 _ _).setNew a4 _ _).setNew a4 _ _).setNew a4 _ _).setNew a4 _ _,hg⟩
end
section
variable {S X:Type}
def foldE (step:S→X→Except DiagD S):S→List X→Except DiagD S
 | s,[]=>.ok s
 | s,x :: r=>match step s x with
   | .error g=>.error g
   | .ok s'=>foldE step s' r
theorem foldE_snoc (step:S→X→Except DiagD S) (x:X):∀ (l:List X) (s:S),foldE step s (l++[x])=match foldE step s l with
  | .error g=>.error g
  | .ok s'=>step s' x
 | [],s=>by
   simp only[List.nil_append,foldE]
   cases step s x <;> rfl
 | y :: l,s=>by
   simp only[List.cons_append,foldE]
   cases step s y with
   | error g=>rfl
   | ok s'=>exact foldE_snoc step x l s'
theorem foldE_pre (step:S→X→Except DiagD S):∀ (l r:List X) (s:S) (g:DiagD),foldE step s l=.error g→foldE step s (l++r)=.error g
 | [],r,s,g,h=>by simp[foldE] at h
 | x :: l,r,s,g,h=>by
   simp only[List.cons_append,foldE] at h ⊢
   cases hx:step s x with
   | error g'=>rw[hx] at h; exact h
   | ok s'=>rw[hx] at h; exact foldE_pre step l r s' g h
theorem foldE_ne {step:S→X→Except DiagD S} (hne:∀ s x g,step s x=.error g→g.e≠0):∀ (l:List X) (s:S) (g:DiagD),foldE step s l=.error g→g.e≠0
 | [],s,g,h=>by simp[foldE] at h
 | x :: l,s,g,h=>by
   simp only[foldE] at h
   cases hx:step s x with
   | error g'=>
     rw[hx] at h
     injection h with h
     subst h;exact hne _ _ _ hx
   | ok s'=>rw[hx] at h; exact foldE_ne hne l s' g h
def FoldP (step:S→X→Except DiagD S) (s0:S) (d0:DiagD) (l:List X) (s:S) (d:DiagD):Prop:=
 d=d0.then_ (foldE step s0 l)∧∀ s',d0.e=0→foldE step s0 l=.ok s'→s=s'
variable {step:S→X→Except DiagD S} {s0 s s1:S} {d0 d d':DiagD} {l r:List X} {x:X}
theorem FoldP.nil:FoldP step s0 d0 [] s0 d0:=⟨then_ok rfl,fun s' _ h=>by injection h⟩
theorem FoldP.stop (h:FoldP step s0 d0 l s d) (hd:d.e≠0) (s1:S):FoldP step s0 d0 (l++r) s1 d:=by
 obtain⟨h1,h2⟩:=h
 by_cases h0:d0.e=0
 · cases hl:foldE step s0 l with
   | ok s'=>
     rw[hl] at h1;unfold DiagD.then_ at h1;rw[if_neg (by simpa using h0)] at h1;simp only at h1;rw[h1] at hd;exact absurd h0 hd
   | error g=>
     have h3:=foldE_pre step l r s0 g hl
     refine⟨by rw[h3]; rw[hl] at h1; exact h1,fun s' _ h=>by rw[h3] at h; cases h⟩
 · refine⟨?_,fun s' h=>absurd h h0⟩
   unfold DiagD.then_ at h1 ⊢;rw[if_pos h0] at h1 ⊢;exact h1
theorem FoldP.go (hne:∀ s x g,step s x=.error g→g.e≠0) (h:FoldP step s0 d0 l s d) (hd:d.e=0) (hd':d'=d.then_ (step s x)) (hs:∀ s',step s x=.ok s'→s1=s'):FoldP step s0 d0 (l++[x]) s1 d':=by
 obtain⟨h1,h2⟩:=h
 have h0:d0.e=0:=by
  rcases Decidable.em (d0.e=0) with q | q
  · exact q
  · unfold DiagD.then_ at h1
    rw[if_pos q] at h1;rw[h1] at hd;exact hd
 cases hl:foldE step s0 l with
 | error g=>
   rw[hl] at h1;unfold DiagD.then_ at h1;rw[if_neg (by simpa using h0)] at h1;simp only at h1;rw[h1] at hd;exact absurd hd (foldE_ne hne _ _ _ hl)
 | ok s'=>
   have hss:=h2 s' h0 hl;subst hss;have hsn:=foldE_snoc step x l s0;rw[hl] at hsn;simp only at hsn;rw[hl] at h1;unfold DiagD.then_ at h1;rw[if_neg (by simpa using h0)] at h1;simp only at h1;subst h1
   refine⟨by rw[hsn]; exact hd',fun s' _ h=>hs s' (by rw[← hsn]; exact h)⟩
end
theorem headsE_eq:∀ (l:List DeclD) (s:SigD),headsE s l=foldE headE s l
 | [],s=>rfl
 | d :: l,s=>by
   simp only[headsE,foldE]
   cases headE s d with
   | error g=>rfl
   | ok s'=>exact headsE_eq l s'
theorem consE_eq (n:Nat) (ps:List ByteArray):∀ (l:List ConW) (s:SigD),consE n ps s l=foldE (fun s c=>conE s n ps c) s l
 | [],s=>rfl
 | c :: l,s=>by
   simp only[consE,foldE]
   cases conE s n ps c with
   | error g=>rfl
   | ok s'=>exact consE_eq n ps l s'
def bodyE (n:Nat) (s:SigD) (d:DeclD):Except DiagD SigD:=if d.cons=[] then .error ⟨2,d.p⟩ else consE n d.params s d.cons
def bodyS (q:Nat × SigD) (d:DeclD):Except DiagD (Nat × SigD):=match bodyE q.1 q.2 d with
 | .error g=>.error g
 | .ok s'=>.ok (q.1+1,s')
theorem bodiesE_eq:∀ (l:List DeclD) (n:Nat) (s:SigD),bodiesE n s l=match foldE bodyS (n,s) l with
  | .error g=>.error g
  | .ok q=>.ok q.2
 | [],n,s=>rfl
 | d :: l,n,s=>by
   simp only[bodiesE,foldE,bodyS,bodyE]
   by_cases h:d.cons=[]
   · simp[h]
   · simp only[h,if_false]
     cases consE n d.params s d.cons with
     | error g=>rfl
     | ok s'=>exact bodiesE_eq l (n+1) s'
def fieldK (f:FieldD) (p:PosD) (r:Except DiagD TyD) (big:TyD→Bool):Except DiagD (Int × TyD):=
 if f.m<1∨3<f.m then .error ⟨2,p⟩ else
  match r with
  | .error g=>.error g
  | .ok t=>if big t=true then .error ⟨3,p⟩ else .ok (f.m,t)
def bigT (t:TyD):Bool:=decide (300<sizeW t)
def fieldE (ds:List DataD) (ps:List ByteArray) (p:PosD) (f:FieldD):Except DiagD (Int × TyD):=fieldK f p (tyE ds ps f.t) bigT
def snocK (acc:List (Int × TyD)) (z:Except DiagD (Int × TyD)):Except DiagD (List (Int × TyD)):=match z with
 | .error g=>.error g
 | .ok y=>.ok (acc++[y])
def fieldS (ds:List DataD) (ps:List ByteArray) (p:PosD) (acc:List (Int × TyD)) (f:FieldD):Except DiagD (List (Int × TyD)):=snocK acc (fieldE ds ps p f)
def consK (z:Except DiagD (Int × TyD)) (q:Except DiagD (List (Int × TyD))):Except DiagD (List (Int × TyD)):=match z with
 | .error g=>.error g
 | .ok y=>match q with
   | .error g=>.error g
   | .ok fs=>.ok (y :: fs)
theorem fieldsE_cons (ds:List DataD) (ps:List ByteArray) (p:PosD) (f:FieldD) (l:List FieldD):fieldsE ds ps p (f :: l)=consK (fieldE ds ps p f) (fieldsE ds ps p l):=by
 rw[fieldsE];unfold fieldE;generalize tyE ds ps f.t=r;generalize fieldsE ds ps p l=q
 by_cases h:f.m<1∨3<f.m
 · have hK:fieldK f p r bigT=.error ⟨2,p⟩:=if_pos h
   rw[hK];exact if_pos h
 · refine(if_neg h).trans ?_
   cases r with
   | error g=>
     have hK:fieldK f p (.error g) bigT=.error g:=if_neg h;rw[hK];rfl
   | ok t=>
     rcases Decidable.em (300<sizeW t) with h2 | h2
     · have hK:fieldK f p (.ok t) bigT=.error ⟨3,p⟩:=(if_neg h).trans (if_pos (decide_eq_true h2))
       rw[hK];exact if_pos h2
     · have hK:fieldK f p (.ok t) bigT=.ok (f.m,t):=(if_neg h).trans (if_neg (fun e=>h2 (of_decide_eq_true e)))
       rw[hK];refine(if_neg h2).trans ?_
       cases q <;> rfl
theorem fieldsE_acc (ds:List DataD) (ps:List ByteArray) (p:PosD):∀ (l:List FieldD) (acc:List (Int × TyD)),foldE (fieldS ds ps p) acc l=match fieldsE ds ps p l with
  | .error g=>.error g
  | .ok fs=>.ok (acc++fs)
 | [],acc=>by rw[foldE,fieldsE]; simp
 | f :: l,acc=>by
   rw[foldE,fieldsE_cons,fieldS];generalize fieldE ds ps p f=r
   cases r with
   | error g=>rfl
   | ok y=>
     show foldE (fieldS ds ps p) (acc++[y]) l=_;rw[fieldsE_acc ds ps p l];generalize fieldsE ds ps p l=q
     cases q with
     | error g=>rfl
     | ok fs=>
       show Except.ok (acc++[y]++fs)=Except.ok (acc++(y :: fs));rw[List.append_assoc];rfl
theorem fieldsE_eq (ds:List DataD) (ps:List ByteArray) (p:PosD) (l:List FieldD):fieldsE ds ps p l=foldE (fieldS ds ps p) [] l:=by
 rw[fieldsE_acc]
 cases fieldsE ds ps p l <;> simp
theorem fieldE_ne {ds:List DataD} {ps:List ByteArray} {p:PosD} {f:FieldD} {g:DiagD} (h:fieldE ds ps p f=.error g):g.e≠0:=by
 unfold fieldE fieldK at h;have hne:=tyE_ne ds ps f.t;generalize tyE ds ps f.t=r at h hne;generalize bigT=big at h
 split at h
 · injection h with h; subst h; exact(by decide:(2:Int)≠0)
 · cases r with
   | error g'=>
     injection h with h; subst h
     exact hne _ rfl
   | ok t=>
     cases hb:big t with
     | true=>
       simp only[hb,if_true] at h
       injection h with h; subst h; exact(by decide:(3:Int)≠0)
     | false=>
       simp only[hb,Bool.false_eq_true,if_false] at h
       cases h
theorem fieldS_ne (ds:List DataD) (ps:List ByteArray) (p:PosD) (acc:List (Int × TyD)) (f:FieldD) (g:DiagD) (h:fieldS ds ps p acc f=.error g):g.e≠0:=by
 unfold fieldS at h;have hne:=@fieldE_ne ds ps p f;generalize fieldE ds ps p f=E at h hne
 cases E with
 | error g'=>
   injection h with h; subst h
   exact hne rfl
 | ok y=>cases h
theorem conE_ne {s:SigD} {n:Nat} {ps:List ByteArray} {c:ConW} {g:DiagD} (h:conE s n ps c=.error g):g.e≠0:=by
 unfold conE at h
 split at h
 · injection h with h; subst h; exact(by decide:(3:Int)≠0)
 · split at h
   · injection h with h; subst h; exact(by decide:(130:Int)≠0)
   · split at h
     · injection h with h; subst h; exact(by decide:(3:Int)≠0)
     · split at h
       · rename_i hx
         injection h with h; subst h
         rw[fieldsE_eq] at hx;exact foldE_ne (fieldS_ne _ _ _) _ _ _ hx
       · cases h
theorem consE_ne {n:Nat} {ps:List ByteArray} {s:SigD} {l:List ConW} {g:DiagD} (h:consE n ps s l=.error g):g.e≠0:=by
 rw[consE_eq] at h;exact foldE_ne (fun _ _ _=>conE_ne) _ _ _ h
theorem headE_ne (s:SigD) (d:DeclD) (g:DiagD) (h:headE s d=.error g):g.e≠0:=by
 unfold headE at h
 split at h
 · injection h with h; subst h; exact(by decide:(2:Int)≠0)
 · split at h
   · injection h with h; subst h; exact(by decide:(3:Int)≠0)
   · split at h
     · injection h with h; subst h; exact(by decide:(130:Int)≠0)
     · split at h
       · injection h with h; subst h; exact(by decide:(3:Int)≠0)
       · split at h
         · injection h with h; subst h; exact(by decide:(130:Int)≠0)
         · cases h
theorem bodyE_ne {n:Nat} {s:SigD} {d:DeclD} {g:DiagD} (h:bodyE n s d=.error g):g.e≠0:=by
 unfold bodyE at h
 split at h
 · injection h with h; subst h; exact(by decide:(2:Int)≠0)
 · exact consE_ne h
theorem bodyS_ne (q:Nat × SigD) (d:DeclD) (g:DiagD) (h:bodyS q d=.error g):g.e≠0:=by
 unfold bodyS at h
 split at h
 · rename_i hx
   injection h with h; subst h
   exact bodyE_ne hx
 · cases h
theorem con_law (s:SigD) (n:Nat) (ps:List ByteArray) (c:ConW) (d:DiagD) (b1 b2 b3:Bool) (h0:d.e=0) (h1:b1=true↔100≤s.cons.length) (h2:b2=true↔0≤idxC s.cons c.name) (h3:b3=true↔8<c.fields.length):
  ((failD (failD (failD d b1 3 c.p) b2 130 c.p) b3 3 c.p).e≠0∧failD (failD (failD d b1 3 c.p) b2 130 c.p) b3 3 c.p=d.then_ (conE s n ps c)∧∀ s',conE s n ps c ≠ .ok s') ∨
  (failD (failD (failD d b1 3 c.p) b2 130 c.p) b3 3 c.p=d∧s.cons.length<100∧c.fields.length≤8∧conE s n ps c=match fieldsE s.datas ps c.p c.fields with
    | .error g=>.error g
    | .ok fs=>.ok (addCon s n ⟨c.name,n,fs.map (·.2),fs.map (·.1)⟩)):=by
 unfold DiagD.then_ conE;rw[if_neg (by omega)]
 by_cases q1:100≤s.cons.length
 · rw[if_pos q1,h1.2 q1]; left; simp[failD,h0]
 · rw[if_neg q1,show b1=false from by simpa using mt h1.1 q1]
   by_cases q2:0≤idxC s.cons c.name
   · rw[if_pos q2,h2.2 q2]; left; simp[failD,h0]
   · rw[if_neg q2,show b2=false from by simpa using mt h2.1 q2]
     by_cases q3:8<c.fields.length
     · rw[if_pos q3,h3.2 q3]; left; simp[failD,h0]
     · rw[if_neg q3,show b3=false from by simpa using mt h3.1 q3]
       right
       exact⟨by simp[failD],by omega,by omega,rfl⟩
theorem failD_no' (d:DiagD) (x:Int) (p:PosD):failD d false x p=d:=by simp[failD]
theorem failD_hit {d:DiagD} (h:d.e=0) (x:Int) (p:PosD):failD d true x p=⟨x,p⟩:=by simp[failD,h]
theorem failD_ne {d:DiagD} (h:d.e≠0) (b:Bool) (x:Int) (p:PosD):failD d b x p=d:=by simp[failD,h]
theorem then_ne {X:Type} {d:DiagD} (h:d.e≠0) (r:Except DiagD X):d.then_ r=d:=by unfold DiagD.then_; rw[if_pos h]
theorem then_z {X:Type} {d:DiagD} (h:d.e=0) (r:Except DiagD X):d.then_ r=match r with
 | .error g=>g
 | .ok _=>d:=by unfold DiagD.then_; rw[if_neg (fun q=>q h)]; cases r <;> rfl
theorem field_core {p:PosD} {f:FieldD} {d d1 d2 d3:DiagD} {b1 b3:Bool} {y:TyD} {r:Except DiagD TyD} {big:TyD→Bool} (hne:∀ g,r=.error g→g.e≠0) (h1:b1=true↔f.m<1∨3<f.m) (hd1:d1=failD d b1 2 p) (hd2:d2=d1.then_ r) (hy:∀ z,d1.e=0→r=.ok z→y=z) (h3:d2.e=0→b3=big y) (hd3:d3=failD d2 b3 3 p) (acc:List (Int × TyD)):
  (d.e=0→d3=d.then_ (fieldK f p r big)∧∀ z,fieldK f p r big=.ok z→(f.m,y)=z)∧(d.e≠0→d3=d):=by
 refine⟨fun h0=>?_,fun h0=>?_⟩
 · rw[then_z h0]
   by_cases q1:f.m<1∨3<f.m
   · have hK:fieldK f p r big=.error ⟨2,p⟩:=if_pos q1
     rw[hK];have hb:b1=true:=h1.2 q1;rw[hb,failD_hit h0] at hd1
     have hn:d1.e≠0:=by rw[hd1]; exact(by decide:(2:Int)≠0)
     rw[then_ne hn] at hd2;rw[hd2,failD_ne hn] at hd3
     exact⟨by rw[hd3,hd1],fun l h=>by cases h⟩
   · have hb:b1=false:=by cases b1; rfl; exact absurd (h1.1 rfl) q1
     rw[hb,failD_no'] at hd1;rw[hd1] at hd2 hy;rw[then_z h0] at hd2
     cases r with
     | error g=>
       have hK:fieldK f p (.error g) big=.error g:=if_neg q1;rw[hK];have hg:=hne g rfl;have hd2':d2=g:=hd2;rw[← hd2'] at hg;rw[failD_ne hg] at hd3
       exact⟨by rw[hd3,hd2'],fun l h=>by cases h⟩
     | ok t=>
       have hd2':d2=d:=hd2;have hyt:=hy t h0 rfl;subst hyt
       have h3':=h3 (by rw[hd2']; exact h0)
       cases hb3:big y with
       | true=>
         have hK:fieldK f p (.ok y) big=.error ⟨3,p⟩:=(if_neg q1).trans (if_pos hb3);rw[hK];rw[h3',hb3,hd2',failD_hit h0] at hd3
         exact⟨hd3,fun l h=>by cases h⟩
       | false=>
         have hK:fieldK f p (.ok y) big=.ok (f.m,y):=(if_neg q1).trans (if_neg (by rw[hb3]; exact Bool.false_ne_true))
         rw[hK];rw[h3',hb3,failD_no',hd2'] at hd3
         exact⟨hd3,fun l h=>by injection h⟩
 · rw[failD_ne h0] at hd1
   rw[hd1,then_ne h0] at hd2;rw[hd2,failD_ne h0] at hd3;exact hd3
theorem fieldS_of {acc:List (Int × TyD)} {d:DiagD} (h0:d.e=0) {d3:DiagD} {y:Int × TyD} {E:Except DiagD (Int × TyD)} (h:d3=d.then_ E∧∀ z,E=.ok z→y=z):d3=d.then_ (snocK acc E)∧∀ l,snocK acc E=.ok l→acc++[y]=l:=by
 obtain⟨h1,h2⟩:=h;rw[then_z h0] at h1 ⊢
 cases E with
 | error g=>exact⟨h1,fun l q=>by cases q⟩
 | ok z=>exact⟨h1,fun l q=>by injection q with q; rw[h2 z rfl]; exact q⟩
theorem field_law {ds:List DataD} {ps:List ByteArray} {p:PosD} {f:FieldD} {d d1 d2 d3:DiagD} {b1 b3:Bool} {y:TyD} (h1:b1=true↔f.m<1∨3<f.m) (hd1:d1=failD d b1 2 p) (hd2:d2=d1.then_ (tyE ds ps f.t)) (hy:∀ z,d1.e=0→tyE ds ps f.t=.ok z→y=z) (h3:d2.e=0→b3=bigT y) (hd3:d3=failD d2 b3 3 p) (acc:List (Int × TyD)):
  (d.e=0→d3=d.then_ (fieldS ds ps p acc f)∧∀ l,fieldS ds ps p acc f=.ok l→acc++[(f.m,y)]=l)∧(d.e≠0→d3=d):=by
 have h:=field_core (r:=tyE ds ps f.t) (big:=bigT) (tyE_ne ds ps f.t) h1 hd1 hd2 hy h3 hd3 acc;exact⟨fun h0=>fieldS_of h0 (h.1 h0),h.2⟩
end Go.Proofs.YtgpeijkjmkocgaaDoor
