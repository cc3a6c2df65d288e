import Derived.Test.YtgpeijkjmkocgaaDoorM30
import Derived.Test.YtgpeijkjmkocgaaDoorM20
import Derived.Test.YtgpeijkjmkocgaaDoorM9
import Derived.Laws.StructEq
set_option linter.unusedVariables false
set_option linter.unusedSimpArgs false
set_option maxHeartbeats 4000000
set_option maxRecDepth 100000
namespace Go.Proofs.YtgpeijkjmkocgaaDoor
open Go.RowKit
def sW:SigD:=⟨givenS.datas++[⟨nT,1,[15,16]⟩],givenS.cons++[⟨nA,9,[.mk 1 0 0 0 [],.mk 8 9 0 0 [.mk 1 0 0 0 []]],[1,3]⟩,⟨nB,9,[],[]⟩]⟩
theorem sW_check:checkE givenS [tD]=.ok sW:=by kernel_rfl
def tInt:TyD:=.mk 2 0 0 0 []
def wE:List UInt8:=[84,32,73,110,116]
def names10:List ByteArray:=[⟨#[]⟩,⟨#[]⟩,⟨#[]⟩,⟨#[]⟩,⟨#[]⟩,⟨#[]⟩,⟨#[]⟩,⟨#[]⟩,⟨#[]⟩,⟨#[84]⟩]
theorem sW_fl:flE sW 15 [tInt]=0:=by kernel_rfl
theorem sW_flL:flL sW 15 [tInt]=[tInt,.mk 8 9 0 0 [tInt]]:=by kernel_rfl
theorem sW_tx:txB names10 (.mk 8 9 0 0 [tInt])=wE:=by kernel_rfl
theorem sW_may:mayT (.mk 8 9 0 0 [tInt])=true:=by kernel_rfl
theorem sW_nc:∀ x∈sW.cons,x.name.size+1≤maxLen:=fun x hx=>by
 have h:sW.cons.all (fun x=>decide (x.name.size≤1000))=true:=by kernel_rfl
 have:=List.all_eq_true.1 h x hx;simp only[decide_eq_true_eq] at this
 unfold maxLen; omega
theorem sW_nd:∀ x∈sW.datas,x.name.size+1≤maxLen:=fun x hx=>by
 have h:sW.datas.all (fun x=>decide (x.name.size≤1000))=true:=by kernel_rfl
 have:=List.all_eq_true.1 h x hx;simp only[decide_eq_true_eq] at this
 unfold maxLen; omega
theorem tD_one:tD.one:=⟨0,⟨#[]⟩,0,0,0,0,none,0,0,none,0,0,rfl,rfl,rfl,rfl,rfl,rfl,rfl,rfl⟩
theorem encS_len (x:ByteArray):(encS x).length=1:=rfl
theorem dC {w:World} {S:Nat→Prop} {Ap:Option Addr} {np cp:Nat} {Ac:Option Addr} {nc cc:Nat} (h1:Sl w S encS 1 tD.params Ap np cp) (h2:Sl w S encC 5 tD.cons Ac nc cc):CelsV w S (encD tD) (dlCells tD Ap np cp Ac nc cc).toList:=
 ⟨celIn_v.2 rfl,celIn_v.2 rfl,celIn_v.2 rfl,celIn_v.2 rfl,celIn_v.2 rfl,(sl_iff encS_len (by omega)).2 ⟨_,_,_,rfl,h1⟩,(sl_iff encC_len (by omega)).2 ⟨_,_,_,rfl,h2⟩,celIn_v.2 rfl,celIn_v.2 rfl,celIn_v.2 rfl,celIn_v.2 rfl,celIn_v.2 rfl,celIn_v.2 rfl,celIn_v.2 rfl,celIn_v.2 rfl,celIn_v.2 rfl,trivial⟩
theorem works_any (w:World) (ht:Tab w):Calls Tryd.prog 12 #[] w fun e w'=>e=.returned (.bool true)∧Below w.heap.size w w':=by
 have Ht:=qq ht;clear ht
 go_enter Tryd.func12,Tryd.ntmps12
 go_upto_region 1 with fail;refine wp_region_list ?_;refine wpList_plain rfl fun K hK=>?_;go_simp;refine(t_any w).mono ?_;rintro e w1 ⟨Ap,np,cp,Ac,nc,cc,rfl,h1,h2,hb1⟩;refine hK _ _ ?_;clear hK K
 have hs:=Sl.new (enc:=encD) (k:=16) w1 (Lt w1.heap.size) (fun _ h=>h) [tD] (dlCells tD Ap np cp Ac nc cc).toList 40 1 rfl (by unfold maxLen; omega) (by rw[List.flatMap_cons,List.flatMap_nil,List.append_nil]; exact dC h1 h2)
 have hbx:=below_box (w:=w1) (Obj.cells (dlCells tD Ap np cp Ac nc cc) 40)
 have hsz:(w1.alloc (Obj.cells (dlCells tD Ap np cp Ac nc cc) 40)).heap.size=w1.heap.size+1:=by simp
 obtain⟨w2,hw2⟩:∃ q,w1.alloc (Obj.cells (dlCells tD Ap np cp Ac nc cc) 40)=q:=⟨_,rfl⟩;rw[Array.toArray_toList,hw2] at hs;rw[hw2] at hbx hsz;simp only[dlCells,tD,nT,atP,Int.reduceAdd] at hw2 ⊢;refine wpList_plain rfl fun K hK=>?_;go_simp;refine hK _ _ ?_;clear hK K
 (try rw[hw2])
 have hs2:=hs.mono (S':=Lt w2.heap.size) fun b hb=>by
  rcases hb with hb | hb
  · exact Nat.lt_of_lt_of_le hb hbx.size
  · show b<w2.heap.size; omega
 have hb2:=hb1.trans (hbx.mono hb1.size);have Hs2:=qq hs2;have Hb2:=qq hb2;clear hs hbx hs2 hb1 hb2 h1 h2 hsz;refine wpList_plain rfl fun K hK=>?_;go_simp
 refine(check_any _ 1 1 [tD] w2 Hs2.out (fun d hd=>by rw[List.mem_singleton.1 hd]; exact tD_one) (by omega)).mono ?_
 rintro e w3 ⟨A1,n1,c1,A2,n2,c2,dg,rfl,hb3,hor⟩;refine hK _ _ ?_;clear hK K hw2
 have hsig:dg=diagZ∧SigR w3 (Lt w3.heap.size) sW A1 n1 c1 A2 n2 c2:=by
  rcases hor with ⟨g,hg,_⟩ | ⟨z,hz,h1,h2⟩
  · rw[sW_check] at hg; cases hg
  · rw[sW_check] at hz
    injection hz with hz
    subst hz;exact⟨h1,h2⟩
 obtain⟨rfl,hsig⟩:=hsig;have Hb3:=qq (Hb2.out.trans (hb3.mono Hb2.out.size));have Hsig:=qq hsig;clear hor hb3 hsig Hb2 Hs2;simp only[diagZ,posZ];go_upto_region 2 with fail;have g4:=below_box (w:=w3) (Obj.cells #[.slice A1 n1 c1,.slice A2 n2 c2] 25);have k4:=blk_new w3 #[.slice A1 n1 c1,.slice A2 n2 c2] 25;obtain⟨w4,hw4⟩:∃ q,w3.alloc (Obj.cells #[.slice A1 n1 c1,.slice A2 n2 c2] 25)=q:=⟨_,rfl⟩
 have s4:w4.heap.size=w3.heap.size+1:=by rw[← hw4]; simp
 rw[hw4] at g4 k4 ⊢;have g5:=below_box (w:=w4) (Obj.cells #[.int .i64 0,.int .i64 0,.int .i64 0,.int .i64 0] 30);have k5:=blk_new w4 #[.int .i64 0,.int .i64 0,.int .i64 0,.int .i64 0] 30;obtain⟨w5,hw5⟩:∃ q,w4.alloc (Obj.cells #[.int .i64 0,.int .i64 0,.int .i64 0,.int .i64 0] 30)=q:=⟨_,rfl⟩;rw[hw5,s4] at k5;rw[hw5] at g5 ⊢;have hb35:=g4.trans (g5.mono g4.size);have k4':=k4.below g5 k4.lt;have x0:w5.cell? ⟨w3.heap.size,0,none⟩=some (.slice A1 n1 c1):=k4'.cell 0;have x1:w5.cell? ⟨w3.heap.size,1,none⟩=some (.slice A2 n2 c2):=k4'.cell 1;have g6:=below_box (w:=w5) (Obj.cells #[.int .u8 2,.int .i64 0,.int .i64 0,.int .u8 0,.slice none 0 0] 63)
 have hT:=Sl.new (enc:=encT) (k:=5) w5 (fun _=>False) (fun _ h=>h.elim) [tInt] [.int .u8 2,.int .i64 0,.int .i64 0,.int .u8 0,.slice none 0 0] 63 1 rfl (by unfold maxLen; omega) (by rw[List.flatMap_cons,List.flatMap_nil,List.append_nil]; exact tyC (t:=tInt) (tysS_sl.2 Sl.nil))
 obtain⟨w6,hw6⟩:∃ q,w5.alloc (Obj.cells #[.int .u8 2,.int .i64 0,.int .i64 0,.int .u8 0,.slice none 0 0] 63)=q:=⟨_,rfl⟩
 rw[show w5.alloc (Obj.cells ([.int .u8 2,.int .i64 0,.int .i64 0,.int .u8 0,.slice none 0 0]:List Value).toArray 63)=w6 from hw6] at hT
 have s6:w6.heap.size=w5.heap.size+1:=by rw[← hw6]; simp
 rw[hw6] at g6;have hb36:=hb35.trans (g6.mono hb35.size)
 have ha:TysV w6 w6.heap.size (some ⟨w5.heap.size,0,none⟩) 1 1 [tInt]:=tysV_sl.2 (hT.mono fun b h=>h.elim (fun q=>q.elim) fun q=>by show b<w6.heap.size; omega)
 have hq:=fields_any sW A1 n1 c1 A2 n2 c2 15 (some ⟨w5.heap.size,0,none⟩) 1 1 [tInt] w6 (Hsig.out.fresh hb36) sW_nc sW_nd ha;have Hq:=qq hq;have K5:=qq (k5.below g6 k5.lt);have Hb6:=qq (Hb3.out.trans (hb36.mono Hb3.out.size));have HW6:=qq hw6;clear hw4 hw5 hw6 g4 g5 g6 k4 k4' k5 hT hb35 hb36 ha hq Hb3;go_wp2_with fail
 (try rw[HW6.out])
 refine Hq.out.mono ?_;rintro e w7 ⟨A,m,cp,rfl,hl,hb7⟩;rw[sW_fl];rw[sW_flL] at hl;have hm:=hl.len;obtain rfl:m=2:=hm.symm;have k7:=K5.out.below hb7 K5.out.lt;have z0:w7.cell? ⟨w3.heap.size+1,0,none⟩=some (.int .i64 0):=k7.cell 0;have z1:w7.cell? ⟨w3.heap.size+1,1,none⟩=some (.int .i64 0):=k7.cell 1;have z2:w7.cell? ⟨w3.heap.size+1,2,none⟩=some (.int .i64 0):=k7.cell 2;have z3:w7.cell? ⟨w3.heap.size+1,3,none⟩=some (.int .i64 0):=k7.cell 3;obtain⟨b,off,rfl,hbb,hcf⟩:=typ_at (tysV_sl.1 hl) (by omega);obtain⟨t0,t1,t2,t3,A',m',c',t4,hT⟩:=hcf 1 (by decide);have T0:w7.cell? ⟨b,off+5,none⟩=some (.int .u8 8):=t0;have T1:w7.cell? ⟨b,off+5+1,none⟩=some (.int .i64 9):=t1;have T2:w7.cell? ⟨b,off+5+2,none⟩=some (.int .i64 0):=t2;have T3:w7.cell? ⟨b,off+5+3,none⟩=some (.int .u8 0):=t3;have T4:w7.cell? ⟨b,off+5+4,none⟩=some (.slice A' m' c'):=t4;have HT:=qq hT;have Hb7:=qq (Hb6.out.trans (hb7.mono Hb6.out.size));clear x0 x1 t0 t1 t2 t3 t4 hcf k7 hT hb7 Hb6 Hq K5 HW6 hm hl;have g8:=below_box (w:=w7) (Obj.cells #[.string ⟨#[]⟩,.string ⟨#[]⟩,.string ⟨#[]⟩,.string ⟨#[]⟩,.string ⟨#[]⟩,.string ⟨#[]⟩,.string ⟨#[]⟩,.string ⟨#[]⟩,.string ⟨#[]⟩,.string ⟨#[84]⟩] 9);have k8:=blk_new w7 #[.string ⟨#[]⟩,.string ⟨#[]⟩,.string ⟨#[]⟩,.string ⟨#[]⟩,.string ⟨#[]⟩,.string ⟨#[]⟩,.string ⟨#[]⟩,.string ⟨#[]⟩,.string ⟨#[]⟩,.string ⟨#[84]⟩] 9;obtain⟨w8,hw8⟩:∃ q,w7.alloc (Obj.cells #[.string ⟨#[]⟩,.string ⟨#[]⟩,.string ⟨#[]⟩,.string ⟨#[]⟩,.string ⟨#[]⟩,.string ⟨#[]⟩,.string ⟨#[]⟩,.string ⟨#[]⟩,.string ⟨#[]⟩,.string ⟨#[84]⟩] 9)=q:=⟨_,rfl⟩
 have s8:w8.heap.size=w7.heap.size+1:=by rw[← hw8]; simp
 rw[hw8] at g8 k8
 have hnm:NmV w8 w8.heap.size (some ⟨w7.heap.size,0,none⟩) 10 10 names10:=by
  refine⟨⟨rfl,fun _=>⟨w7.heap.size,0,rfl,by omega,fun j u hu=>?_⟩⟩,Nat.le_refl _,by unfold maxLen; omega⟩
  rw[Nat.zero_add,k8.cell j];rw[← hu];simp[names10]
 have hq:=tyText_any (.mk 8 9 0 0 [tInt]) sW_may names10 A' m' c' (some ⟨w7.heap.size,0,none⟩) 10 10 w8 (tysV_sl.2 (HT.out.fresh g8)) hnm (Ht.out.below (Hb7.out.trans (g8.mono Hb7.out.size))) (by rw[sW_tx]; decide)
 rw[sW_tx] at hq;have Hq:=qq hq;have Hb8:=qq (Hb7.out.trans (g8.mono Hb7.out.size));clear hq hnm g8 k8 HT Ht;go_upto_region 3 with fail;go_wp2_with fail
 (try rw[hw8])
 refine Hq.out.mono ?_;rintro e w9 ⟨rfl,hb9⟩;have HbF:=qq (Hb8.out.trans (hb9.mono Hb8.out.size));clear hb9 Hq T0 T1 T2 T3 T4 z0 z1 z2 z3;simp only[wE];go_wp2_with fail;go_ret;exact⟨rfl,HbF.out⟩
theorem equalM13 (A:Option Addr) (n c:Nat) (us:List Int) (A':Option Addr) (n' c':Nat) (us':List Int) (w:World) (h:RdI .u8 w w.heap.size A n c us) (h':RdI .u8 w w.heap.size A' n' c' us'):
  Calls Tryd.prog 14 #[.slice A n c,.slice A' n' c'] w fun e w'=>e=.returned (.bool (us==us'))∧Below w.heap.size w w':=by
 have hl:=h.len;have hl':=h'.len;have n63:n≤9223372036854775807:=Nat.le_trans h.2.1 h.2.2;have n63':n'≤9223372036854775807:=Nat.le_trans h'.2.1 h'.2.2
 by_cases e:n=n'
 · subst e
   have d0:((n:Int) != (n:Int))=false:=by simp
   have H:=qq h;have H':=qq h';clear h h'
   go_enter Tryd.func14,Tryd.ntmps14
   go_wp2_with fail
   go_loopg [5,13] n (fun gh _ i wr=>∃ k,k≤n∧gh=n - k∧i=.int .i64 (k:Nat)∧(∀ (j:Nat) (h1:j<us.length) (h2:j<us'.length),j<k→us[j]=us'[j])∧Below w.heap.size w wr)
   case atStart=>exact⟨0,Nat.zero_le _,rfl,rfl,fun j _ _ h=>absurd h (by omega),Below.refl _ _⟩
   case round=>
    obtain⟨k,hk,rfl,rfl,hall,hbel⟩:=hrel;have Hall:=qq hall;have Hbel:=qq hbel;clear hall
    by_cases hkn:k<n
    · have k1:k<us.length:=by omega
      have k2:k<us'.length:=by omega
      obtain⟨b,o,rfl,hb,hc⟩:=(H.out.below hbel).at_ (by omega);obtain⟨b',o',rfl,hb',hc'⟩:=(H'.out.below hbel).at_ (by omega);have e0:=hc k k1;have e1:=hc' k k2
      have i1:(0:Int)≤(k:Int):=by omega
      have i2:(k:Int)<n:=by omega
      by_cases he:us[k]=us'[k]
      · have d1:(us[k] != us'[k])=false:=by simp[he]
        have He:=qq he;clear he;generalize us[k]=z at e0 d1;generalize us'[k]=z' at e1 d1;clear hc hc' hbel;go_wp2_with fail
        go_quiet (fail)
        go_wp2_with fail;go_roundg (n - (k+1))
        case measure=>omega
        case rel=>
         refine⟨k+1,by omega,rfl,by simp,fun j h1 h2 hj=>?_,below_drewN_t Hbel.out _⟩
         rcases Nat.lt_or_ge j k with h | h
         · exact Hall.out j h1 h2 h
         · have:j=k:=by omega
           subst this;exact He.out
      · have d1:(us[k] != us'[k])=true:=by simp[he]
        have HF:Hid (false=(us==us')):=by
         show _=_
         symm
         rw[beq_eq_false_iff_ne];intro hu;subst hu;exact he rfl
        clear he;generalize us[k]=z at e0 d1;generalize us'[k]=z' at e1 d1;clear hc hc' hbel;go_wp2_with fail
        go_quiet (fail)
        go_wp2_with fail;go_ret;exact⟨ret_bool HF.out,below_drewN_t Hbel.out _⟩
    · have HF:Hid (true=(us==us')):=by
       show _=_
       symm
       rw[beq_iff_eq]
       apply List.ext_getElem (by omega)
       intro j h1 h2;exact Hall.out j h1 h2 (by omega)
      clear hbel;go_wp2_with fail;go_ret;exact⟨ret_bool HF.out,Hbel.out⟩
 · have d0:((n:Int) != (n':Int))=true:=by simp; omega
   have HF:Hid (false=(us==us')):=by
    show _=_
    symm
    rw[beq_eq_false_iff_ne];intro hu;rw[hu] at hl;omega
   clear h h' e
   go_enter Tryd.func14,Tryd.ntmps14
   go_wp2_with fail;go_ret;exact⟨ret_bool HF.out,Below.refl _ _⟩
theorem slU_rd {w:World} {B:Nat} {A:Option Addr} {n c:Nat} {us:List Int} (h:Sl w (Lt B) encU 1 us A n c):RdI .u8 w B A n c us:=by
 refine⟨⟨by rw[List.length_map,h.1,Nat.mul_one],fun hn=>?_⟩,h.2.1,h.2.2.1⟩
 obtain⟨b,off,e,hb,hr⟩:=h.at_ (k:=1) (fun _=>rfl) hn;refine⟨b,off,e,hb,fun j u hu=>?_⟩;rw[List.getElem?_map] at hu
 have hj:j<us.length:=by
  rcases Nat.lt_or_ge j us.length with q | q
  · exact q
  · rw[List.getElem?_eq_none q] at hu; cases hu
 have h1:=hr j hj;unfold encU at h1;simp only[celsIn_cons,celIn_v] at h1;obtain⟨⟨u',h2,rfl⟩,_⟩:=h1;rw[qj hj] at hu
 obtain rfl:Value.int .u8 us[j]=u:=by simpa using hu
 rw[Nat.mul_one] at h2;exact h2
def dl (name:ByteArray) (ps:List ByteArray) (xs:List TyW):DeclD:=⟨1,name,atP 5,ps,[⟨nA,atP 9,xs.map fun t=>⟨1,t⟩⟩,⟨nB,atP 30,[]⟩],false,.int .u8 0,.string ⟨#[]⟩,.int .i64 0,.int .i64 0,.int .i64 0,.int .i64 0,.slice none 0 0,.slice none 0 0⟩
theorem dl_one (name:ByteArray) (ps:List ByteArray) (xs:List TyW):(dl name ps xs).one:=⟨0,⟨#[]⟩,0,0,0,0,none,0,0,none,0,0,rfl,rfl,rfl,rfl,rfl,rfl,rfl,rfl⟩
theorem dl_cels {R0:Nat→Prop} {name:ByteArray} {Ap:Option Addr} {np cp nf:Nat} {ps:List ByteArray} {xs:List TyW} {w':World} {gc c5 base:Nat} {A5:Option Addr} {S:Nat→Prop} (hp:Sl w' S encS 1 ps Ap np cp) (hS:∀ b,S b→b<w'.heap.size)
  (hk:Blk w' gc 71 #[.string ⟨#[65]⟩,.int .i64 9,.int .i64 1,.int .i64 10,.slice A5 nf c5,.string ⟨#[66]⟩,.int .i64 30,.int .i64 1,.int .i64 31,.slice none 0 0])
  (ho:OwnC w' base 97 8 R0 (.slice A5 nf c5) nf (xs.flatMap oneF)):CelsV w' (Lt w'.heap.size) (encD (dl name ps xs)) (declCells name Ap np cp gc).toList:=by
 have hl:xs.flatMap oneF=(xs.map fun t=>(⟨1,t⟩:FieldD)).flatMap encF:=by
  rw[List.flatMap_map];rfl
 rw[hl] at ho;have hfs:=ho.sl encF_len (by omega)
 have hcs:Sl w' (Lt w'.heap.size) encC 5 (dl name ps xs).cons (some ⟨gc,0,none⟩) 2 2:=by
  refine⟨rfl,Nat.le_refl _,by unfold maxLen; omega,fun _=>⟨gc,0,rfl,hk.lt,?_⟩⟩
  refine CelsV.in_ (us:=[.string ⟨#[65]⟩,.int .i64 9,.int .i64 1,.int .i64 10,.slice A5 nf c5,.string ⟨#[66]⟩,.int .i64 30,.int .i64 1,.int .i64 31,.slice none 0 0]) ?_ fun j u hu=>?_
  · refine CelsV.append (a:=encC ⟨nA,atP 9,xs.map fun t=>⟨1,t⟩⟩) (us:=[_,_,_,_,_]) ⟨celIn_v.2 rfl,celIn_v.2 rfl,celIn_v.2 rfl,celIn_v.2 rfl,(sl_iff encF_len (by omega)).2 ⟨_,_,_,rfl,hfs⟩,trivial⟩ (CelsV.append (a:=encC ⟨nB,atP 30,[]⟩) (b:=[]) (us:=[_,_,_,_,_]) (vs:=[]) ⟨celIn_v.2 rfl,celIn_v.2 rfl,celIn_v.2 rfl,celIn_v.2 rfl,(sl_iff encF_len (by omega)).2 ⟨_,_,_,rfl,Sl.nil⟩,trivial⟩ trivial)
  · rw[Nat.zero_add,hk.cell j]
    simpa using hu
 exact⟨celIn_v.2 rfl,celIn_v.2 rfl,celIn_v.2 rfl,celIn_v.2 rfl,celIn_v.2 rfl,(sl_iff encS_len (by omega)).2 ⟨_,_,_,rfl,hp.mono hS⟩,(sl_iff encC_len (by omega)).2 ⟨_,_,_,rfl,hcs⟩,celIn_v.2 rfl,celIn_v.2 rfl,celIn_v.2 rfl,celIn_v.2 rfl,celIn_v.2 rfl,celIn_v.2 rfl,celIn_v.2 rfl,celIn_v.2 rfl,celIn_v.2 rfl,trivial⟩
theorem dl_list {d:DeclD} {us:Array Value} {w:World} (h:CelsV w (Lt w.heap.size) (encD d) us.toList):Sl (w.alloc (Obj.cells us 40)) (Lt (w.alloc (Obj.cells us 40)).heap.size) encD 16 [d] (some ⟨w.heap.size,0,none⟩) 1 1:=by
 have hs:=Sl.new (enc:=encD) (k:=16) w (Lt w.heap.size) (fun _ h=>h) [d] us.toList 40 1 rfl (by unfold maxLen; omega) (by rw[List.flatMap_cons,List.flatMap_nil,List.append_nil]; exact h)
 rw[Array.toArray_toList] at hs;refine hs.mono fun b hb=>?_;show b<_;rw[World.size_alloc]
 rcases hb with hb | hb
 · have:b<w.heap.size:=hb
   omega
 · omega
def nb:ByteArray:=⟨#[98]⟩
def nList:ByteArray:=⟨#[76,105,115,116]⟩
theorem nb_ge:(!Op.bytesLess (⟨#[98]⟩:ByteArray).toList [97])=true:=by decide +kernel
def d2:DeclD:=dl nT [] [.mk 1 nb 0 (atP 11) []]
def d3:DeclD:=dl nT [na] [.mk 2 nT 0 (atP 13) []]
def d4:DeclD:=dl nList [] []
theorem d2_check:checkE givenS [d2]=.error ⟨131,atP 11⟩:=by kernel_rfl
theorem d3_check:checkE givenS [d3]=.error ⟨132,atP 13⟩:=by kernel_rfl
theorem d4_check:checkE givenS [d4]=.error ⟨130,atP 5⟩:=by kernel_rfl
theorem sW_d:sW.datas.length=10:=by kernel_rfl
theorem sW_c:sW.cons.length=17:=by kernel_rfl
theorem sW_d9:sW.datas[9]'(by rw[sW_d]; decide)=⟨nT,1,[15,16]⟩:=by kernel_rfl
theorem sW_c15:sW.cons[15]'(by rw[sW_c]; decide)=⟨nA,9,[.mk 1 0 0 0 [],.mk 8 9 0 0 [.mk 1 0 0 0 []]],[1,3]⟩:=by kernel_rfl
theorem txt_a0:txB [] (.mk 1 0 0 0 [])=[97,48]:=by kernel_rfl
theorem may_a0:mayT (.mk 1 0 0 0 [])=true:=by kernel_rfl
theorem CheckPost.err {l:List DeclD} {g:DiagD} (hg:checkE givenS l=.error g) {w w':World} {e:Ending} (h:CheckPost l w e w'):e=.returned (.tuple #[.agg #[.slice none 0 0,.slice none 0 0],.agg #[.int .i64 g.e,.int .i64 g.p.at_,.int .i64 g.p.line,.int .i64 g.p.col]])∧Below w.heap.size w w':=by
 obtain⟨A1,n1,c1,A2,n2,c2,dg,rfl,hb,hor⟩:=h
 rcases hor with ⟨g',h1,rfl,rfl,rfl,rfl,rfl,rfl,rfl⟩ | ⟨z,hz,_⟩
 · rw[hg] at h1
   injection h1 with h1
   subst h1;exact⟨rfl,hb⟩
 · rw[hg] at hz
   cases hz
theorem CheckPost.works {w w':World} {e:Ending} (h:CheckPost [tD] w e w'):∃ A1 c1 A2 c2,e=.returned (.tuple #[.agg #[.slice A1 10 c1,.slice A2 17 c2],.agg #[.int .i64 0,.int .i64 0,.int .i64 0,.int .i64 0]])∧Below w.heap.size w w'∧SigR w' (Lt w'.heap.size) sW A1 10 c1 A2 17 c2:=by
 obtain⟨A1,n1,c1,A2,n2,c2,dg,rfl,hb,hor⟩:=h
 rcases hor with ⟨g',h1,_⟩ | ⟨z,hz,rfl,hs⟩
 · rw[sW_check] at h1
   cases h1
 · rw[sW_check] at hz
   injection hz with hz
   subst hz;obtain rfl:n1=10:=hs.datas.len.symm.trans sW_d;obtain rfl:n2=17:=hs.cons.len.symm.trans sW_c;exact⟨A1,c1,A2,c2,rfl,hb,hs⟩
theorem sl_lit {X:Type} {enc:X→List Cel} {k:Nat} (w:World) (xs:List X) (us:List Value) (T:TypeId) (n:Nat) (hn:xs.length=n) (hm:n≤maxLen) (hc:CelsV w (fun _=>False) (xs.flatMap enc) us):∃ w',w.alloc (Obj.cells us.toArray T)=w'∧Below w.heap.size w w'∧Sl w' (Lt w'.heap.size) enc k xs (some ⟨w.heap.size,0,none⟩) n n:=by
 refine⟨_,rfl,below_box _,(Sl.new (enc:=enc) (k:=k) w (fun _=>False) (fun _ h=>h.elim) xs us T n hn hm hc).mono fun b h=>h.elim (fun q=>q.elim) fun q=>?_⟩;show b<_;simp;omega
theorem equalM13t {A:Option Addr} {n c:Nat} {us:List Int} {A':Option Addr} {n' c':Nat} (w:World) (h:RdI .u8 w w.heap.size A n c us) (h':RdI .u8 w w.heap.size A' n' c' us):
  Calls Tryd.prog 14 #[.slice A n c,.slice A' n' c'] w fun e w'=>e=.returned (.bool true)∧Below w.heap.size w w':=by
 have:=equalM13 A n c us A' n' c' us w h h';rw[beq_self_eq_true] at this;exact this
theorem text_a0 (A':Option Addr) (c':Nat) (w:World) (hl:TysV w w.heap.size A' 0 c' []) (ht:Tab w):
  Calls Tryd.prog 15 #[.agg #[.int .u8 1,.int .i64 0,.int .i64 0,.int .u8 0,.slice A' 0 c'],.slice none 0 0] w fun e w'=>e=.returned (.string ⟨#[97,48]⟩)∧Below w.heap.size w w':=by
 have:=tyText_any (.mk 1 0 0 0 []) may_a0 [] A' 0 c' none 0 0 w hl ⟨⟨rfl,fun h=>absurd h (by omega)⟩,Nat.le_refl _,Nat.zero_le _⟩ ht (by rw[txt_a0]; decide)
 rw[txt_a0] at this;exact this
theorem sl_litK {X:Type} {enc:X→List Cel} {k:Nat} (w:World) (xs:List X) (us:List Value) (T:TypeId) (n:Nat) (hn:xs.length=n) (hm:n≤maxLen) (hc:CelsV w (fun _=>False) (xs.flatMap enc) us) {G:Prop} (h:∀ w',w.alloc (Obj.cells us.toArray T)=w'→Below w.heap.size w w'→Sl w' (Lt w'.heap.size) enc k xs (some ⟨w.heap.size,0,none⟩) n n→G):G:=by
 obtain⟨w',h1,h2,h3⟩:=sl_lit (enc:=enc) (k:=k) w xs us T n hn hm hc;exact h w' h1 h2 h3
end Go.Proofs.YtgpeijkjmkocgaaDoor
