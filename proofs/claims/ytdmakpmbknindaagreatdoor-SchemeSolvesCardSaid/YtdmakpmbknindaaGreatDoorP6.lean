import Derived.Test.YtdmakpmbknindaaGreatDoorM32
import Derived.Test.YtdmakpmbknindaaGreatDoorP5
import Derived.Test.YtdmakpmbknindaaGreatDoorP2
set_option linter.unusedVariables false
set_option linter.unusedSimpArgs false
set_option maxHeartbeats 4000000
set_option maxRecDepth 100000
namespace Go.Proofs.YtdmakpmbknindaaGreatDoor
open Go.RowKit
theorem OkSch.mu_ {s:SchD} (h:OkSch s) {i:Nat} (hi:i<(multsT s.t).length):(i:Int)∈allM s.t:=by
 rw[← mem_mults,h.ms];exact List.mem_map.2 ⟨i,List.mem_range.2 hi,rfl⟩
theorem puts_of {s:SchD} {u:TyD} (hs:OkSch s) (hu:mayT u=true) {fv:Int→Option TyD} {fm:Int→Int × Int} (h:turnT fv fm s.t=u):
 (putsE s u).1=true∧typesE (varsT s.t).length (putsE s u).2=(List.range (varsT s.t).length).map (fun i:Nat=>(fv i).getD (plainV i))∧multsE (multsT s.t).length (putsE s u).2=(List.range (multsT s.t).length).map fun i:Nat=>(fm i).2:=by
 have hm:=mayTE_may hs.may;have hp:=match_puts hm hu h;refine⟨(match_iff hm hu).2 ⟨_,_,h⟩,?_,?_⟩
 · unfold typesE putsE
   refine List.map_congr_left fun i hi=>?_;rw[hp.1 i (hs.var (List.mem_range.1 hi))];rfl
 · unfold multsE putsE
   refine List.map_congr_left fun i hi=>?_;rw[hp.2 i (hs.mu_ (List.mem_range.1 hi))];rfl
def putsM (n:Nat) (fm:Int→Int × Int):List Int:=(List.range n).map fun i:Nat=>(fm i).2
def muL (m:List Int):List (Int × Int):=m.map fun c=>(0,c)
theorem putM_mu {m:List Int} {i:Nat} (hi:i<m.length):putM (muL m) (i:Nat)=(0,m.getD i 0):=by
 unfold putM muL
 rw[if_pos (by simp; omega),List.getD_eq_getElem?_getD,List.getElem?_map,Int.toNat_natCast,qj hi,List.getD_eq_getElem?_getD,qj hi]
 rfl
theorem putsM_mu {m:List Int} {n:Nat} (h:m.length=n):putsM n (putM (muL m))=m:=by
 unfold putsM;refine List.ext_getElem (by simp[h]) fun i h1 h2=>?_;rw[List.getElem_map,List.getElem_range,putM_mu h2,List.getD_eq_getElem?_getD,qj h2];rfl
theorem muInfoP:(Tryz.prog.info? 24).map (fun i=>(i.zero,i.size,i.bytes))=some (some (.agg #[.int .i64 0,.int .u8 0]),2,16):=by kernel_rfl
theorem schMay_any (s:SchD) (v:Value) (w:World) (hv:SchV w w.heap.size v s):
 Calls Tryz.prog 15 #[v] w fun e w'=>∃ er:Int,e=.returned (.int .i64 er)∧(er=0↔OkSch s)∧Below w.heap.size w w':=by
 obtain⟨A,m,cp,A1,c1,A2,c2,A3,c3,rfl,hr⟩:=hv;have hk:=blk_new w (cellsS s A m cp A1 c1 A2 c2 A3 c3) 40;have hb:=below_box (w:=w) (Obj.cells (cellsS s A m cp A1 c1 A2 c2 A3 c3) 40);obtain⟨W,hW⟩:∃ x,w.alloc (Obj.cells (cellsS s A m cp A1 c1 A2 c2 A3 c3) 40)=x:=⟨_,rfl⟩;rw[hW] at hk hb;unfold cellsS at hW;have HW:=qq hW;have HK:=qq hk;have Hb:=qq hb;have HR:=qq (hr.fresh hb);obtain⟨x0,x1,x2,x3,x4,x5,x6,x7,x8,x9⟩:=box_cells hk;rw[← HW.out] at x2 x3 x4 x5 x6
 have z1:s.tab.low.length≤9223372036854775807:=by have:=hr.low.2.1; have:=hr.low.2.2; unfold maxLen at *; have:=hr.low.len; omega
 clear hW hk hb hr x0 x1 x7 x8 x9;unfold cellsS
 go_enter Tryz.func15,Tryz.ntmps15
 go_wp2_with fail;rw[HW.out];refine(tyMay_any s.t _ W ⟨A,m,cp,rfl,HR.out.ty⟩).mono ?_;rintro e w1 ⟨rfl,hb1⟩;have HR1:=qq (HR.out.fresh hb1);have HK1:=qq (HK.out.below hb1 HK.out.lt);have Hb1:=qq (Hb.out.trans (hb1.mono Hb.out.size));obtain⟨y0,y1,y2,y3,y4,y5,y6,y7,y8,y9⟩:=box_cells HK1.out;clear x2 x3 x4 x5 x6 hb1 HW y0 y1 y7 y8 y9
 by_cases hmay:mayTE s.t=0
 · rw[hmay]
   have Hmay:=qq hmay;clear hmay;go_wp2_with fail;refine(canon_any s.t (mayTE_may Hmay.out) A m cp w1 HR1.out.ty).mono ?_;rintro e w2 ⟨Ac,mc,cc,B1,n1,e1,B2,n2,e2,rfl,hty,hl1,hl2,hb2⟩;have hn1:=hl1.len;have hn2:=hl2.len;have Hn1:=qq hn1;have Hn2:=qq hn2;have n63:n1≤9223372036854775807:=Nat.le_trans hl1.2.1 hl1.2.2;have n63':n2≤9223372036854775807:=Nat.le_trans hl2.2.1 hl2.2.2;clear y2 y3 y4 y5 y6 hl1 hl2 hn1 hn2;have hbx:=below_box (w:=w2) (Obj.cells #[.int .u8 (canT s.t).k,.int .i64 (canT s.t).n,.int .i64 (canT s.t).v,.int .u8 (canT s.t).c,.slice Ac mc cc] 27);have hkx:=blk_new w2 #[.int .u8 (canT s.t).k,.int .i64 (canT s.t).n,.int .i64 (canT s.t).v,.int .u8 (canT s.t).c,.slice Ac mc cc] 27;obtain⟨w3,hw3⟩:∃ x,w2.alloc (Obj.cells #[.int .u8 (canT s.t).k,.int .i64 (canT s.t).n,.int .i64 (canT s.t).v,.int .u8 (canT s.t).c,.slice Ac mc cc] 27)=x:=⟨_,rfl⟩;rw[hw3] at hbx hkx;have hb13:=hb2.trans (hbx.mono hb2.size);have Hw3:=qq hw3;have Hty3:=qq ((hty.below hbx).more hbx.size);have HR3:=qq (HR1.out.fresh hb13);have HK3:=qq (HK1.out.below hb13 HK1.out.lt);have Hb3:=qq (Hb1.out.trans (hb13.mono Hb1.out.size));have z0:=hkx.cell 0;have z1':=hkx.cell 1;have z2:=hkx.cell 2;have z3:=hkx.cell 3;have z4:=hkx.cell 4;simp only[qc,qb,qa] at z0 z1' z2 z3 z4;clear hbx hkx hb13 hw3 hty hb2;obtain⟨y0,y1,y2,y3,y4,y5,y6,y7,y8,y9⟩:=box_cells HK3.out;clear y0 y1 y7 y8 y9;obtain⟨r,hsr⟩:∃ r,sameT (canT s.t) s.t=r:=⟨_,rfl⟩;have Hsr:=qq hsr;clear hsr;go_upto_region 5 with fail;rw[Hw3.out];go_wp2_with fail;refine(same_go (nodes (canT s.t)) (canT s.t) s.t (Nat.le_refl _) Ac mc cc A m cp w3 Hty3.out HR3.out.ty).mono ?_;rw[Hsr.out];rintro e w4 ⟨rfl,hb4⟩;have HR4:=qq (HR3.out.fresh hb4);have HK4:=qq (HK3.out.below hb4 HK3.out.lt);have Hb4:=qq (Hb3.out.trans (hb4.mono Hb3.out.size));clear z0 z1' z2 z3 z4 y2 y3 y4 y5 y6 hb4
   cases r with
   | false=>
     have Hno:Hid (¬ OkSch s):=qq fun h=>by
      have:=Hsr.out;rw[h.can,(sameT_iff s.t s.t).2 rfl] at this
      cases this
     go_wp2_with fail;go_ret;exact⟨2,rfl,⟨fun h=>absurd h (by decide),fun h=>absurd h Hno.out⟩,Hb4.out⟩
   | true=>
     have hcan:canT s.t=s.t:=(sameT_iff _ _).1 Hsr.out;have Hcan:=qq hcan;clear hcan;obtain⟨y0,y1,y2,y3,y4,y5,y6,y7,y8,y9⟩:=box_cells HK4.out;clear y2 y3 y4 y5 y6
     by_cases q1:s.types=(n1:Int)
     · have d1:(s.types != (n1:Int))=false:=by rw[q1]; simp
       by_cases q2:s.mults=(n2:Int)
       · have d2:(s.mults != (n2:Int))=false:=by rw[q2]; simp
         have Q1:=qq q1;have Q2:=qq q2;clear q1 q2;go_wp2_with fail;refine(tabMay_any s.tab _ w4 HR4.out.tab).mono ?_;rintro e w5 ⟨er,rfl,hiff,hb5⟩;have HK5:=qq (HK4.out.below hb5 HK4.out.lt);have Hb5:=qq (Hb4.out.trans (hb5.mono Hb4.out.size));have Hiff:=qq hiff;clear y0 y1 y7 y8 y9 hb5 d1 d2 hiff
         by_cases her:er=0
         · subst her
           have hot:=Hiff.out.1 rfl;have Hot:=qq hot;clear hot;obtain⟨y0,y1,y2,y3,y4,y5,y6,y7,y8,y9⟩:=box_cells HK5.out;clear y0 y2 y3 y4 y5 y6 y8 y9
           by_cases q3:(s.tab.low.length:Int)=s.mults
           · have d3:((s.tab.low.length:Int) != s.mults)=false:=by rw[q3]; simp
             have Hyes:Hid (OkSch s):=qq ⟨Hmay.out,Hcan.out,by rw[Q1.out,← Hn1.out],by rw[Q2.out,← Hn2.out],by
              have hl:(multsT s.t).length=s.tab.low.length:=by have:=Q2.out; have:=Hn2.out; omega
              rw[hl]; exact Hot.out⟩
             clear q3;go_wp2_with fail;go_ret;exact⟨0,rfl,⟨fun _=>Hyes.out,fun _=>rfl⟩,Hb5.out⟩
           · have d3:((s.tab.low.length:Int) != s.mults)=true:=by simpa using q3
             have Hno:Hid (¬ OkSch s):=qq fun h=>q3 (by rw[h.tab.ll,h.mu]);clear q3;go_wp2_with fail;go_ret;exact⟨2,rfl,⟨fun h=>absurd h (by decide),fun h=>absurd h Hno.out⟩,Hb5.out⟩
         · have de:(er != 0)=true:=by simpa using her
           have Hno:Hid (¬ OkSch s):=qq fun h=>her (Hiff.out.2 (by rw[h.tab.ll]; exact h.tab))
           have Her:=qq her;clear her;go_wp2_with fail;go_ret;exact⟨er,rfl,⟨fun h=>absurd h Her.out,fun h=>absurd h Hno.out⟩,Hb5.out⟩
       · have d2:(s.mults != (n2:Int))=true:=by simpa using q2
         have Hno:Hid (¬ OkSch s):=qq fun h=>q2 (by rw[h.mu,Hn2.out]);clear q1 q2;go_wp2_with fail;go_ret;exact⟨2,rfl,⟨fun h=>absurd h (by decide),fun h=>absurd h Hno.out⟩,Hb4.out⟩
     · have d1:(s.types != (n1:Int))=true:=by simpa using q1
       have Hno:Hid (¬ OkSch s):=qq fun h=>q1 (by rw[h.ty,Hn1.out]);clear q1;go_wp2_with fail;go_ret;exact⟨2,rfl,⟨fun h=>absurd h (by decide),fun h=>absurd h Hno.out⟩,Hb4.out⟩
 · have dm:(mayTE s.t != 0)=true:=by simpa using hmay
   have Hmay:=qq hmay;have Hno:Hid (¬ OkSch s):=qq fun h=>hmay h.may;clear hmay;go_wp2_with fail;go_ret;exact⟨mayTE s.t,rfl,⟨fun h=>absurd h Hmay.out,fun h=>absurd h Hno.out⟩,Hb1.out⟩
structure InstG (s:SchD) (u:TyD) (ts:List TyD) (ms:List Int) (ok:Bool):Prop where
 iff:ok=true↔OkSch s∧InstE s u
 yes:ok=true→ts=typesE (varsT s.t).length (putsE s u).2∧ms=multsE (multsT s.t).length (putsE s u).2
 no:ok=false→ts=[]∧ms=[]
def InstGPost (s:SchD) (u:TyD) (w:World) (e:Ending) (w':World):Prop:=
 ∃ A n c ts A2 n2 c2 ms ok,e=.returned (.tuple #[.slice A n c,.slice A2 n2 c2,.bool ok])∧TysV w' w'.heap.size A n c ts∧RdI .u8 w' w'.heap.size A2 n2 c2 ms∧InstG s u ts ms ok∧Below w.heap.size w w'
theorem instG_any (s:SchD) (u:TyD) (v:Value) (A':Option Addr) (m' cp':Nat) (w:World) (hv:SchV w w.heap.size v s) (hu:TysV w w.heap.size A' m' cp' u.l):
 Calls Tryz.prog 21 #[v,.agg #[.int .u8 u.k,.int .i64 u.n,.int .i64 u.v,.int .u8 u.c,.slice A' m' cp']] w (InstGPost s u w):=by
 by_cases hs:OkSch s
 · refine(inst_any s hs u v A' m' cp' w hv hu).mono ?_
   rintro e w' ⟨A,n,c,ts,A2,n2,c2,ms,ok,he,h1,h2,h3,h4⟩;exact⟨A,n,c,ts,A2,n2,c2,ms,ok,he,h1,h2,⟨⟨fun h=>⟨hs,h3.iff.1 h⟩,fun h=>h3.iff.2 h.2⟩,h3.yes,h3.no⟩,h4⟩
 · obtain⟨A,m,cp,A1,c1,A2,c2,A3,c3,rfl,hr⟩:=hv
   have HN:Hid (InstG s u [] [] false):=qq ⟨⟨fun h=>Bool.noConfusion h,fun h=>absurd h.1 hs⟩,fun h=>Bool.noConfusion h,fun _=>⟨rfl,rfl⟩⟩;have hka:=blk_new w (cellsS s A m cp A1 c1 A2 c2 A3 c3) 40;have hba:=below_box (w:=w) (Obj.cells (cellsS s A m cp A1 c1 A2 c2 A3 c3) 40);have hka2:=hka.alloc (Obj.cells #[.int .u8 u.k,.int .i64 u.n,.int .i64 u.v,.int .u8 u.c,.slice A' m' cp'] 27);have hbb:=hba.trans ((below_box (w:=w.alloc (Obj.cells (cellsS s A m cp A1 c1 A2 c2 A3 c3) 40)) (Obj.cells #[.int .u8 u.k,.int .i64 u.n,.int .i64 u.v,.int .u8 u.c,.slice A' m' cp'] 27)).mono hba.size);obtain⟨W,hW⟩:∃ x,(w.alloc (Obj.cells (cellsS s A m cp A1 c1 A2 c2 A3 c3) 40)).alloc (Obj.cells #[.int .u8 u.k,.int .i64 u.n,.int .i64 u.v,.int .u8 u.c,.slice A' m' cp'] 27)=x:=⟨_,rfl⟩;rw[hW] at hka2 hbb;unfold cellsS at hW;have HW:=qq hW;have Hb:=qq hbb;have HR:=qq (hr.fresh hbb);have Hs:=qq hs;obtain⟨x0,x1,x2,x3,x4,x5,x6,x7,x8,x9⟩:=box_cells hka2;clear hka hba hka2 hbb hW hr hs;unfold cellsS
   go_enter Tryz.func21,Tryz.ntmps21
   go_upto_region 1 with fail;rw[HW.out];go_wp2_with fail;refine(schMay_any s _ W ⟨A,m,cp,A1,c1,A2,c2,A3,c3,rfl,HR.out⟩).mono ?_;rintro e w1 ⟨er,rfl,hiff,hb1⟩;have hne:er≠0:=fun h=>Hs.out (hiff.1 h)
   have de:(er != 0)=true:=by simpa using hne
   have HbE:=qq (Hb.out.trans (hb1.mono Hb.out.size));clear x0 x1 x2 x3 x4 x5 x6 x7 x8 x9 hb1 hiff hne;go_wp2_with fail;exact bodyPost_ret (v:=.tuple #[.slice none 0 0,.slice none 0 0,.bool false]) (by simp[results,Tryz.results21,go_sem]) rfl ⟨none,0,0,[],none,0,0,[],false,rfl,TysV.nil,RdI.nil,HN.out,HbE.out⟩
def GreatP (w:World) (e:Ending) (w':World):Prop:=∃ b,e=.returned (.bool b)∧Below w.heap.size w w'
theorem great8_any (s:SchD) (u:TyD) (v:Value) (A':Option Addr) (m' cp':Nat) (w:World) (hv:SchV w w.heap.size v s) (hu:TysV w w.heap.size A' m' cp' u.l):
 Calls Tryz.prog 16 #[v,.agg #[.int .u8 u.k,.int .i64 u.n,.int .i64 u.v,.int .u8 u.c,.slice A' m' cp']] w (GreatP w):=by
 have hmn:=@run_min2 Tryz.prog;obtain⟨A,m,cp,A1,c1,A2,c2,A3,c3,rfl,hr⟩:=hv;have hka:=blk_new w (cellsS s A m cp A1 c1 A2 c2 A3 c3) 40;have hba:=below_box (w:=w) (Obj.cells (cellsS s A m cp A1 c1 A2 c2 A3 c3) 40)
 have hsa:(w.alloc (Obj.cells (cellsS s A m cp A1 c1 A2 c2 A3 c3) 40)).heap.size=w.heap.size+1:=by simp
 have hka2:=hka.alloc (Obj.cells #[.int .u8 u.k,.int .i64 u.n,.int .i64 u.v,.int .u8 u.c,.slice A' m' cp'] 27);have hkb:=blk_new (w.alloc (Obj.cells (cellsS s A m cp A1 c1 A2 c2 A3 c3) 40)) #[.int .u8 u.k,.int .i64 u.n,.int .i64 u.v,.int .u8 u.c,.slice A' m' cp'] 27;have hbb:=hba.trans ((below_box (w:=w.alloc (Obj.cells (cellsS s A m cp A1 c1 A2 c2 A3 c3) 40)) (Obj.cells #[.int .u8 u.k,.int .i64 u.n,.int .i64 u.v,.int .u8 u.c,.slice A' m' cp'] 27)).mono hba.size);rw[hsa] at hkb;obtain⟨W,hW⟩:∃ x,(w.alloc (Obj.cells (cellsS s A m cp A1 c1 A2 c2 A3 c3) 40)).alloc (Obj.cells #[.int .u8 u.k,.int .i64 u.n,.int .i64 u.v,.int .u8 u.c,.slice A' m' cp'] 27)=x:=⟨_,rfl⟩;rw[hW] at hka2 hkb hbb;unfold cellsS at hW;have HW:=qq hW;have HK:=qq hka2;have HKu:=qq hkb;have Hb:=qq hbb;have HR:=qq (hr.fresh hbb);have Hu:=qq ((hu.below hbb).more hbb.size);obtain⟨x0,x1,x2,x3,x4,x5,x6,x7,x8,x9⟩:=box_cells hka2;obtain⟨k1,hk1⟩:∃ k,s.tab.low.length=k:=⟨_,rfl⟩;obtain⟨k2,hk2⟩:∃ k,s.tab.up.length=k:=⟨_,rfl⟩;obtain⟨k3,hk3⟩:∃ k,s.tab.pair.length=k:=⟨_,rfl⟩;have hP:=HR.out.pair;rw[hk3] at hP;have z3:k3≤9223372036854775807:=Nat.le_trans hP.2.1 hP.2.2.1;have HP:=qq hP;rw[hk1] at x7;rw[hk2] at x8;rw[hk3] at x9;have hW2:=HW.out;rw[hk1,hk2,hk3] at hW2;have HW2:=qq hW2;unfold cellsS;rw[hk1,hk2,hk3];clear hW2 hk1 hk2 hk3;clear hka hba hsa hka2 hkb hbb hW hr hu x0 x1 x2 x3 x4 x5 x6 hP
 go_enter Tryz.func16,Tryz.ntmps16
 go_upto_region 1 with fail;rw[HW2.out];go_wp2_with fail;generalize wrap64 _=z0
 go_loopg [5,26] k3 (fun gh s5 i wr=>∃ (j:Nat) (z:Int),j≤k3∧gh=k3 - j∧s5=.int .i64 z∧i=.int .i64 (j:Nat)∧wr=W)
 case atStart=>exact⟨0,_,Nat.zero_le _,rfl,rfl,rfl,rfl⟩
 case round=>
  obtain⟨j,z,hj,rfl,rfl,rfl,rfl⟩:=hrel
  by_cases hjk:j<k3
  · have d0:decide (j<k3)=true:=by simpa using hjk
    have hl:=HP.out.1
    have hj':j<s.tab.pair.length:=by omega
    obtain⟨b,off,rfl,_,hc⟩:=HP.out.2.2.2 (by omega);obtain⟨A',c',e0,hrow⟩:=hc j hj';obtain⟨l,hll⟩:∃ l,s.tab.pair[j].length=l:=⟨_,rfl⟩;rw[hll] at e0;clear hc hrow hll hl;obtain⟨z',hz'⟩:∃ z',wrap64 (z+min (l:Int) 5000)=z':=⟨_,rfl⟩;obtain⟨D,hD⟩:∃ D,decide (5000<z')=D:=⟨_,rfl⟩
    cases D with
    | true=>
      go_wp2_with fail;go_ret;exact⟨true,rfl,Hb.out⟩
    | false=>
      go_wp2_with fail;go_roundg (k3 - (j+1))
      case measure=>omega
      case rel=>exact⟨j+1,_,by omega,rfl,rfl,by simp,rfl⟩
  · have d0:decide (j<k3)=false:=by simpa using hjk
    obtain⟨D,hD⟩:∃ D,decide (5000<z)=D:=⟨_,rfl⟩;obtain⟨x0,x1,x2,x3,x4,x5,x6,q7,q8,q9⟩:=box_cells HK.out;have y0:=HKu.out.cell 0;have y1:=HKu.out.cell 1;have y2:=HKu.out.cell 2;have y3:=HKu.out.cell 3;have y4:=HKu.out.cell 4;simp only[qc,qb,qa] at y0 y1 y2 y3 y4;have hKS:∀ W',Below wr.heap.size wr W'→W'.cell? ⟨w.heap.size,2,none⟩=some (.int .u8 s.t.k)∧W'.cell? ⟨w.heap.size,3,none⟩=some (.int .i64 s.t.n)∧W'.cell? ⟨w.heap.size,4,none⟩=some (.int .i64 s.t.v)∧W'.cell? ⟨w.heap.size,5,none⟩=some (.int .u8 s.t.c)∧W'.cell? ⟨w.heap.size,6,none⟩=some (.slice A m cp)∧W'.cell? ⟨w.heap.size+1,0,none⟩=some (.int .u8 u.k)∧W'.cell? ⟨w.heap.size+1,1,none⟩=some (.int .i64 u.n)∧W'.cell? ⟨w.heap.size+1,2,none⟩=some (.int .i64 u.v)∧W'.cell? ⟨w.heap.size+1,3,none⟩=some (.int .u8 u.c)∧W'.cell? ⟨w.heap.size+1,4,none⟩=some (.slice A' m' cp'):=fun W' hW'=>⟨(HK.out.below hW' HK.out.lt).cell 2,(HK.out.below hW' HK.out.lt).cell 3,(HK.out.below hW' HK.out.lt).cell 4,(HK.out.below hW' HK.out.lt).cell 5,(HK.out.below hW' HK.out.lt).cell 6,(HKu.out.below hW' HKu.out.lt).cell 0,(HKu.out.below hW' HKu.out.lt).cell 1,(HKu.out.below hW' HKu.out.lt).cell 2,(HKu.out.below hW' HKu.out.lt).cell 3,(HKu.out.below hW' HKu.out.lt).cell 4⟩;have HKS:=qq hKS;clear hKS x0 x1 x2 x3 x4 x5 x6 q7 q8 q9 y0 y1 y2 y3 y4 x7 x8 x9;go_upto_region 9 with fail;refine wp_region_noPanic ?_;refine wp_region_T (fun W'=>W'.cell? ⟨w.heap.size,2,none⟩=some (.int .u8 s.t.k)∧W'.cell? ⟨w.heap.size,3,none⟩=some (.int .i64 s.t.n)∧W'.cell? ⟨w.heap.size,4,none⟩=some (.int .i64 s.t.v)∧W'.cell? ⟨w.heap.size,5,none⟩=some (.int .u8 s.t.c)∧W'.cell? ⟨w.heap.size,6,none⟩=some (.slice A m cp)∧W'.cell? ⟨w.heap.size+1,0,none⟩=some (.int .u8 u.k)∧W'.cell? ⟨w.heap.size+1,1,none⟩=some (.int .i64 u.n)∧W'.cell? ⟨w.heap.size+1,2,none⟩=some (.int .i64 u.v)∧W'.cell? ⟨w.heap.size+1,3,none⟩=some (.int .u8 u.c)∧W'.cell? ⟨w.heap.size+1,4,none⟩=some (.slice A' m' cp')) 11 (by kernel_rfl) (HKS.out _ (Below.drew (Below.refl _ _))) (fun hHeld=>?_);have hbd:Below wr.heap.size wr wr.drew:=Below.drew (Below.refl _ _);generalize wr.drew=W0 at hHeld hbd ⊢
    cases D with
    | true=>
      refine nx0 0 ?_
      iterate 3 (refine nx (v:=?_) rfl (by kernel_rfl) (fun _ _ _ h=>h) (by rfl) ?_ (by assumption) ?_; rotate_left; focus (intro w hSw; (try dsimp only at hSw); first | (go_simp; done) | (go_simp; with_reducible rfl)); try simp only[Act.put,qg,qe,qf,qd,qh,qi,Nat.reduceAdd])
      refine nx9 ?_;refine nx0 3 ?_
      iterate 7 (refine nxk rfl (by kernel_rfl) (fun _ _ _ h=>h) (by rfl) (by assumption) ?_; try simp only[Act.put,qg,qe,qf,qd,qh,qi,Nat.reduceAdd])
      refine nx9 ?_
      refine wpAnyT_take (i:=10) (v:=?_) rfl (by kernel_rfl) (by kernel_rfl) (by kernel_rfl) (by kernel_rfl) (fun _ _ _ h=>h) (Or.inl ⟨by rfl,?_⟩) (by assumption) ?_
      rotate_left
      · (intro w hSw; (try dsimp only at hSw); first | (go_simp; done) | (go_simp; with_reducible rfl))
      try simp only[Act.put,qg,qe,qf,qd,qh,qi]
      have Hbe:=qq (Hb.out.trans (hbd.mono Hb.out.size));clear hHeld hbd;refine wpAnyT_seq 11 (by omega) (by rfl) (by kernel_rfl) ?_;simp only[List.drop_succ_cons,List.drop_zero];go_wp2_with fail;refine NoPanic.normal ?_;go_wp2_with fail;go_ret;exact⟨_,rfl,Hbe.out⟩
    | false=>
      refine nx0 0 ?_
      iterate 5 (refine nx (v:=?_) rfl (by kernel_rfl) (fun _ _ _ h=>h) (by rfl) ?_ (by assumption) ?_; rotate_left; focus (intro w hSw; (try dsimp only at hSw); first | (go_simp; done) | (go_simp; with_reducible rfl)); try simp only[Act.put,qg,qe,qf,qd,qh,qi,Nat.reduceAdd])
      refine nx9 ?_
      refine wpAnyT_take (i:=6) (v:=?_) rfl (by kernel_rfl) (by kernel_rfl) (by kernel_rfl) (by kernel_rfl) (fun _ _ _ h=>h) (Or.inl ⟨by rfl,?_⟩) (by assumption) ?_
      rotate_left
      · (intro w hSw; (try dsimp only at hSw); first | (go_simp; done) | (go_simp; with_reducible rfl))
      try simp only[Act.put,qg,qe,qf,qd,qh,qi]
      clear hHeld;refine wpAnyT_step (i:=5) (by kernel_rfl) rfl (fun K hK=>?_)
      (go_simp; refine(refSize_any s.t _ W0 ⟨A,m,cp,rfl,(HR.out.ty.below hbd).more hbd.size⟩).mono ?_; rintro e W1 ⟨rfl,hb1⟩; have hbW1:=hbd.trans (hb1.mono hbd.size); clear hb1)
      refine hK.out _ _ (HKS.out _ hbW1) ?_;clear hK K
      try simp only[Act.put,qg,qe,qf,qd,qh,qi]
      refine wpAnyT_step (i:=7) (by kernel_rfl) rfl (fun K hK=>?_)
      (go_simp; refine(refSize_any u _ W1 ⟨A',m',cp',rfl,(Hu.out.below hbW1).more hbW1.size⟩).mono ?_; rintro e W2 ⟨rfl,hb2⟩; have hbW2:=hbW1.trans (hb2.mono hbW1.size); clear hb2)
      refine hK.out _ _ (HKS.out _ hbW2) ?_;clear hK K
      try simp only[Act.put,qg,qe,qf,qd,qh,qi]
      have hHeld:=HKS.out _ hbW2;refine nx0 8 ?_
      iterate 3 (refine nx (v:=?_) rfl (by kernel_rfl) (fun _ _ _ h=>h) (by rfl) ?_ (by assumption) ?_; rotate_left; focus (intro w hSw; (try dsimp only at hSw); first | (go_simp; done) | (go_simp; with_reducible rfl)); try simp only[Act.put,qg,qe,qf,qd,qh,qi,Nat.reduceAdd])
      refine nx9 ?_;have Hbe:=qq (Hb.out.trans (hbW2.mono Hb.out.size));clear hHeld hbd hbW1 hbW2;refine wpAnyT_seq 11 (by omega) (by rfl) (by kernel_rfl) ?_;simp only[List.drop_succ_cons,List.drop_zero];go_wp2_with fail;refine NoPanic.normal ?_;go_wp2_with fail;go_ret;exact⟨_,rfl,Hbe.out⟩
theorem wrap_mod {a b:Int} (h:(a - b) % 18446744073709551616=0):wrap64 a=wrap64 b:=by
 unfold wrap64;omega
theorem grown_mod {sz sz':List Int} (hl:sz.length=sz'.length) (h:∀ i,(sz.getD i 0 - sz'.getD i 0) % 18446744073709551616=0) (t:TyD):(grownN sz t - grownN sz' t) % 18446744073709551616=0:=by
 induction t using ty_ind with
 | h t ih=>
   rw[grownN_eq,grownN_eq sz' t,hl]
   by_cases hc:t.k=1∧t.n<sz'.length
   · rw[if_pos hc,if_pos hc]
     exact h _
   · rw[if_neg hc,if_neg hc]
     have key:∀ l:List TyD,(∀ x∈l,(grownN sz x - grownN sz' x) % 18446744073709551616=0)→(grownN.grownL sz l - grownN.grownL sz' l) % 18446744073709551616=0:=by
      intro l
      induction l with
      | nil=>intro _; rfl
      | cons x l ih2=>
        intro hx;have h1:=hx x (by simp);have h2:=ih2 fun y hy=>hx y (List.mem_cons_of_mem _ hy);rw[grownN.grownL,grownN.grownL];omega
     have:=key t.l ih;omega
theorem sizeW_mod (t:TyD):(sizeW t - (nodes t:Int)) % 18446744073709551616=0:=by
 unfold sizeW wrap64;omega
theorem grown_put {t:TyD} (types:List TyD) (fm:Int→Int × Int) (ht:mayT t=true):grownW (types.map sizeW) t=sizeW (turnT (putV types) fm t):=by
 have hg:grownN (types.map fun x=>(nodes x:Int)) t=nodes (turnT (putV types) fm t):=by
  refine grown_nodes (fun n hn=>(allV_nonneg ht n hn).1) (fun n hn=>?_) ht;have h0:=(allV_nonneg ht n hn).1;rw[List.length_map];unfold putV
  by_cases hlt:n<types.length
  · have hi:n.toNat<types.length:=by omega
    rw[if_pos hlt,if_pos hlt,List.getD_eq_getElem?_getD,List.getElem?_map,qj hi,Option.map_some,Option.map_some,Option.getD_some,Option.getD_some]
  · rw[if_neg hlt,if_neg hlt]; rfl
 have h1:(grownN (types.map sizeW) t - (nodes (turnT (putV types) fm t):Int)) % 18446744073709551616=0:=by
  rw[← hg];refine grown_mod (by rw[List.length_map,List.length_map]) (fun i=>?_) t;rw[List.getD_eq_getElem?_getD,List.getD_eq_getElem?_getD,List.getElem?_map,List.getElem?_map]
  cases types[i]? with
  | none=>rw[Option.map_none,Option.map_none,Int.sub_self,Int.zero_emod]
  | some x=>
    rw[Option.map_some,Option.map_some,Option.getD_some,Option.getD_some];exact sizeW_mod x
 have h2:=wrap_mod h1;rw[grownW,h2,sizeW]
theorem put_may {t:TyD} {types:List TyD} {ms:List (Int × Int)} (h:putE t types ms=0):putT t types ms=turnT (putV types) (putM ms) t∧mayTE (turnT (putV types) (putM ms) t)=0∧(∀ m∈ms,isB m.2 m.1=true)∧(∀ u∈types,mayT u=true)∧mayT t=true:=by
 have hp:putT t types ms=turnT (putV types) (putM ms) t:=by unfold putT; rw[if_pos h]
 unfold putE at h
 cases hb:putBad t types ms with
 | true=>rw[hb,if_pos rfl] at h; exact absurd h (by decide)
 | false=>
   rw[hb,if_neg (by decide)] at h;unfold putBad at hb;simp only[Bool.or_eq_false_iff,bne_eq_false_iff_eq,List.any_eq_false,Bool.not_eq_true,Bool.not_eq_false'] at hb;obtain⟨⟨h1,h2⟩,h3⟩:=hb;have ht:=mayTE_may h1;rw[grown_put types (putM ms) ht] at h
   have hm:mayT (turnT (putV types) (putM ms) t)=true:=by
    refine turn_may ht (fun n hn u hu=>?_) (fun v hv=>?_)
    · unfold putV at hu
      split at hu
      · exact mayTE_may (h2 u (List.mem_of_getElem? hu))
      · cases hu
    · have h0:=allM_nonneg ht v hv
      have hown:isB 0 v=true:=by
       simp[isB,oneB];omega
      unfold putM
      by_cases hlt:v<ms.length
      · rw[if_pos hlt,List.getD_eq_getElem?_getD,qj (by omega)]
        exact h3 _ (List.getElem_mem _)
      · rw[if_neg hlt]; exact hown
   refine⟨hp,?_,h3,fun u hu=>mayTE_may (h2 u hu),ht⟩;unfold mayTE
   split at h
   · exact absurd h (by decide)
   · rename_i h9
     rw[if_neg h9,if_pos hm]
theorem puts_law {s:SchD} (hs:OkSch s) {types:List TyD} {ms:List Int} {u:TyD} (hlt:types.length=(varsT s.t).length) (hlm:ms.length=(multsT s.t).length) (hp:putE s.t types (muL ms)=0) (hu:putT s.t types (muL ms)=u):
 mayTE u=0∧(InstE s u↔LetsA (multsT s.t).length s.tab ms)∧typesE (varsT s.t).length (putsE s u).2=types∧multsE (multsT s.t).length (putsE s u).2=ms:=by
 obtain⟨h1,h2,h3,h4,h5⟩:=put_may hp;rw[hu] at h1;rw[← h1] at h2;obtain⟨e1,e2,e3⟩:=puts_of hs (mayTE_may h2) h1.symm
 have hm:multsE (multsT s.t).length (putsE s u).2=ms:=by
  rw[e3];exact putsM_mu hlm
 have ht:typesE (varsT s.t).length (putsE s u).2=types:=by
  rw[e2];refine List.ext_getElem (by simp[hlt]) fun i h1 h2=>?_;rw[List.getElem_map,List.getElem_range];unfold putV;rw[if_pos (by omega),Int.toNat_natCast,qj h2];rfl
 refine⟨h2,?_,ht,hm⟩;unfold InstE;rw[hm];exact⟨fun h=>h.2.2,fun h=>⟨h2,e1,h⟩⟩
theorem own_none {keep asg:List Int} (hk:∀ v∈keep.map Int.toNat,v<asg.length) (h:asg.any notM=false):noneB (ownA keep asg)=false:=by
 unfold noneB ownA;refine List.any_eq_false.2 fun x hx=>?_;obtain⟨v,hv,rfl⟩:=List.mem_map.1 hx;have hl:=hk v hv;rw[List.getD_eq_getElem?_getD,qj hl,Option.getD_some];exact List.any_eq_false.1 h _ (List.getElem_mem hl)
theorem solves_law {s:SchD} {t x:TyD} {types:List TyD} {ms:List Int} {n:Int} {xs:List IneqD} (hc:CloseR t n xs s 0) (hml:(ms.length:Int)=n) (hp:putE t types (muL ms)=0) (hx:putT t types (muL ms)=x):
 OkSch s∧mayTE t=0∧(∀ v∈multsT t,v<n)∧(∀ v∈multsT t,0≤v)∧ProjR n xs (multsT t) s.tab 0∧(varsT s.t).length=(varsT t).length ∧
 (InstE s x↔LetsA (multsT t).length s.tab (ownA (multsT t) ms))∧multsE (multsT s.t).length (putsE s x).2=ownA (multsT t) ms∧(typesE (varsT s.t).length (putsE s x).2).length=(varsT t).length:=by
 obtain⟨hok,hst,hmt,hlt,hpr⟩:=closeR_ok hc;obtain⟨h1,h2,h3,h4,h5⟩:=put_may hp;rw[hx] at h1;rw[← h1] at h2;have h0:∀ v∈multsT t,0≤v:=fun v hv=>(allM_nonneg h5 v (mem_mults.1 hv)).1
 have hback:turnT (fun i:Int=>some ((putV types ((varsT t).getD i.toNat 0)).getD (plainV ((varsT t).getD i.toNat 0)))) (fun i:Int=>putM (muL ms) ((multsT t).getD i.toNat 0)) s.t=x:=by
  rw[hst];unfold canT;rw[turn_ren,h1];refine turn_congr h5 (fun n hn=>?_) fun v hv=>?_
  · obtain⟨i,hi,e,el⟩:=idxN_mem (mem_vars.2 hn)
    have e2:(varsT t).getD (idxN (varsT t) n).toNat 0=n:=by
     rw[e,Int.toNat_natCast,List.getD_eq_getElem?_getD,qj hi,Option.getD_some,el]
    simp only[Option.getD_some,e2]
  · obtain⟨i,hi,e,el⟩:=idxN_mem (mem_mults.2 hv)
    have e2:(multsT t).getD (idxN (multsT t) v).toNat 0=v:=by
     rw[e,Int.toNat_natCast,List.getD_eq_getElem?_getD,qj hi,Option.getD_some,el]
    simp only[e2]
 obtain⟨e1,e2,e3⟩:=puts_of hok (mayTE_may h2) hback
 have hk:(multsT s.t).length=(multsT t).length:=by rw[hst,canT_mults h5]; simp
 have hv:(varsT s.t).length=(varsT t).length:=by rw[hst,canT_vars h5]; simp
 have hm:multsE (multsT s.t).length (putsE s x).2=ownA (multsT t) ms:=by
  rw[e3,hk];unfold ownA;refine List.ext_getElem (by simp) fun i p1 p2=>?_
  have hi:i<(multsT t).length:=by simpa using p2
  rw[List.getElem_map,List.getElem_range,List.getElem_map,List.getElem_map,Int.toNat_natCast,List.getD_eq_getElem?_getD (l:=multsT t),qj hi,Option.getD_some];have hvm:=List.getElem_mem hi;have hv0:=h0 _ hvm;have hv1:=hlt _ hvm;obtain⟨v,hve⟩:∃ v:Nat,(multsT t)[i]=(v:Int):=⟨((multsT t)[i]).toNat,(Int.toNat_of_nonneg hv0).symm⟩;rw[hve] at hv1 ⊢;rw[putM_mu (by omega),Int.toNat_natCast]
 refine⟨hok,hmt,hlt,h0,hpr,hv,?_,hm,by rw[e2,List.length_map,List.length_range,hv]⟩
 unfold InstE;rw[hm,hk];exact⟨fun h=>h.2.2,fun h=>⟨h2,e1,h⟩⟩
end Go.Proofs.YtdmakpmbknindaaGreatDoor
