import Derived.Test.YtgpeijkjmkocgaaDoorM20
set_option linter.unusedVariables false
set_option linter.unusedSimpArgs false
set_option maxHeartbeats 8000000
set_option maxRecDepth 100000
namespace Go.Proofs.YtgpeijkjmkocgaaDoor
open Go.RowKit Go.Maps
def paramsOf (s:SigD) (con:Int):Int:=(((s.cons[con.toNat]?).bind fun c=>s.datas[c.data.toNat]?).map DataD.params).getD 0
def flOf (s:SigD) (con:Int):List TyD:=((s.cons[con.toNat]?).map ConD.fields).getD []
def flOk (s:SigD) (con:Int) (args:List TyD):Bool:=(errS s==0)&&decide (0≤con)&&decide (con<s.cons.length)&&decide ((args.length:Int)=paramsOf s con)&&!(args.any fun t=>mayTE t != 0)
def putE0 (args:List TyD) (t:TyD):Int:=putE t args []
def putT0 (args:List TyD) (t:TyD):TyD:=putT t args []
def firstE (args:List TyD) (fs:List TyD):Int:=((fs.find? fun t=>putE0 args t != 0).map (putE0 args)).getD 0
def flE (s:SigD) (con:Int) (args:List TyD):Int:=if flOk s con args=true then firstE args (flOf s con) else 2
def flL (s:SigD) (con:Int) (args:List TyD):List TyD:=if flE s con args=0 then (flOf s con).map (putT0 args) else []
theorem fields_no {s:SigD} {con:Int} {args:List TyD} (h:flOk s con args=false):flE s con args=2∧flL s con args=[]:=by
 have h1:flE s con args=2:=by unfold flE; exact if_neg (by rw[h]; exact Bool.false_ne_true)
 exact⟨h1,by unfold flL; rw[h1]; exact if_neg (by decide)⟩
theorem fields_bad {s:SigD} {con:Int} {args:List TyD} (h:flOk s con args=true) {k:Nat} (hk:k<(flOf s con).length) (hb:∀ j (h:j<(flOf s con).length),j<k→putE0 args (flOf s con)[j]=0) (h1:putE0 args (flOf s con)[k]≠0):flE s con args=putE0 args (flOf s con)[k]∧flL s con args=[]:=by
 have hf:(flOf s con).find? (fun t=>putE0 args t != 0)=some (flOf s con)[k]:=by
  rw[List.find?_eq_some_iff_getElem]
  refine⟨by simpa using h1,k,hk,rfl,fun j hj=>?_⟩
  rw[hb j (by omega) hj];simp
 have h2:flE s con args=putE0 args (flOf s con)[k]:=by
  unfold flE firstE;rw[if_pos h,hf,Option.map_some,Option.getD_some]
 exact⟨h2,by unfold flL; rw[h2,if_neg h1]⟩
theorem fields_yes {s:SigD} {con:Int} {args:List TyD} (h:flOk s con args=true) (hb:∀ j (h:j<(flOf s con).length),putE0 args (flOf s con)[j]=0):flE s con args=0∧flL s con args=(flOf s con).map (putT0 args):=by
 have hf:(flOf s con).find? (fun t=>putE0 args t != 0)=none:=by
  rw[List.find?_eq_none];intro x hx;obtain⟨j,hj,rfl⟩:=List.getElem_of_mem hx;rw[hb j hj];simp
 have h2:flE s con args=0:=by
  unfold flE firstE;rw[if_pos h,hf,Option.map_none,Option.getD_none]
 exact⟨h2,by unfold flL; rw[if_pos h2]⟩
theorem conOk_data {s:SigD} {i:Nat} (h:errS s=0) (hi:i<s.cons.length):∃ j:Nat,s.cons[i].data=j∧j<s.datas.length∧s.cons[i].fields.length≤8:=by
 have hm:mayS s=true:=by
  cases e:mayS s with
  | true=>rfl
  | false=>rw[errS_no e] at h; cases h
 unfold mayS at hm;simp only[Bool.and_eq_true] at hm;have:=range_all.1 hm.1.2 i hi;rw[conOk_eq hi] at this;simp only[Bool.and_eq_true,decide_eq_true_eq] at this;obtain⟨⟨⟨⟨⟨h1,h2⟩,h3⟩,_⟩,_⟩,_⟩:=this
 exact⟨s.cons[i].data.toNat,by omega,by omega,h3⟩
theorem datOk_params {s:SigD} {i:Nat} (h:errS s=0) (hi:i<s.datas.length):0≤s.datas[i].params∧s.datas[i].params≤4:=by
 have hm:mayS s=true:=by
  cases e:mayS s with
  | true=>rfl
  | false=>rw[errS_no e] at h; cases h
 unfold mayS at hm;simp only[Bool.and_eq_true] at hm;have:=range_all.1 hm.2 i hi;rw[datOk_eq hi] at this;simp only[Bool.and_eq_true,decide_eq_true_eq] at this;exact⟨this.1.1.1.1,this.1.1.1.2⟩
theorem musV_none (w:World) (B:Nat):MusV w B none 0 0 []:=by
 unfold MusV;exact⟨rfl,Nat.le_refl _,Nat.zero_le _,fun h=>absurd h (by omega)⟩
theorem tysS_keepB {w w':World} {B:Nat} {A:Option Addr} {m cp:Nat} {l:List TyD} (h:TysS w (fun b=>B≤b∧b<w.heap.size) A m cp l) (hb:Below w.heap.size w w'):TysS w' (fun b=>B≤b∧b<w.heap.size) A m cp l:=
 tysS_sl.2 ((tysS_sl.1 h).keep (fun _ h=>h) fun p hp=>hb.cell hp.2)
def FieldsPost (s:SigD) (con:Int) (args:List TyD) (w:World) (e:Ending) (w':World):Prop:=
 ∃ A m cp,e=.returned (.tuple #[.slice A m cp,.int .i64 (flE s con args)])∧TysV w' w'.heap.size A m cp (flL s con args)∧Below w.heap.size w w'
theorem FieldsPost.nil {s:SigD} {con:Int} {args:List TyD} {w w':World} {x:Int} (h:flE s con args=x∧flL s con args=[]) (hb:Below w.heap.size w w'):FieldsPost s con args w (.returned (.tuple #[.slice none 0 0,.int .i64 x])) w':=by
 refine⟨none,0,0,by rw[h.1],?_,hb⟩
 rw[h.2];exact tysV_sl.2 Sl.nil
theorem fields_any (s:SigD) (A:Option Addr) (n c:Nat) (A2:Option Addr) (n2 c2:Nat) (con:Int) (A3:Option Addr) (n3 c3:Nat) (args:List TyD) (w:World) (h:SigR w (Lt w.heap.size) s A n c A2 n2 c2) (hnc:∀ x∈s.cons,x.name.size+1≤maxLen) (hnd:∀ x∈s.datas,x.name.size+1≤maxLen) (ha:TysV w w.heap.size A3 n3 c3 args):
  Calls Tryd.prog 30 #[.agg #[.slice A n c,.slice A2 n2 c2],.int .i64 con,.slice A3 n3 c3] w (FieldsPost s con args w):=by
 have hln:s.datas.length=n:=h.datas.len;have hln2:s.cons.length=n2:=h.cons.len;have hln3:args.length=n3:=ha.len;have n63:n≤9223372036854775807:=h.datas.cap;have n263:n2≤9223372036854775807:=h.cons.cap;have n363:n3≤9223372036854775807:=(tysV_sl.1 ha).cap;have hbx:=below_box (w:=w) (Obj.cells #[.slice A n c,.slice A2 n2 c2] 25);have hkx:=blk_new w #[.slice A n c,.slice A2 n2 c2] 25;obtain⟨W,hW⟩:∃ x,w.alloc (Obj.cells #[.slice A n c,.slice A2 n2 c2] 25)=x:=⟨_,rfl⟩;rw[hW] at hbx hkx;have x0:W.cell? ⟨w.heap.size,0,none⟩=some (.slice A n c):=hkx.cell 0;have x1:W.cell? ⟨w.heap.size,1,none⟩=some (.slice A2 n2 c2):=hkx.cell 1;obtain⟨pe,hpe⟩:∃ q,errS s=q:=⟨_,rfl⟩;have HS:=qq h;have Hnc:=qq hnc;have Hnd:=qq hnd;have Ha:=qq ha;have HW:=qq hW;have Hb:=qq hbx;have Hkx:=qq hkx;have Hpe:=qq hpe;clear h hnc hnd ha hW hbx hkx hpe
 go_enter Tryd.func30,Tryd.ntmps30
 go_upto_region 1 with fail;rw[HW.out];clear HW
 by_cases p1:pe=0
 · subst p1
   by_cases p2:con<0
   · have b2:decide (con<0)=true:=by simpa using p2
     have HR:Hid (flOk s con args=false):=qq (by unfold flOk; simp; omega)
     clear p2;refine wp_region_noPanic ?_;refine wp_region_T (fun w'=>w'.cell? ⟨w.heap.size,0,none⟩=some (.slice A n c)∧w'.cell? ⟨w.heap.size,1,none⟩=some (.slice A2 n2 c2)) 34 (by kernel_rfl) (⟨x0,x1⟩) (fun hHeld=>?_);have hbd:Below W.heap.size W W.drew:=Below.drew (Below.refl _ _);have H2:=qq (Hb.out.trans (hbd.mono Hb.out.size));clear hbd x0 x1;generalize W.drew=w2 at hHeld H2 ⊢;refine nx0 0 ?_
     iterate 1 (refine nx (v:=?_) rfl (by kernel_rfl) (fun _ _ _ h=>h) (by kernel_rfl) ?_ (by assumption) ?_; rotate_left; (focus (intro w hSw; (try dsimp only at hSw); first | (go_simp; done) | (go_simp; with_reducible rfl))); try simp only[Act.put,qg,qe,qf,qd,qh,qi,Nat.reduceAdd])
     refine nx9 ?_;refine wpAnyT_step (i:=1) (by kernel_rfl) rfl (fun K hK=>?_)
     (go_simp; refine(may13_any s _ n c _ n2 c2 w2 (HS.out.fresh H2.out) Hnc.out Hnd.out).mono ?_; rintro e w3 ⟨rfl,hq3⟩; have H3:=qq (H2.out.trans (hq3.mono H2.out.size)); rw[Hpe.out]; replace hHeld:=(And.intro ((hq3.cell (block_lt_of_cell hHeld.1)).trans hHeld.1) ((hq3.cell (block_lt_of_cell hHeld.2)).trans hHeld.2)); clear hq3)
     refine hK.out _ _ hHeld ?_;clear hK K
     try simp only[Act.put,qg,qe,qf,qd,qh,qi]
     clear H2;refine nx0 2 ?_
     iterate 6 (refine nx (v:=?_) rfl (by kernel_rfl) (fun _ _ _ h=>h) (by kernel_rfl) ?_ (by assumption) ?_; rotate_left; (focus (intro w hSw; (try dsimp only at hSw); first | (go_simp; done) | (go_simp; with_reducible rfl))); try simp only[Act.put,qg,qe,qf,qd,qh,qi,Nat.reduceAdd])
     refine nx9 ?_;refine nx0 8 ?_
     iterate 5 (refine nxk rfl (by kernel_rfl) (fun _ _ _ h=>h) (by kernel_rfl) (by assumption) ?_; try simp only[Act.put,qg,qe,qf,qd,qh,qi,Nat.reduceAdd])
     refine nx9 ?_;refine nx0 13 ?_
     iterate 2 (refine nx (v:=?_) rfl (by kernel_rfl) (fun _ _ _ h=>h) (by kernel_rfl) ?_ (by assumption) ?_; rotate_left; (focus (intro w hSw; (try dsimp only at hSw); first | (go_simp; done) | (go_simp; with_reducible rfl))); try simp only[Act.put,qg,qe,qf,qd,qh,qi,Nat.reduceAdd])
     refine nx9 ?_;refine nx0 15 ?_
     iterate 14 (refine nxk rfl (by kernel_rfl) (fun _ _ _ h=>h) (by kernel_rfl) (by assumption) ?_; try simp only[Act.put,qg,qe,qf,qd,qh,qi,Nat.reduceAdd])
     refine nx9 ?_;refine nx0 29 ?_
     iterate 2 (refine nx (v:=?_) rfl (by kernel_rfl) (fun _ _ _ h=>h) (by kernel_rfl) ?_ (by assumption) ?_; rotate_left; (focus (intro w hSw; (try dsimp only at hSw); first | (go_simp; done) | (go_simp; with_reducible rfl))); try simp only[Act.put,qg,qe,qf,qd,qh,qi,Nat.reduceAdd])
     refine nx9 ?_;refine nx0 31 ?_
     iterate 2 (refine nxk rfl (by kernel_rfl) (fun _ _ _ h=>h) (by kernel_rfl) (by assumption) ?_; try simp only[Act.put,qg,qe,qf,qd,qh,qi,Nat.reduceAdd])
     refine nx9 ?_;refine nx0 33 ?_
     iterate 1 (refine nx (v:=?_) rfl (by kernel_rfl) (fun _ _ _ h=>h) (by kernel_rfl) ?_ (by assumption) ?_; rotate_left; (focus (intro w hSw; (try dsimp only at hSw); first | (go_simp; done) | (go_simp; with_reducible rfl))); try simp only[Act.put,qg,qe,qf,qd,qh,qi,Nat.reduceAdd])
     refine nx9 ?_;clear hHeld;refine wpAnyT_seq 34 (by omega) (by rfl) (by kernel_rfl) ?_;simp only[List.drop_succ_cons,List.drop_zero];go_wp2_with fail;refine NoPanic.normal ?_;go_wp2_with fail;exact bodyPost_ret (v:=.tuple #[.slice none 0 0,.int .i64 2]) (by simp[results,Tryd.results30,go_sem]) rfl (FieldsPost.nil (fields_no HR.out) H3.out)
   · have b2:decide (con<0)=false:=by simpa using p2
     obtain⟨i,hi⟩:∃ i:Nat,con=i:=⟨con.toNat,by omega⟩
     subst hi
     by_cases p3:i<n2
     · have b3:decide ((i:Int)≥(n2:Int))=false:=by simp; omega
       have b3':decide ((n2:Int)≤(i:Int))=false:=by simp; omega
       have b3n:decide (n2≤i)=false:=by simp; omega
       have hi':i<s.cons.length:=by omega
       obtain⟨j,hj,hjd,hf8⟩:=conOk_data Hpe.out hi';have hpr:=datOk_params Hpe.out hjd;obtain⟨bc,oc,rfl,hbc,hcc⟩:=cons_at HS.out.cons (by omega);obtain⟨bd,od,rfl,hbd,hcd⟩:=datas_at HS.out.datas (by omega);obtain⟨_,q1,⟨Af,mf,cf,q2,hF⟩,_⟩:=hcc i hi';obtain⟨_,q3,_⟩:=hcd j hjd
       have hpo:paramsOf s i=s.datas[j].params:=by
        unfold paramsOf;rw[Int.toNat_natCast,qj hi'];show(((s.datas[(s.cons[i].data).toNat]?).map DataD.params).getD 0)=_;rw[hj,Int.toNat_natCast,qj hjd];rfl
       have hfo:flOf s i=s.cons[i].fields:=by
        unfold flOf;rw[Int.toNat_natCast,qj hi'];rfl
       rw[← hfo] at hF hf8;rw[hj] at q1;obtain⟨pv,hpv⟩:∃ q,s.datas[j].params=q:=⟨_,rfl⟩;rw[hpv] at q3 hpo hpr;have y1:W.cell? ⟨bc,oc+i * 4+1,none⟩=some (.int .i64 (j:Nat)):=(Hb.out.cell (p:=⟨bc,oc+i * 4+1,none⟩) hbc).trans q1;have y2:W.cell? ⟨bd,od+j * 3+1,none⟩=some (.int .i64 pv):=(Hb.out.cell (p:=⟨bd,od+j * 3+1,none⟩) hbd).trans q3
       have i1:(0:Int)≤(i:Int):=by omega
       have i2:(i:Int)<n2:=by omega
       have j1:(0:Int)≤(j:Int):=by omega
       have j2:(j:Int)<n:=by omega
       have Hpo:=qq hpo;have HF:=qq hF;have Hf8:=qq hf8;have Hpr:=qq hpr;have Hq2:=qq q2;have Hbc:=qq hbc;clear hpo hF hcc hcd q1 q2 q3 hj hpv hfo hf8 hpr hbc hbd
       by_cases p4:(n3:Int)=pv
       · have b4:((n3:Int) != pv)=false:=by simpa using p4
         obtain⟨r,hr⟩:∃ r,(args.any fun t=>mayTE t != 0)=r:=⟨_,rfl⟩;have Hr:=qq hr
         have hn4:n3≤1099511627776:=by have:=Hpr.out; omega
         have Hp4:=qq p4;clear hr p4;refine wp_region_noPanic ?_;refine wp_region_T (fun w'=>w'.cell? ⟨w.heap.size,0,none⟩=some (.slice (some ⟨bd,od,none⟩) n c)∧w'.cell? ⟨w.heap.size,1,none⟩=some (.slice (some ⟨bc,oc,none⟩) n2 c2)∧w'.cell? ⟨bc,oc+i * 4+1,none⟩=some (.int .i64 (j:Nat))∧w'.cell? ⟨bd,od+j * 3+1,none⟩=some (.int .i64 pv)) 34 (by kernel_rfl) (⟨x0,x1,y1,y2⟩) (fun hHeld=>?_);have hbd:Below W.heap.size W W.drew:=Below.drew (Below.refl _ _);have H2:=qq (Hb.out.trans (hbd.mono Hb.out.size));clear hbd x0 x1;generalize W.drew=w2 at hHeld H2 ⊢;clear y1 y2;refine nx0 0 ?_
         iterate 1 (refine nx (v:=?_) rfl (by kernel_rfl) (fun _ _ _ h=>h) (by kernel_rfl) ?_ (by assumption) ?_; rotate_left; (focus (intro w hSw; (try dsimp only at hSw); first | (go_simp; done) | (go_simp; with_reducible rfl))); try simp only[Act.put,qg,qe,qf,qd,qh,qi,Nat.reduceAdd])
         refine nx9 ?_;refine wpAnyT_step (i:=1) (by kernel_rfl) rfl (fun K hK=>?_)
         (go_simp; refine(may13_any s _ n c _ n2 c2 w2 (HS.out.fresh H2.out) Hnc.out Hnd.out).mono ?_; rintro e w3 ⟨rfl,hq3⟩; have H3:=qq (H2.out.trans (hq3.mono H2.out.size)); rw[Hpe.out]; replace hHeld:=(And.intro ((hq3.cell (block_lt_of_cell hHeld.1)).trans hHeld.1) (And.intro ((hq3.cell (block_lt_of_cell hHeld.2.1)).trans hHeld.2.1) (And.intro ((hq3.cell (block_lt_of_cell hHeld.2.2.1)).trans hHeld.2.2.1) ((hq3.cell (block_lt_of_cell hHeld.2.2.2)).trans hHeld.2.2.2)))); clear hq3)
         refine hK.out _ _ hHeld ?_;clear hK K
         try simp only[Act.put,qg,qe,qf,qd,qh,qi]
         clear H2;refine nx0 2 ?_
         iterate 30 (refine nx (v:=?_) rfl (by kernel_rfl) (fun _ _ _ h=>h) (by kernel_rfl) ?_ (by assumption) ?_; rotate_left; (focus (intro w hSw; (try dsimp only at hSw); first | (go_simp; done) | (go_simp; with_reducible rfl))); try simp only[Act.put,qg,qe,qf,qd,qh,qi,Nat.reduceAdd])
         refine nx9 ?_;refine wpAnyT_step (i:=32) (by kernel_rfl) rfl (fun K hK=>?_)
         (go_simp; refine(containsG (fun x=>mayTE x != 0) 61 #[] (fun _ _=>rfl) A3 n3 c3 args w3 ((Ha.out.below H3.out).more H3.out.size) (fun i h A' m' c' w' _ hx=>fields1_any args[i] _ rfl A' m' c' w' hx) r Hr.out).mono ?_; rintro e w4 ⟨rfl,hq4⟩; have H4:=qq (H3.out.trans (hq4.mono H3.out.size)); have x1:=(hq4.cell (block_lt_of_cell hHeld.2.1)).trans hHeld.2.1; replace hHeld:=(And.intro ((hq4.cell (block_lt_of_cell hHeld.1)).trans hHeld.1) (And.intro ((hq4.cell (block_lt_of_cell hHeld.2.1)).trans hHeld.2.1) (And.intro ((hq4.cell (block_lt_of_cell hHeld.2.2.1)).trans hHeld.2.2.1) ((hq4.cell (block_lt_of_cell hHeld.2.2.2)).trans hHeld.2.2.2)))); clear hq4)
         refine hK.out _ _ hHeld ?_;clear hK K
         try simp only[Act.put,qg,qe,qf,qd,qh,qi]
         clear H3;refine nx0 33 ?_
         iterate 1 (refine nx (v:=?_) rfl (by kernel_rfl) (fun _ _ _ h=>h) (by kernel_rfl) ?_ (by assumption) ?_; rotate_left; (focus (intro w hSw; (try dsimp only at hSw); first | (go_simp; done) | (go_simp; with_reducible rfl))); try simp only[Act.put,qg,qe,qf,qd,qh,qi,Nat.reduceAdd])
         refine nx9 ?_
         cases r with
         | true=>
           have HR:Hid (flOk s i args=false):=qq (by unfold flOk; rw[Hr.out]; simp)
           clear hHeld;refine wpAnyT_seq 34 (by omega) (by rfl) (by kernel_rfl) ?_;simp only[List.drop_succ_cons,List.drop_zero];go_wp2_with fail;refine NoPanic.normal ?_;go_wp2_with fail;exact bodyPost_ret (v:=.tuple #[.slice none 0 0,.int .i64 2]) (by simp[results,Tryd.results30,go_sem]) rfl (FieldsPost.nil (fields_no HR.out) H4.out)
         | false=>
           have hok:flOk s i args=true:=by
            unfold flOk
            rw[Hr.out,Hpe.out,Hpo.out,hln3,decide_eq_true Hp4.out,decide_eq_true (show(i:Int)<s.cons.length by omega),decide_eq_true i1]
            rfl
           have Hok:=qq hok;have y2:w4.cell? ⟨bc,oc+i * 4+2,none⟩=some (.slice Af mf cf):=(H4.out.cell (p:=⟨bc,oc+i * 4+2,none⟩) Hbc.out).trans Hq2.out;have f63:mf≤9223372036854775807:=HF.out.cap;have hlf:(flOf s i).length=mf:=HF.out.len
           have hm8:mf≤8:=by have:=Hf8.out; omega
           obtain⟨i0,hi0,hz0,hz1,hz2⟩:=info_parts typeInfo;clear hok hHeld;refine wpAnyT_seq 34 (by omega) (by rfl) (by kernel_rfl) ?_;simp only[List.drop_succ_cons,List.drop_zero];go_wp2_with fail;refine NoPanic.normal ?_;go_wp2_with fail;clear x1 y2
           go_loopg [8,54] mf (fun gh s8 q wr=>∃ (k:Nat) (A5:Option Addr) (c5:Nat),k≤mf∧gh=mf - k∧s8=.slice A5 k c5∧q=.int .i64 (k:Nat)∧(∀ m (h:m<(flOf s i).length),m<k→putE0 args (flOf s i)[m]=0)∧OwnC wr w4.heap.size 63 5 (fun _=>False) (.slice A5 k c5) k ((((flOf s i).take k).map (putT0 args)).flatMap encT)∧Below w4.heap.size w4 wr)
           case atStart=>exact⟨0,none,0,Nat.zero_le _,rfl,rfl,rfl,fun m _ h=>absurd h (by omega),OwnC.nil,Below.refl _ _⟩
           case round=>
            obtain⟨k,A5,c5,hk,rfl,rfl,rfl,hno,hown,hbel⟩:=hrel;obtain⟨w5,hw5⟩:∃ x,x=wr:=⟨_,rfl⟩;subst hw5;have Hno:=qq hno;have Hown:=qq hown;have Hbel:=qq hbel;clear hno hown hbel
            by_cases hkn:k<mf
            · have d0:decide (k<mf)=true:=by simpa using hkn
              have hk':k<(flOf s i).length:=by omega
              obtain⟨bf,ofs,rfl,hbf,hcf⟩:=typ_at HF.out (by omega);obtain⟨t0,t1,t2,t3,A',m',c',t4,hT⟩:=hcf k hk';have hst:(flOf s i).take (k+1)=(flOf s i).take k++[(flOf s i)[k]]:=List.take_succ_eq_append_getElem hk';have hfb:=fun h1=>fields_bad (k:=k) Hok.out hk' Hno.out h1
              have hnx:putE0 args (flOf s i)[k]=0→∀ m (h:m<(flOf s i).length),m<k+1→putE0 args (flOf s i)[m]=0:=fun h0 m hm hmk=>by
               rcases Nat.lt_or_ge m k with q | q
               · exact Hno.out m hm q
               · obtain rfl:m=k:=by omega
                 exact h0
              obtain⟨t,ht⟩:∃ x,(flOf s i)[k]=x:=⟨_,rfl⟩;rw[ht] at t0 t1 t2 t3 hT hst hnx;simp only[ht] at hfb;have hbw:Below w.heap.size w w5:=H4.out.trans (Hbel.out.mono H4.out.size);have T0:w5.cell? ⟨bf,ofs+k * 5,none⟩=some (.int .u8 t.k):=(hbw.cell (p:=⟨bf,ofs+k * 5,none⟩) hbf).trans t0;have T1:w5.cell? ⟨bf,ofs+k * 5+1,none⟩=some (.int .i64 t.n):=(hbw.cell (p:=⟨bf,ofs+k * 5+1,none⟩) hbf).trans t1;have T2:w5.cell? ⟨bf,ofs+k * 5+2,none⟩=some (.int .i64 t.v):=(hbw.cell (p:=⟨bf,ofs+k * 5+2,none⟩) hbf).trans t2;have T3:w5.cell? ⟨bf,ofs+k * 5+3,none⟩=some (.int .u8 t.c):=(hbw.cell (p:=⟨bf,ofs+k * 5+3,none⟩) hbf).trans t3;have T4:w5.cell? ⟨bf,ofs+k * 5+4,none⟩=some (.slice A' m' c'):=(hbw.cell (p:=⟨bf,ofs+k * 5+4,none⟩) hbf).trans t4
              have k1:(0:Int)≤(k:Int):=by omega
              have k2:(k:Int)<mf:=by omega
              have HT:=qq hT;have Hst:=qq hst;have Hfb:=qq hfb;have Hnx:=qq hnx;clear hcf t0 t1 t2 t3 t4 hT ht hst hfb hnx hbw;go_upto_region 7 with fail;have hbx:=below_box (w:=w5) (Obj.cells #[.int .u8 t.k,.int .i64 t.n,.int .i64 t.v,.int .u8 t.c,.slice A' m' c'] 63);have hkx:=blk_new w5 #[.int .u8 t.k,.int .i64 t.n,.int .i64 t.v,.int .u8 t.c,.slice A' m' c'] 63;obtain⟨w6,hw6⟩:∃ q,w5.alloc (Obj.cells #[.int .u8 t.k,.int .i64 t.n,.int .i64 t.v,.int .u8 t.c,.slice A' m' c'] 63)=q:=⟨_,rfl⟩;rw[hw6] at hbx hkx ⊢;obtain⟨tb,htb⟩:∃ q,w5.heap.size=q:=⟨_,rfl⟩;have hlo:∀ b,(Value.slice A5 k c5).ownBlock=some b→b<w6.heap.size:=fun b e=>Nat.lt_of_lt_of_le (Hown.out.lt b e).2 hbx.size;have Hlo:=qq hlo;have hO6:=Hown.out.beyond hbx;have hb6:=Hbel.out.trans (hbx.mono Hbel.out.size);rw[htb] at hkx ⊢;clear T0 T1 T2 T3 T4 hw6 hbx htb Hown Hbel hlo;have T0:w6.cell? ⟨tb,0,none⟩=some (.int .u8 t.k):=hkx.cell 0;have T1:w6.cell? ⟨tb,1,none⟩=some (.int .i64 t.n):=hkx.cell 1;have T2:w6.cell? ⟨tb,2,none⟩=some (.int .i64 t.v):=hkx.cell 2;have T3:w6.cell? ⟨tb,3,none⟩=some (.int .u8 t.c):=hkx.cell 3;have T4:w6.cell? ⟨tb,4,none⟩=some (.slice A' m' c'):=hkx.cell 4;have HO6:=qq hO6;have Hb6:=qq hb6;have hb6w:=H4.out.trans (hb6.mono H4.out.size);have hq:=tyPut_any t A' m' c' A3 n3 c3 args none 0 0 [] w6 (tysV_sl.2 (HT.out.fresh hb6w)) ((Ha.out.below hb6w).more hb6w.size) (musV_none _ _) hn4;obtain⟨pe2,hpe2⟩:∃ q,putE t args []=q:=⟨_,rfl⟩;obtain⟨u,hu⟩:∃ q,putT t args []=q:=⟨_,rfl⟩;rw[hpe2,hu] at hq;have Hq:=qq hq;have Hpe2:=qq hpe2;have Hu:=qq hu;clear hO6 hb6 hkx hb6w hq hpe2 hu;go_wp2_with fail;refine Hq.out.mono ?_;rintro e w7 ⟨Au,mu,cu,rfl,hu7,hb7⟩;have hO7:=HO6.out.beyond hb7;have hb7w:=Hb6.out.trans (hb7.mono Hb6.out.size);have hs67:=hb7.size;clear T0 T1 T2 T3 T4 HO6 Hb6 Hq hb7;have HO7:=qq hO7;have Hb7:=qq hb7w;have Hu7:=qq hu7;clear hO7 hb7w hu7;go_upto_region 8 with fail;have hbx:=below_box (w:=w7) (Obj.cells #[.int .u8 u.k,.int .i64 u.n,.int .i64 u.v,.int .u8 u.c,.slice Au mu cu] 63);have hkx:=blk_new w7 #[.int .u8 u.k,.int .i64 u.n,.int .i64 u.v,.int .u8 u.c,.slice Au mu cu] 63;obtain⟨w8,hw8⟩:∃ q,w7.alloc (Obj.cells #[.int .u8 u.k,.int .i64 u.n,.int .i64 u.v,.int .u8 u.c,.slice Au mu cu] 63)=q:=⟨_,rfl⟩;rw[hw8] at hbx hkx ⊢;obtain⟨ub,hub⟩:∃ q,w7.heap.size=q:=⟨_,rfl⟩;have hO8:=HO7.out.beyond hbx;have hb8:=Hb7.out.trans (hbx.mono Hb7.out.size)
              have hcel:CelsV w8 (fun b=>b<w8.heap.size∧some b≠(Value.slice A5 k c5).ownBlock∧¬ (fun _=>False) b) (encT u) [.int .u8 u.k,.int .i64 u.n,.int .i64 u.v,.int .u8 u.c,.slice Au mu cu]:=by
               refine tyC ((tysS_keepB Hu7.out hbx).mono fun b hb=>⟨?_,fun e=>?_,fun h=>h⟩)
               · have:=hbx.size; omega
               · have:=Hlo.out b e.symm; omega
              rw[hub] at hkx ⊢;have T0:w8.cell? ⟨ub,0,none⟩=some (.int .u8 u.k):=hkx.cell 0;have T1:w8.cell? ⟨ub,1,none⟩=some (.int .i64 u.n):=hkx.cell 1;have T2:w8.cell? ⟨ub,2,none⟩=some (.int .i64 u.v):=hkx.cell 2;have T3:w8.cell? ⟨ub,3,none⟩=some (.int .u8 u.c):=hkx.cell 3;have T4:w8.cell? ⟨ub,4,none⟩=some (.slice Au mu cu):=hkx.cell 4;have HO8:=qq hO8;have Hb8:=qq hb8;have Hcel:=qq hcel;clear hO8 hb8 hcel hbx hkx hw8 hub HO7 Hb7 Hu7 Hlo
              by_cases p5:pe2=0
              · subst p5
                have hno2:=Hnx.out Hpe2.out;have Hno2:=qq hno2;clear hno2
                go_wp2_with (at_builtin; refine wpList_append_cel w4 w8 rfl (.tmp 67) (.tmp 69) 56 rfl w4.heap.size 63 i0 _ 5 56 Tryd.underlying56 hi0 hz0 hz1 hz2 rfl (by omega) (fun _=>False) (.slice A5 k c5) k _ rfl [.int .u8 u.k,.int .i64 u.n,.int .i64 u.v,.int .u8 u.c,.slice Au mu cu] (encT u) rfl (by intro u hu; simp at hu; rcases hu with rfl | rfl | rfl | rfl | rfl <;> rfl) rfl HO8.out Hcel.out (by unfold maxLen; omega) (by omega) Hb8.out (Nat.le_refl _) Hb8.out.size ?_; intro A9 c9 w9 ho9 hbel9 hg9 hz9 _)
                go_roundg (mf - (k+1))
                case measure=>omega
                case rel=>exact⟨k+1,A9,c9,by omega,rfl,rfl,by go_num,Hno2.out,by rw[Hst.out,List.map_append,List.flatMap_append]; simpa[putT0,Hu.out] using ho9,hbel9⟩
              · have b5:(pe2 != 0)=true:=by simpa using p5
                have HR:Hid (flE s i args=pe2∧flL s i args=[]):=qq (by
                 have h1:=Hfb.out (fun e=>p5 (Hpe2.out.symm.trans e))
                 exact⟨h1.1.trans Hpe2.out,h1.2⟩)
                clear p5;go_wp2_with fail;exact bodyPost_ret (v:=.tuple #[.slice none 0 0,.int .i64 pe2]) (by simp[results,Tryd.results30,go_sem]) rfl (FieldsPost.nil HR.out (H4.out.trans (Hb8.out.mono H4.out.size)))
            · have d0:decide (k<mf)=false:=by simpa using hkn
              have hke:k=mf:=by omega
              subst hke;have HR:=qq (fields_yes Hok.out (fun m hm=>Hno.out m hm (by omega)));have hall:(flOf s i).take k=flOf s i:=List.take_of_length_le (by omega);have ho:=Hown.out;rw[hall] at ho;have Ho:=qq (tysV_sl.2 (ho.sl encT_len (by omega)));clear hall ho;go_wp2_with fail
              exact bodyPost_ret (v:=.tuple #[.slice A5 k c5,.int .i64 0]) (by simp[results,Tryd.results30,go_sem]) rfl ⟨A5,k,c5,by rw[HR.out.1],by rw[HR.out.2]; exact Ho.out,H4.out.trans (Hbel.out.mono H4.out.size)⟩
       · have b4:((n3:Int) != pv)=true:=by simpa using p4
         have HR:Hid (flOk s i args=false):=qq (by unfold flOk; rw[Hpo.out,hln3,decide_eq_false p4]; simp)
         clear p4;refine wp_region_noPanic ?_;refine wp_region_T (fun w'=>w'.cell? ⟨w.heap.size,0,none⟩=some (.slice (some ⟨bd,od,none⟩) n c)∧w'.cell? ⟨w.heap.size,1,none⟩=some (.slice (some ⟨bc,oc,none⟩) n2 c2)∧w'.cell? ⟨bc,oc+i * 4+1,none⟩=some (.int .i64 (j:Nat))∧w'.cell? ⟨bd,od+j * 3+1,none⟩=some (.int .i64 pv)) 34 (by kernel_rfl) (⟨x0,x1,y1,y2⟩) (fun hHeld=>?_);have hbd:Below W.heap.size W W.drew:=Below.drew (Below.refl _ _);have H2:=qq (Hb.out.trans (hbd.mono Hb.out.size));clear hbd x0 x1;generalize W.drew=w2 at hHeld H2 ⊢;clear y1 y2;refine nx0 0 ?_
         iterate 1 (refine nx (v:=?_) rfl (by kernel_rfl) (fun _ _ _ h=>h) (by kernel_rfl) ?_ (by assumption) ?_; rotate_left; (focus (intro w hSw; (try dsimp only at hSw); first | (go_simp; done) | (go_simp; with_reducible rfl))); try simp only[Act.put,qg,qe,qf,qd,qh,qi,Nat.reduceAdd])
         refine nx9 ?_;refine wpAnyT_step (i:=1) (by kernel_rfl) rfl (fun K hK=>?_)
         (go_simp; refine(may13_any s _ n c _ n2 c2 w2 (HS.out.fresh H2.out) Hnc.out Hnd.out).mono ?_; rintro e w3 ⟨rfl,hq3⟩; have H3:=qq (H2.out.trans (hq3.mono H2.out.size)); rw[Hpe.out]; replace hHeld:=(And.intro ((hq3.cell (block_lt_of_cell hHeld.1)).trans hHeld.1) (And.intro ((hq3.cell (block_lt_of_cell hHeld.2.1)).trans hHeld.2.1) (And.intro ((hq3.cell (block_lt_of_cell hHeld.2.2.1)).trans hHeld.2.2.1) ((hq3.cell (block_lt_of_cell hHeld.2.2.2)).trans hHeld.2.2.2)))); clear hq3)
         refine hK.out _ _ hHeld ?_;clear hK K
         try simp only[Act.put,qg,qe,qf,qd,qh,qi]
         clear H2;refine nx0 2 ?_
         iterate 29 (refine nx (v:=?_) rfl (by kernel_rfl) (fun _ _ _ h=>h) (by kernel_rfl) ?_ (by assumption) ?_; rotate_left; (focus (intro w hSw; (try dsimp only at hSw); first | (go_simp; done) | (go_simp; with_reducible rfl))); try simp only[Act.put,qg,qe,qf,qd,qh,qi,Nat.reduceAdd])
         refine nx9 ?_;refine nx0 31 ?_
         iterate 2 (refine nxk rfl (by kernel_rfl) (fun _ _ _ h=>h) (by kernel_rfl) (by assumption) ?_; try simp only[Act.put,qg,qe,qf,qd,qh,qi,Nat.reduceAdd])
         refine nx9 ?_;refine nx0 33 ?_
         iterate 1 (refine nx (v:=?_) rfl (by kernel_rfl) (fun _ _ _ h=>h) (by kernel_rfl) ?_ (by assumption) ?_; rotate_left; (focus (intro w hSw; (try dsimp only at hSw); first | (go_simp; done) | (go_simp; with_reducible rfl))); try simp only[Act.put,qg,qe,qf,qd,qh,qi,Nat.reduceAdd])
         refine nx9 ?_;clear hHeld;refine wpAnyT_seq 34 (by omega) (by rfl) (by kernel_rfl) ?_;simp only[List.drop_succ_cons,List.drop_zero];go_wp2_with fail;refine NoPanic.normal ?_;go_wp2_with fail;exact bodyPost_ret (v:=.tuple #[.slice none 0 0,.int .i64 2]) (by simp[results,Tryd.results30,go_sem]) rfl (FieldsPost.nil (fields_no HR.out) H3.out)
     · have b3:decide ((i:Int)≥(n2:Int))=true:=by simp; omega
       have b3':decide ((n2:Int)≤(i:Int))=true:=by simp; omega
       have b3n:decide (n2≤i)=true:=by simp; omega
       have HR:Hid (flOk s i args=false):=qq (by unfold flOk; rw[decide_eq_false (show ¬ (i:Int)<s.cons.length by omega)]; simp)
       clear p3;refine wp_region_noPanic ?_;refine wp_region_T (fun w'=>w'.cell? ⟨w.heap.size,0,none⟩=some (.slice A n c)∧w'.cell? ⟨w.heap.size,1,none⟩=some (.slice A2 n2 c2)) 34 (by kernel_rfl) (⟨x0,x1⟩) (fun hHeld=>?_);have hbd:Below W.heap.size W W.drew:=Below.drew (Below.refl _ _);have H2:=qq (Hb.out.trans (hbd.mono Hb.out.size));clear hbd x0 x1;generalize W.drew=w2 at hHeld H2 ⊢;refine nx0 0 ?_
       iterate 1 (refine nx (v:=?_) rfl (by kernel_rfl) (fun _ _ _ h=>h) (by kernel_rfl) ?_ (by assumption) ?_; rotate_left; (focus (intro w hSw; (try dsimp only at hSw); first | (go_simp; done) | (go_simp; with_reducible rfl))); try simp only[Act.put,qg,qe,qf,qd,qh,qi,Nat.reduceAdd])
       refine nx9 ?_;refine wpAnyT_step (i:=1) (by kernel_rfl) rfl (fun K hK=>?_)
       (go_simp; refine(may13_any s _ n c _ n2 c2 w2 (HS.out.fresh H2.out) Hnc.out Hnd.out).mono ?_; rintro e w3 ⟨rfl,hq3⟩; have H3:=qq (H2.out.trans (hq3.mono H2.out.size)); rw[Hpe.out]; replace hHeld:=(And.intro ((hq3.cell (block_lt_of_cell hHeld.1)).trans hHeld.1) ((hq3.cell (block_lt_of_cell hHeld.2)).trans hHeld.2)); clear hq3)
       refine hK.out _ _ hHeld ?_;clear hK K
       try simp only[Act.put,qg,qe,qf,qd,qh,qi]
       clear H2;refine nx0 2 ?_
       iterate 13 (refine nx (v:=?_) rfl (by kernel_rfl) (fun _ _ _ h=>h) (by kernel_rfl) ?_ (by assumption) ?_; rotate_left; (focus (intro w hSw; (try dsimp only at hSw); first | (go_simp; done) | (go_simp; with_reducible rfl))); try simp only[Act.put,qg,qe,qf,qd,qh,qi,Nat.reduceAdd])
       refine nx9 ?_;refine nx0 15 ?_
       iterate 14 (refine nxk rfl (by kernel_rfl) (fun _ _ _ h=>h) (by kernel_rfl) (by assumption) ?_; try simp only[Act.put,qg,qe,qf,qd,qh,qi,Nat.reduceAdd])
       refine nx9 ?_;refine nx0 29 ?_
       iterate 2 (refine nx (v:=?_) rfl (by kernel_rfl) (fun _ _ _ h=>h) (by kernel_rfl) ?_ (by assumption) ?_; rotate_left; (focus (intro w hSw; (try dsimp only at hSw); first | (go_simp; done) | (go_simp; with_reducible rfl))); try simp only[Act.put,qg,qe,qf,qd,qh,qi,Nat.reduceAdd])
       refine nx9 ?_;refine nx0 31 ?_
       iterate 2 (refine nxk rfl (by kernel_rfl) (fun _ _ _ h=>h) (by kernel_rfl) (by assumption) ?_; try simp only[Act.put,qg,qe,qf,qd,qh,qi,Nat.reduceAdd])
       refine nx9 ?_;refine nx0 33 ?_
       iterate 1 (refine nx (v:=?_) rfl (by kernel_rfl) (fun _ _ _ h=>h) (by kernel_rfl) ?_ (by assumption) ?_; rotate_left; (focus (intro w hSw; (try dsimp only at hSw); first | (go_simp; done) | (go_simp; with_reducible rfl))); try simp only[Act.put,qg,qe,qf,qd,qh,qi,Nat.reduceAdd])
       refine nx9 ?_;clear hHeld;refine wpAnyT_seq 34 (by omega) (by rfl) (by kernel_rfl) ?_;simp only[List.drop_succ_cons,List.drop_zero];go_wp2_with fail;refine NoPanic.normal ?_;go_wp2_with fail;exact bodyPost_ret (v:=.tuple #[.slice none 0 0,.int .i64 2]) (by simp[results,Tryd.results30,go_sem]) rfl (FieldsPost.nil (fields_no HR.out) H3.out)
 · have b1:(pe != 0)=true:=by simpa using p1
   have HR:Hid (flOk s con args=false):=qq (by unfold flOk; rw[Hpe.out]; simp[p1])
   clear p1;refine wp_region_noPanic ?_;refine wp_region_T (fun w'=>w'.cell? ⟨w.heap.size,0,none⟩=some (.slice A n c)∧w'.cell? ⟨w.heap.size,1,none⟩=some (.slice A2 n2 c2)) 34 (by kernel_rfl) (⟨x0,x1⟩) (fun hHeld=>?_);have hbd:Below W.heap.size W W.drew:=Below.drew (Below.refl _ _);have H2:=qq (Hb.out.trans (hbd.mono Hb.out.size));clear hbd x0 x1;generalize W.drew=w2 at hHeld H2 ⊢;refine nx0 0 ?_
   iterate 1 (refine nx (v:=?_) rfl (by kernel_rfl) (fun _ _ _ h=>h) (by kernel_rfl) ?_ (by assumption) ?_; rotate_left; (focus (intro w hSw; (try dsimp only at hSw); first | (go_simp; done) | (go_simp; with_reducible rfl))); try simp only[Act.put,qg,qe,qf,qd,qh,qi,Nat.reduceAdd])
   refine nx9 ?_;refine wpAnyT_step (i:=1) (by kernel_rfl) rfl (fun K hK=>?_)
   (go_simp; refine(may13_any s _ n c _ n2 c2 w2 (HS.out.fresh H2.out) Hnc.out Hnd.out).mono ?_; rintro e w3 ⟨rfl,hq3⟩; have H3:=qq (H2.out.trans (hq3.mono H2.out.size)); rw[Hpe.out]; replace hHeld:=(And.intro ((hq3.cell (block_lt_of_cell hHeld.1)).trans hHeld.1) ((hq3.cell (block_lt_of_cell hHeld.2)).trans hHeld.2)); clear hq3)
   refine hK.out _ _ hHeld ?_;clear hK K
   try simp only[Act.put,qg,qe,qf,qd,qh,qi]
   clear H2;refine nx0 2 ?_
   iterate 2 (refine nx (v:=?_) rfl (by kernel_rfl) (fun _ _ _ h=>h) (by kernel_rfl) ?_ (by assumption) ?_; rotate_left; (focus (intro w hSw; (try dsimp only at hSw); first | (go_simp; done) | (go_simp; with_reducible rfl))); try simp only[Act.put,qg,qe,qf,qd,qh,qi,Nat.reduceAdd])
   refine nx9 ?_;refine nx0 4 ?_
   iterate 2 (refine nxk rfl (by kernel_rfl) (fun _ _ _ h=>h) (by kernel_rfl) (by assumption) ?_; try simp only[Act.put,qg,qe,qf,qd,qh,qi,Nat.reduceAdd])
   refine nx9 ?_;refine nx0 6 ?_
   iterate 2 (refine nx (v:=?_) rfl (by kernel_rfl) (fun _ _ _ h=>h) (by kernel_rfl) ?_ (by assumption) ?_; rotate_left; (focus (intro w hSw; (try dsimp only at hSw); first | (go_simp; done) | (go_simp; with_reducible rfl))); try simp only[Act.put,qg,qe,qf,qd,qh,qi,Nat.reduceAdd])
   refine nx9 ?_;refine nx0 8 ?_
   iterate 5 (refine nxk rfl (by kernel_rfl) (fun _ _ _ h=>h) (by kernel_rfl) (by assumption) ?_; try simp only[Act.put,qg,qe,qf,qd,qh,qi,Nat.reduceAdd])
   refine nx9 ?_;refine nx0 13 ?_
   iterate 2 (refine nx (v:=?_) rfl (by kernel_rfl) (fun _ _ _ h=>h) (by kernel_rfl) ?_ (by assumption) ?_; rotate_left; (focus (intro w hSw; (try dsimp only at hSw); first | (go_simp; done) | (go_simp; with_reducible rfl))); try simp only[Act.put,qg,qe,qf,qd,qh,qi,Nat.reduceAdd])
   refine nx9 ?_;refine nx0 15 ?_
   iterate 14 (refine nxk rfl (by kernel_rfl) (fun _ _ _ h=>h) (by kernel_rfl) (by assumption) ?_; try simp only[Act.put,qg,qe,qf,qd,qh,qi,Nat.reduceAdd])
   refine nx9 ?_;refine nx0 29 ?_
   iterate 2 (refine nx (v:=?_) rfl (by kernel_rfl) (fun _ _ _ h=>h) (by kernel_rfl) ?_ (by assumption) ?_; rotate_left; (focus (intro w hSw; (try dsimp only at hSw); first | (go_simp; done) | (go_simp; with_reducible rfl))); try simp only[Act.put,qg,qe,qf,qd,qh,qi,Nat.reduceAdd])
   refine nx9 ?_;refine nx0 31 ?_
   iterate 2 (refine nxk rfl (by kernel_rfl) (fun _ _ _ h=>h) (by kernel_rfl) (by assumption) ?_; try simp only[Act.put,qg,qe,qf,qd,qh,qi,Nat.reduceAdd])
   refine nx9 ?_;refine nx0 33 ?_
   iterate 1 (refine nx (v:=?_) rfl (by kernel_rfl) (fun _ _ _ h=>h) (by kernel_rfl) ?_ (by assumption) ?_; rotate_left; (focus (intro w hSw; (try dsimp only at hSw); first | (go_simp; done) | (go_simp; with_reducible rfl))); try simp only[Act.put,qg,qe,qf,qd,qh,qi,Nat.reduceAdd])
   refine nx9 ?_;clear hHeld;refine wpAnyT_seq 34 (by omega) (by rfl) (by kernel_rfl) ?_;simp only[List.drop_succ_cons,List.drop_zero];go_wp2_with fail;refine NoPanic.normal ?_;go_wp2_with fail;exact bodyPost_ret (v:=.tuple #[.slice none 0 0,.int .i64 2]) (by simp[results,Tryd.results30,go_sem]) rfl (FieldsPost.nil (fields_no HR.out) H3.out)
end Go.Proofs.YtgpeijkjmkocgaaDoor
