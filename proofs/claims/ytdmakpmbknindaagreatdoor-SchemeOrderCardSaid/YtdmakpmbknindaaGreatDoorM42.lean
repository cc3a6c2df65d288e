import Derived.Test.YtdmakpmbknindaaGreatDoorM1
import Derived.Test.YtdmakpmbknindaaGreatDoorM36
import Derived.Test.YtdmakpmbknindaaGreatDoorM40
namespace Go.Proofs.YtdmakpmbknindaaGreatDoor
set_option linter.unusedVariables false
set_option linter.unusedSimpArgs false
open Go.RowKit
section
variable {P : Program} {ops : Array Oper} {Q : Exit → Act → World → Prop} {md : Region.Mode} {S : World → Prop} {tl : Nat}
variable {oi : Oper} {v : Value} {fuel k : Nat} {l : Array Bool} {a : Act} {w : World}
theorem nxk (hi : ops[k]? = some oi) (hb : okU md ops tl l k = true) (hQ : ∀ c a w, Q (.panic c) (a.put oi.dst undef) w → Q (.panic c) a w) (hw : Region.wanted oi (yielded ops a.tmps) = false) (hS : S w)
    (h : wpNx (k + 1) P md ops Q S tl fuel (l.setIfInBounds k true) (a.put oi.dst undef) w) : wpNx k P md ops Q S tl (fuel + 1) l a w := by
  unfold okU at hb
  simp only [Bool.and_eq_true] at hb
  exact wpAnyT_take hi hb.1 hb.2.1 hb.2.2.1 hb.2.2.2 hQ (Or.inr ⟨hw, rfl⟩) hS h
end
structure InstG (s:SchD) (u:TyD) (ts:List TyD) (ms:List Int) (ok:Bool):Prop where
 iff:ok=true↔OkSch s∧InstE s u
 yes:ok=true→ts=typesE (varsT s.t).length (putsE s u).2∧ms=multsE (multsT s.t).length (putsE s u).2
 no:ok=false→ts=[]∧ms=[]
def InstGPost (s:SchD) (u:TyD) (w:World) (e:Ending) (w':World):Prop:=
 ∃ A n c ts A2 n2 c2 ms ok,e=.returned (.tuple #[.slice A n c,.slice A2 n2 c2,.bool ok])∧TysV w' w'.heap.size A n c ts∧RdI .u8 w' w'.heap.size A2 n2 c2 ms∧InstG s u ts ms ok∧Below w.heap.size w w'
set_option maxRecDepth 100000 in
set_option maxHeartbeats 4000000 in
theorem instG_any (s:SchD) (u:TyD) (v:Value) (A':Option Addr) (m' cp':Nat) (w:World) (hv:SchV w w.heap.size v s) (hu:TysV w w.heap.size A' m' cp' u.l):
 Calls Tryz.prog 21 #[v,.agg #[.int .u8 u.k,.int .i64 u.n,.int .i64 u.v,.int .u8 u.c,.slice A' m' cp']] w (InstGPost s u w):=by
 by_cases hs:OkSch s
 · refine(inst_any s hs u v A' m' cp' w hv hu).mono ?_
   rintro e w' ⟨A,n,c,ts,A2,n2,c2,ms,ok,he,h1,h2,h3,h4⟩;exact⟨A,n,c,ts,A2,n2,c2,ms,ok,he,h1,h2,⟨⟨fun h=>⟨hs,h3.iff.1 h⟩,fun h=>h3.iff.2 h.2⟩,h3.yes,h3.no⟩,h4⟩
 · obtain⟨A,m,cp,A1,c1,A2,c2,A3,c3,rfl,hr⟩:=hv
   have HN:Hid (InstG s u [] [] false):=qq ⟨⟨fun h=>Bool.noConfusion h,fun h=>absurd h.1 hs⟩,fun h=>Bool.noConfusion h,fun _=>⟨rfl,rfl⟩⟩;have hka:=blk_new w (cellsS s A m cp A1 c1 A2 c2 A3 c3) 40;have hba:=below_box (w:=w) (Obj.cells (cellsS s A m cp A1 c1 A2 c2 A3 c3) 40);have hka2:=hka.alloc (Obj.cells #[.int .u8 u.k,.int .i64 u.n,.int .i64 u.v,.int .u8 u.c,.slice A' m' cp'] 27);have hbb:=hba.trans ((below_box (w:=w.alloc (Obj.cells (cellsS s A m cp A1 c1 A2 c2 A3 c3) 40)) (Obj.cells #[.int .u8 u.k,.int .i64 u.n,.int .i64 u.v,.int .u8 u.c,.slice A' m' cp'] 27)).mono hba.size);obtain⟨W,hW⟩:∃ x,(w.alloc (Obj.cells (cellsS s A m cp A1 c1 A2 c2 A3 c3) 40)).alloc (Obj.cells #[.int .u8 u.k,.int .i64 u.n,.int .i64 u.v,.int .u8 u.c,.slice A' m' cp'] 27)=x:=⟨_,rfl⟩;rw[hW] at hka2 hbb;unfold cellsS at hW;have HW:=qq hW;have Hb:=qq hbb;have HR:=qq (hr.fresh hbb);have Hs:=qq hs;obtain⟨x0,x1,x2,x3,x4,x5,x6,x7,x8,x9⟩:=box_cells hka2;clear hka hba hka2 hbb hW hr hs;unfold cellsS
   go_enter Tryz.func21,Tryz.ntmps21
   go_upto_region 1 with fail;rw[HW.out];go_wp2_with fail;refine(schMay_any s _ W ⟨A,m,cp,A1,c1,A2,c2,A3,c3,rfl,HR.out⟩).mono ?_;rintro e w1 ⟨er,rfl,hiff,hb1⟩;have hne:er≠0:=fun h=>Hs.out (hiff.1 h)
   have de:(er != 0)=true:=by simpa using hne
   have HbE:=qq (Hb.out.trans (hb1.mono Hb.out.size));clear x0 x1 x2 x3 x4 x5 x6 x7 x8 x9 hb1 hiff hne;go_wp2_with fail;exact bodyPost_ret (v:=.tuple #[.slice none 0 0,.slice none 0 0,.bool false]) (by simp[results,Tryz.results21,go_sem]) rfl ⟨none,0,0,[],none,0,0,[],false,rfl,TysV.nil,RdI.nil,HN.out,HbE.out⟩
def GreatP (w:World) (e:Ending) (w':World):Prop:=∃ b,e=.returned (.bool b)∧Below w.heap.size w w'
set_option maxRecDepth 100000 in
set_option maxHeartbeats 4000000 in
theorem great8_any (s:SchD) (u:TyD) (v:Value) (A':Option Addr) (m' cp':Nat) (w:World) (hv:SchV w w.heap.size v s) (hu:TysV w w.heap.size A' m' cp' u.l):
 Calls Tryz.prog 16 #[v,.agg #[.int .u8 u.k,.int .i64 u.n,.int .i64 u.v,.int .u8 u.c,.slice A' m' cp']] w (GreatP w):=by
 have hmn:=@run_min2 Tryz.prog;obtain⟨A,m,cp,A1,c1,A2,c2,A3,c3,rfl,hr⟩:=hv;have hka:=blk_new w (cellsS s A m cp A1 c1 A2 c2 A3 c3) 40;have hba:=below_box (w:=w) (Obj.cells (cellsS s A m cp A1 c1 A2 c2 A3 c3) 40)
 have hsa:(w.alloc (Obj.cells (cellsS s A m cp A1 c1 A2 c2 A3 c3) 40)).heap.size=w.heap.size+1:=by simp
 have hka2:=hka.alloc (Obj.cells #[.int .u8 u.k,.int .i64 u.n,.int .i64 u.v,.int .u8 u.c,.slice A' m' cp'] 27);have hkb:=blk_new (w.alloc (Obj.cells (cellsS s A m cp A1 c1 A2 c2 A3 c3) 40)) #[.int .u8 u.k,.int .i64 u.n,.int .i64 u.v,.int .u8 u.c,.slice A' m' cp'] 27;have hbb:=hba.trans ((below_box (w:=w.alloc (Obj.cells (cellsS s A m cp A1 c1 A2 c2 A3 c3) 40)) (Obj.cells #[.int .u8 u.k,.int .i64 u.n,.int .i64 u.v,.int .u8 u.c,.slice A' m' cp'] 27)).mono hba.size);rw[hsa] at hkb;obtain⟨W,hW⟩:∃ x,(w.alloc (Obj.cells (cellsS s A m cp A1 c1 A2 c2 A3 c3) 40)).alloc (Obj.cells #[.int .u8 u.k,.int .i64 u.n,.int .i64 u.v,.int .u8 u.c,.slice A' m' cp'] 27)=x:=⟨_,rfl⟩;rw[hW] at hka2 hkb hbb;unfold cellsS at hW;have HW:=qq hW;have HK:=qq hka2;have HKu:=qq hkb;have Hb:=qq hbb;have HR:=qq (hr.fresh hbb);have Hu:=qq ((hu.below hbb).more hbb.size);obtain⟨x0,x1,x2,x3,x4,x5,x6,x7,x8,x9⟩:=box_cells hka2;obtain⟨k1,hk1⟩:∃ k,s.tab.low.length=k:=⟨_,rfl⟩;obtain⟨k2,hk2⟩:∃ k,s.tab.up.length=k:=⟨_,rfl⟩;obtain⟨k3,hk3⟩:∃ k,s.tab.pair.length=k:=⟨_,rfl⟩;have hP:=HR.out.pair;rw[hk3] at hP;have z3:k3≤9223372036854775807:=Nat.le_trans hP.2.1 hP.2.2.1;have HP:=qq hP;rw[hk1] at x7;rw[hk2] at x8;rw[hk3] at x9;have hW2:=HW.out;rw[hk1,hk2,hk3] at hW2;have HW2:=qq hW2;unfold cellsS;rw[hk1,hk2,hk3];clear hW2 hk1 hk2 hk3;clear hka hba hsa hka2 hkb hbb hW hr hu x0 x1 x2 x3 x4 x5 x6 hP
 go_enter Tryz.func16,Tryz.ntmps16
 go_upto_region 1 with fail;rw[HW2.out];go_wp2_with fail;generalize wrap64 _=z0
 go_loopg [5,26] k3 (fun gh s5 i wr=>∃ (j:Nat) (z:Int),j≤k3∧gh=k3 - j∧s5=.int .i64 z∧i=.int .i64 (j:Nat)∧wr=W)
 case atStart=>exact⟨0,_,Nat.zero_le _,rfl,rfl,rfl,rfl⟩
 case round=>
  obtain⟨j,z,hj,rfl,rfl,rfl,rfl⟩:=hrel
  by_cases hjk:j<k3
  · have d0:decide (j<k3)=true:=by simpa using hjk
    have hl:=HP.out.1
    have hj':j<s.tab.pair.length:=by omega
    obtain⟨b,off,rfl,_,hc⟩:=HP.out.2.2.2 (by omega);obtain⟨A',c',e0,hrow⟩:=hc j hj';obtain⟨l,hll⟩:∃ l,s.tab.pair[j].length=l:=⟨_,rfl⟩;rw[hll] at e0;clear hc hrow hll hl;obtain⟨z',hz'⟩:∃ z',wrap64 (z+min (l:Int) 5000)=z':=⟨_,rfl⟩;obtain⟨D,hD⟩:∃ D,decide (5000<z')=D:=⟨_,rfl⟩
    cases D with
    | true=>
      go_wp2_with fail;go_ret;exact⟨true,rfl,Hb.out⟩
    | false=>
      go_wp2_with fail;go_roundg (k3 - (j+1))
      case measure=>omega
      case rel=>exact⟨j+1,_,by omega,rfl,rfl,by simp,rfl⟩
  · have d0:decide (j<k3)=false:=by simpa using hjk
    obtain⟨D,hD⟩:∃ D,decide (5000<z)=D:=⟨_,rfl⟩;obtain⟨x0,x1,x2,x3,x4,x5,x6,q7,q8,q9⟩:=box_cells HK.out;have y0:=HKu.out.cell 0;have y1:=HKu.out.cell 1;have y2:=HKu.out.cell 2;have y3:=HKu.out.cell 3;have y4:=HKu.out.cell 4;simp only[qc,qb,qa] at y0 y1 y2 y3 y4;have hKS:∀ W',Below wr.heap.size wr W'→W'.cell? ⟨w.heap.size,2,none⟩=some (.int .u8 s.t.k)∧W'.cell? ⟨w.heap.size,3,none⟩=some (.int .i64 s.t.n)∧W'.cell? ⟨w.heap.size,4,none⟩=some (.int .i64 s.t.v)∧W'.cell? ⟨w.heap.size,5,none⟩=some (.int .u8 s.t.c)∧W'.cell? ⟨w.heap.size,6,none⟩=some (.slice A m cp)∧W'.cell? ⟨w.heap.size+1,0,none⟩=some (.int .u8 u.k)∧W'.cell? ⟨w.heap.size+1,1,none⟩=some (.int .i64 u.n)∧W'.cell? ⟨w.heap.size+1,2,none⟩=some (.int .i64 u.v)∧W'.cell? ⟨w.heap.size+1,3,none⟩=some (.int .u8 u.c)∧W'.cell? ⟨w.heap.size+1,4,none⟩=some (.slice A' m' cp'):=fun W' hW'=>⟨(HK.out.below hW' HK.out.lt).cell 2,(HK.out.below hW' HK.out.lt).cell 3,(HK.out.below hW' HK.out.lt).cell 4,(HK.out.below hW' HK.out.lt).cell 5,(HK.out.below hW' HK.out.lt).cell 6,(HKu.out.below hW' HKu.out.lt).cell 0,(HKu.out.below hW' HKu.out.lt).cell 1,(HKu.out.below hW' HKu.out.lt).cell 2,(HKu.out.below hW' HKu.out.lt).cell 3,(HKu.out.below hW' HKu.out.lt).cell 4⟩;have HKS:=qq hKS;clear hKS x0 x1 x2 x3 x4 x5 x6 q7 q8 q9 y0 y1 y2 y3 y4 x7 x8 x9;go_upto_region 9 with fail;refine wp_region_noPanic ?_;refine wp_region_T (fun W'=>W'.cell? ⟨w.heap.size,2,none⟩=some (.int .u8 s.t.k)∧W'.cell? ⟨w.heap.size,3,none⟩=some (.int .i64 s.t.n)∧W'.cell? ⟨w.heap.size,4,none⟩=some (.int .i64 s.t.v)∧W'.cell? ⟨w.heap.size,5,none⟩=some (.int .u8 s.t.c)∧W'.cell? ⟨w.heap.size,6,none⟩=some (.slice A m cp)∧W'.cell? ⟨w.heap.size+1,0,none⟩=some (.int .u8 u.k)∧W'.cell? ⟨w.heap.size+1,1,none⟩=some (.int .i64 u.n)∧W'.cell? ⟨w.heap.size+1,2,none⟩=some (.int .i64 u.v)∧W'.cell? ⟨w.heap.size+1,3,none⟩=some (.int .u8 u.c)∧W'.cell? ⟨w.heap.size+1,4,none⟩=some (.slice A' m' cp')) 11 (by kernel_rfl) (HKS.out _ (Below.drew (Below.refl _ _))) (fun hHeld=>?_);have hbd:Below wr.heap.size wr wr.drew:=Below.drew (Below.refl _ _);generalize wr.drew=W0 at hHeld hbd ⊢
    cases D with
    | true=>
      refine nx0 0 ?_
      iterate 3 (refine nx (v:=?_) rfl (by kernel_rfl) (fun _ _ _ h=>h) (by rfl) ?_ (by assumption) ?_; rotate_left; focus (intro w hSw; (try dsimp only at hSw); first | (go_simp; done) | (go_simp; with_reducible rfl)); try simp only[Act.put,qg,qe,qf,qd,qh,qi,Nat.reduceAdd])
      refine nx9 ?_;refine nx0 3 ?_
      iterate 7 (refine nxk rfl (by kernel_rfl) (fun _ _ _ h=>h) (by rfl) (by assumption) ?_; try simp only[Act.put,qg,qe,qf,qd,qh,qi,Nat.reduceAdd])
      refine nx9 ?_
      refine wpAnyT_take (i:=10) (v:=?_) rfl (by kernel_rfl) (by kernel_rfl) (by kernel_rfl) (by kernel_rfl) (fun _ _ _ h=>h) (Or.inl ⟨by rfl,?_⟩) (by assumption) ?_
      rotate_left
      · (intro w hSw; (try dsimp only at hSw); first | (go_simp; done) | (go_simp; with_reducible rfl))
      try simp only[Act.put,qg,qe,qf,qd,qh,qi]
      have Hbe:=qq (Hb.out.trans (hbd.mono Hb.out.size));clear hHeld hbd;refine wpAnyT_seq 11 (by omega) (by rfl) (by kernel_rfl) ?_;simp only[List.drop_succ_cons,List.drop_zero];go_wp2_with fail;refine NoPanic.normal ?_;go_wp2_with fail;go_ret;exact⟨_,rfl,Hbe.out⟩
    | false=>
      refine nx0 0 ?_
      iterate 5 (refine nx (v:=?_) rfl (by kernel_rfl) (fun _ _ _ h=>h) (by rfl) ?_ (by assumption) ?_; rotate_left; focus (intro w hSw; (try dsimp only at hSw); first | (go_simp; done) | (go_simp; with_reducible rfl)); try simp only[Act.put,qg,qe,qf,qd,qh,qi,Nat.reduceAdd])
      refine nx9 ?_
      refine wpAnyT_take (i:=6) (v:=?_) rfl (by kernel_rfl) (by kernel_rfl) (by kernel_rfl) (by kernel_rfl) (fun _ _ _ h=>h) (Or.inl ⟨by rfl,?_⟩) (by assumption) ?_
      rotate_left
      · (intro w hSw; (try dsimp only at hSw); first | (go_simp; done) | (go_simp; with_reducible rfl))
      try simp only[Act.put,qg,qe,qf,qd,qh,qi]
      clear hHeld;refine wpAnyT_step (i:=5) (by kernel_rfl) rfl (fun K hK=>?_)
      (go_simp; refine(refSize_any s.t _ W0 ⟨A,m,cp,rfl,(HR.out.ty.below hbd).more hbd.size⟩).mono ?_; rintro e W1 ⟨rfl,hb1⟩; have hbW1:=hbd.trans (hb1.mono hbd.size); clear hb1)
      refine hK.out _ _ (HKS.out _ hbW1) ?_;clear hK K
      try simp only[Act.put,qg,qe,qf,qd,qh,qi]
      refine wpAnyT_step (i:=7) (by kernel_rfl) rfl (fun K hK=>?_)
      (go_simp; refine(refSize_any u _ W1 ⟨A',m',cp',rfl,(Hu.out.below hbW1).more hbW1.size⟩).mono ?_; rintro e W2 ⟨rfl,hb2⟩; have hbW2:=hbW1.trans (hb2.mono hbW1.size); clear hb2)
      refine hK.out _ _ (HKS.out _ hbW2) ?_;clear hK K
      try simp only[Act.put,qg,qe,qf,qd,qh,qi]
      have hHeld:=HKS.out _ hbW2;refine nx0 8 ?_
      iterate 3 (refine nx (v:=?_) rfl (by kernel_rfl) (fun _ _ _ h=>h) (by rfl) ?_ (by assumption) ?_; rotate_left; focus (intro w hSw; (try dsimp only at hSw); first | (go_simp; done) | (go_simp; with_reducible rfl)); try simp only[Act.put,qg,qe,qf,qd,qh,qi,Nat.reduceAdd])
      refine nx9 ?_;have Hbe:=qq (Hb.out.trans (hbW2.mono Hb.out.size));clear hHeld hbd hbW1 hbW2;refine wpAnyT_seq 11 (by omega) (by rfl) (by kernel_rfl) ?_;simp only[List.drop_succ_cons,List.drop_zero];go_wp2_with fail;refine NoPanic.normal ?_;go_wp2_with fail;go_ret;exact⟨_,rfl,Hbe.out⟩
end Go.Proofs.YtdmakpmbknindaaGreatDoor
