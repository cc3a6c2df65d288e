import Derived.Test.YtgpeijkjmkocgaaDoorM29
import Derived.Test.YtgpeijkjmkocgaaDoorM18
import Derived.Test.YtgpeijkjmkocgaaDoorM28
import Derived.Deep.WholeRow
set_option linter.unusedVariables false
set_option linter.unusedSimpArgs false
set_option maxHeartbeats 8000000
set_option maxRecDepth 100000
namespace Go.Proofs.YtgpeijkjmkocgaaDoor
open Go.RowKit
def CheckPost (l:List DeclD) (w:World) (e:Ending) (w':World):Prop:=
 ∃ (A1:Option Addr) (n1 c1:Nat) (A2:Option Addr) (n2 c2:Nat) (dg:DiagD),e=.returned (.tuple #[.agg #[.slice A1 n1 c1,.slice A2 n2 c2],.agg #[.int .i64 dg.e,.int .i64 dg.p.at_,.int .i64 dg.p.line,.int .i64 dg.p.col]])∧Below w.heap.size w w' ∧
  ((∃ g,checkE givenS l=.error g∧dg=g∧A1=none∧n1=0∧c1=0∧A2=none∧n2=0∧c2=0)∨(∃ z,checkE givenS l=.ok z∧dg=diagZ∧SigR w' (Lt w'.heap.size) z A1 n1 c1 A2 n2 c2))
theorem filt_eq (l:List DeclD):(l.filter fun t=>!pD t)=l.filter fun d=>d.k≠2:=by
 congr 1
 funext d
 unfold pD
 by_cases h:d.k=2 <;> simp[h]
theorem check_law {l own:List DeclD} (hown:own=l.filter fun t=>!pD t) {s1 s2:SigD} {d1 d2:DiagD} {q:Nat} (h1:FoldP headE givenS diagZ own s1 d1) (h2:FoldP bodyS (9,s1) d1 own (q,s2) d2):
  (d2.e≠0→checkE givenS l=.error d2)∧(d2.e=0→checkE givenS l=.ok s2∧d2=diagZ):=by
 have hz:diagZ.e=0:=rfl;unfold checkE;rw[← filt_eq,← hown,headsE_eq,given_datas]
 by_cases e1:d1.e=0
 · obtain⟨r1,r2⟩:=h1.ok headE_ne hz e1
   rw[r1];simp only;rw[bodiesE_eq]
   by_cases e2:d2.e=0
   · obtain⟨r3,r4⟩:=h2.ok bodyS_ne e1 e2
     rw[r3];exact⟨fun q=>absurd e2 q,fun _=>⟨rfl,r4.trans r2⟩⟩
   · refine⟨fun _=>?_,fun q=>absurd q e2⟩
     obtain⟨r3,_⟩:=h2;rw[then_z e1] at r3;generalize foldE bodyS (9,s1) own=E at r3 ⊢
     cases E with
     | error g=>
       have r3':d2=g:=r3;rw[r3']
     | ok z=>
       have r3':d2=d1:=r3;rw[r3'] at e2;exact absurd e1 e2
 · have e12:d2=d1:=by
    obtain⟨r3,_⟩:=h2;rw[then_ne e1] at r3;exact r3
   subst e12;refine⟨fun _=>?_,fun q=>absurd q e1⟩;obtain⟨r1,_⟩:=h1;rw[then_z hz] at r1;generalize foldE headE givenS own=E at r1 ⊢
   cases E with
   | error g=>
     have r1':d2=g:=r1;rw[r1']
   | ok z=>
     have r1':d2=diagZ:=r1;rw[r1'] at e1;exact absurd rfl e1
theorem end_facts {W Wf:World} {r0 r1:Nat} {t0 t1:TypeId} {u0 u1 u2 u3 u4 u5 a b e0 e1 e2 e3:Value} (h0:Blk W r0 t0 #[u0,u1]) (h1:Blk W r1 t1 #[u2,u3,u4,u5]) (hr:r0<r1) (hW:(((((W.setCell ⟨r0,0,none⟩ a).setCell ⟨r0,1,none⟩ b).setCell ⟨r1,0,none⟩ e0).setCell ⟨r1,1,none⟩ e1).setCell ⟨r1,2,none⟩ e2).setCell ⟨r1,3,none⟩ e3=Wf):
  Blk Wf r0 t0 #[a,b]∧Blk Wf r1 t1 #[e0,e1,e2,e3]∧Below r0 W Wf∧∀ p:Addr,p.block≠r0→p.block≠r1→Wf.cell? p=W.cell? p:=by
 subst hW
 have n01:r0≠r1:=by omega
 have n10:r1≠r0:=by omega
 refine⟨(((((h0.set_ 0 a).set_ 1 b).other n10 0 e0).other n10 1 e1).other n10 2 e2).other n10 3 e3,(((((h1.other n01 0 a).other n01 1 b).set_ 0 e0).set_ 1 e1).set_ 2 e2).set_ 3 e3,?_,fun p h2 h3=>?_⟩
 · exact(((((((Below.refl r0 W).setCell (p:=⟨r0,0,none⟩) (Nat.le_refl _) a).setCell (p:=⟨r0,1,none⟩) (Nat.le_refl _) b).setCell (p:=⟨r1,0,none⟩) (Nat.le_of_lt hr) e0).setCell (p:=⟨r1,1,none⟩) (Nat.le_of_lt hr) e1).setCell (p:=⟨r1,2,none⟩) (Nat.le_of_lt hr) e2).setCell (p:=⟨r1,3,none⟩) (Nat.le_of_lt hr) e3)
 · rw[World.cell?_setCell_other _ _ _ _ (fun e=>h3 (by rw[← e])),World.cell?_setCell_other _ _ _ _ (fun e=>h3 (by rw[← e])),World.cell?_setCell_other _ _ _ _ (fun e=>h3 (by rw[← e])),World.cell?_setCell_other _ _ _ _ (fun e=>h3 (by rw[← e])),World.cell?_setCell_other _ _ _ _ (fun e=>h2 (by rw[← e])),World.cell?_setCell_other _ _ _ _ (fun e=>h2 (by rw[← e]))]
theorem wpList_store_new {P:Program} {ops:Array Oper} {rest:List Oper} {op:Oper} {a:Act} {w:World} {Q:Exit→Act→World→Prop} (hgd:op.guard=none) (ty:TypeId) (x y:Operand) (ho:op.op=.store ty x y) (c c':Array Value) (hx:a.eval x=.pointer (some ⟨w.heap.size,0,none⟩)) (hy:a.eval y=.agg c') (hi:(P.info? ty).map (·.size)=some c'.size) (hs:c.size=c'.size) (h1:c'.all (·.oneCell')=true)
  (h:wpList P ops Q rest (a.put op.dst undef) (w.alloc (Obj.cells c' ty))):wpList P ops Q (op :: rest) a (w.alloc (Obj.cells c ty)):=
 wpList_plain hgd fun _ hK=>by
  unfold Oper.wp execOp;simp only[ho,hx,hy,Instr.storeAt,Instr.sureAddr,Sem.run_bind,Sem.run_pure,Result.andThen_ok,run_storeVar_new w ty c c' hi hs h1];exact hK _ _ h
theorem then_bodyS (d:DiagD) (q:Nat × SigD) (x:DeclD):d.then_ (bodyE q.1 q.2 x)=d.then_ (bodyS q x):=by
 unfold DiagD.then_ bodyS;generalize bodyE q.1 q.2 x=E
 cases E <;> rfl
theorem bodyS_ok {q z:Nat × SigD} {x:DeclD} (h:bodyS q x=.ok z):bodyE q.1 q.2 x=.ok z.2∧(q.1+1,z.2)=z:=by
 unfold bodyS at h;generalize bodyE q.1 q.2 x=E at h ⊢
 cases E with
 | error g=>cases h
 | ok s'=>
   injection h with h
   subst h;exact⟨rfl,rfl⟩
theorem check_any (A:Option Addr) (n c:Nat) (l:List DeclD) (w:World) (hl:Sl w (Lt w.heap.size) encD 16 l A n c) (h1:∀ d∈l,d.one) (hbig:n * 208≤140737488355328):
  Calls Tryd.prog 8 #[.slice A n c] w (CheckPost l w):=by
 obtain⟨wz,hwz,hbz,hz0,hz1,hsz⟩:∃ wz,(w.alloc (Obj.cells #[.slice none 0 0,.slice none 0 0] 25)).alloc (Obj.cells #[.int .i64 0,.int .i64 0,.int .i64 0,.int .i64 0] 30)=wz∧Below w.heap.size w wz∧Blk wz w.heap.size 25 #[.slice none 0 0,.slice none 0 0]∧Blk wz (w.heap.size+1) 30 #[.int .i64 0,.int .i64 0,.int .i64 0,.int .i64 0]∧wz.heap.size=w.heap.size+1+1:=by
  have g1:=below_box (w:=w) (Obj.cells #[.slice none 0 0,.slice none 0 0] 25);have k1:=blk_new w #[.slice none 0 0,.slice none 0 0] 25;obtain⟨wa,ha⟩:∃ q,w.alloc (Obj.cells #[.slice none 0 0,.slice none 0 0] 25)=q:=⟨_,rfl⟩
  have sa:wa.heap.size=w.heap.size+1:=by rw[← ha]; simp
  rw[ha] at g1 k1 ⊢;have g2:=below_box (w:=wa) (Obj.cells #[.int .i64 0,.int .i64 0,.int .i64 0,.int .i64 0] 30);have k2:=blk_new wa #[.int .i64 0,.int .i64 0,.int .i64 0,.int .i64 0] 30;rw[sa] at k2
  exact⟨_,rfl,g1.trans (g2.mono g1.size),k1.below g2 k1.lt,k2,by rw[World.size_alloc,sa]⟩
 have HWz:=qq hwz;have Hbz:=qq hbz;have Hz0:=qq hz0;have Hz1:=qq hz1;have Hl:=qq hl;have H1:=qq h1;clear hwz hbz hz0 hz1 hl h1
 go_enter Tryd.func8,Tryd.ntmps8
 go_upto_region 1 with fail;rw[HWz.out];go_wp2_with fail;refine(given_any wz).mono ?_;rintro e w1 ⟨vd0,vc0,vs0,rfl,hsm,hb1⟩;obtain⟨Ad,cd,hvd⟩:=ownsRow_form hsm.od;obtain⟨Ac0,cc0,hvc⟩:=hsm.oc.form;rw[given_datas] at hvd;rw[given_cons] at hvc
 subst hvd; subst hvc
 go_upto_region 2 with fail;have hbx:=below_box (w:=w1) (Obj.cells #[.slice Ad 9 cd,.slice Ac0 15 cc0,.int .i64 0,.int .i64 0,.int .i64 0,.int .i64 0] 91);have hkx:=blk_new w1 #[.slice Ad 9 cd,.slice Ac0 15 cc0,.int .i64 0,.int .i64 0,.int .i64 0,.int .i64 0] 91
 have hsz2:(w1.alloc (Obj.cells #[.slice Ad 9 cd,.slice Ac0 15 cc0,.int .i64 0,.int .i64 0,.int .i64 0,.int .i64 0] 91)).heap.size=w1.heap.size+1:=by simp
 obtain⟨w2,hw2⟩:∃ q,w1.alloc (Obj.cells #[.slice Ad 9 cd,.slice Ac0 15 cc0,.int .i64 0,.int .i64 0,.int .i64 0,.int .i64 0] 91)=q:=⟨_,rfl⟩;rw[hw2] at hbx hkx hsz2 ⊢
 have hsm2:SigM w2 wz.heap.size (fun b=>b=w1.heap.size∨b<wz.heap.size) givenS (.slice Ad 9 cd) (.slice Ac0 15 cc0) vs0:=(hsm.weak (R':=fun b=>b=w1.heap.size∨b<wz.heap.size) (fun b hb e=>by rcases e with e | e <;> omega)).below hbx
 have hno2:¬ RowB (.slice Ad 9 cd) (.slice Ac0 15 cc0) vs0 w1.heap.size:=fun e=>by have:=(hsm.rowB e).2; omega
 have hb02:Below w.heap.size w w2:=(Hbz.out.trans (hb1.mono Hbz.out.size)).trans (hbx.mono (Hbz.out.trans (hb1.mono Hbz.out.size)).size);have hz02:=(Hz0.out.below hb1 Hz0.out.lt).below hbx (Hz0.out.below hb1 Hz0.out.lt).lt;have hz12:=(Hz1.out.below hb1 Hz1.out.lt).below hbx (Hz1.out.below hb1 Hz1.out.lt).lt;have hzle:wz.heap.size≤w1.heap.size:=hb1.size;have Hk2:=qq hkx;have Hsm2:=qq hsm2;have Hrow2:Hid (∀ b,RowB (.slice Ad 9 cd) (.slice Ac0 15 cc0) vs0 b→b<w2.heap.size):=qq fun b e=>(hsm2.rowB e).2;have Hb02:=qq hb02;have Hz02:=qq hz02;have Hz12:=qq hz12;have x0:w2.cell? ⟨w1.heap.size,0,none⟩=some (.slice Ad 9 cd):=hkx.cell 0;have Hcl:=qq (cloneD_any w.heap.size A n c l w2 (Hl.out.below hb02) H1.out hb02.size hbig);clear hbx hkx hsm hsm2 hb1 hb02 hz02 hz12 HWz Hbz Hz0 Hz1 hw2 Hl H1;go_wp2_with fail;clear x0;refine Hcl.out.mono ?_;rintro e w4 ⟨v,rfl,hown,hform,hb4⟩;have Hde:=qq (deleteD_any w2.heap.size w.heap.size n v l w4 hown Hb02.out.size hb4.size hform);have Hb4:=qq hb4;clear Hcl hown hform hb4;go_wp2_with fail;refine Hde.out.mono ?_;rintro e w5 ⟨v,m,rfl,hform,hown,hb5⟩;obtain⟨own,hof⟩:∃ q,(l.filter fun t=>!pD t)=q:=⟨_,rfl⟩;rw[hof] at hown;obtain⟨hml,cs0,ho0,ho16⟩:=id hown;obtain⟨AO,cO,rfl⟩:=ownsRow_form ho0;have hb25:Below w2.heap.size w2 w5:=Hb4.out.trans hb5
 have hck:CkS wz.heap.size w1.heap.size w2.heap.size w5 givenS (.slice Ad 9 cd) (.slice Ac0 15 cc0) vs0 diagZ w5:=
  ⟨Hk2.out.below hb25 Hk2.out.lt,Hsm2.out.below hb25,hno2,fun b e=>Or.inl (Hrow2.out b e),⟨rfl,rfl,rfl,Nat.le_refl _,fun _ _ _ _=>rfl⟩,Nat.lt_of_lt_of_le (by omega) hb25.size⟩
 have Hck:=qq hck;have Hown:=qq hown;have Hof:=qq hof;have Hb05:=qq (Hb02.out.trans (hb25.mono Hb02.out.size));have Hz05:=qq (Hz02.out.below hb25 Hz02.out.lt);have Hz15:=qq (Hz12.out.below hb25 Hz12.out.lt)
 have m63:m≤9223372036854775807:=by
  rcases hform with ⟨e,rfl⟩ | ⟨g',c',e⟩
  · omega
  · injection e with e1 e2 e3
    subst e1; subst e3
    have:=hown.form;unfold maxLen at this;omega
 have h25:=hb25.size;have hw2w:w.heap.size≤w2.heap.size:=Hb02.out.size;clear Hde hform hown ho0 ho16 hb25 hb5 hck Hb4 Hb02 Hz02 Hz12 Hk2 Hsm2 Hrow2 hno2 hof;go_wp2_with fail
 go_loopg [25] m (fun gh i wr=>∃ (k:Nat) (s:SigD) (vd vc:Value) (vs:List Value) (d:DiagD),k≤m∧gh=m - k∧i=.int .i64 (k:Nat)∧CkS wz.heap.size w1.heap.size w2.heap.size w5 s vd vc vs d wr∧FoldP headE givenS diagZ (own.take k) s d)
 case atStart=>exact⟨0,givenS,_,_,vs0,diagZ,Nat.zero_le _,rfl,rfl,Hck.out,FoldP.nil⟩
 case round=>
  obtain⟨k,s,vd,vc,vs,d,hk,rfl,rfl,hcks,hF⟩:=hrel
  by_cases hkm:k<m
  · have d0:decide (k<m)=true:=by simpa using hkm
    obtain⟨_,cs1,hoc,ho16⟩:=hcks.own Hown.out (by omega) (by omega) (by omega) (by omega)
    have hko':k<own.length:=by omega
    obtain⟨gO,rfl,hgO,hgO1,hgO2,_,_⟩:=own_addr hoc (by omega);obtain⟨Ap,np,cp,Ac,nc,cc,hc,hrp,hrc,hone⟩:=(ho16 k hko').cells hoc hkm;obtain⟨x,hx⟩:∃ q,own[k]=q:=⟨_,rfl⟩;rw[hx] at hc hrp hrc hone
    have hrg:wr.rangeAt gO (k * 16) (dlCells x Ap np cp Ac nc cc).toList:=fun j v hj=>by
     have hj16:j<16:=(List.getElem?_eq_some_iff.1 hj).1;rw[hc j hj16]
     simpa using hj
    have h1c:=all_oneCell_toArray (dlCells_one x hone Ap np cp Ac nc cc);have Hx:=qq hx;have Hrp:=qq hrp;have Hrc:=qq hrc;have Hrg:=qq hrg;have H1c:=qq h1c
    have k1:(0:Int)≤(k:Int):=by omega
    have k2:(k:Int)<m:=by omega
    clear hx hrp hrc hc ho16 hoc hone hrg h1c;have hst:own.take (k+1)=own.take k++[own[k]]:=List.take_succ_eq_append_getElem hko';rw[Hx.out] at hst;have Hst:=qq hst;have HF:=qq hF;have Hcks:=qq hcks;clear hst hF hcks;go_upto_region 6 with fail;refine wp_region_list ?_;refine wpList_plain rfl fun K hK=>?_;go_simp;refine hK _ _ ?_;clear hK K;refine wpList_load_mid rfl 40 (.tmp 27) rfl gO (k * 16) rfl (dlCells x Ap np cp Ac nc cc).toList _ Hrg.out Tryd.underlying40 rfl (by kernel_rfl) ?_;refine wpList_plain rfl fun K hK=>?_;go_simp;refine hK _ _ ?_;clear hK K;refine wpList_store_new rfl 40 (.tmp 8) (.tmp 28) rfl #[.int .u8 0,.string ByteArray.empty,.int .i64 0,.int .i64 0,.int .i64 0,.slice none 0 0,.slice none 0 0,.bool false,.int .u8 0,.string ByteArray.empty,.int .i64 0,.int .i64 0,.int .i64 0,.int .i64 0,.slice none 0 0,.slice none 0 0] (dlCells x Ap np cp Ac nc cc) rfl rfl (by kernel_rfl) rfl H1c.out ?_;have hbx:=below_box (w:=wr) (Obj.cells (dlCells x Ap np cp Ac nc cc) 40);have hkx:=blk_new wr (dlCells x Ap np cp Ac nc cc) 40;obtain⟨w6,hw6⟩:∃ q,wr.alloc (Obj.cells (dlCells x Ap np cp Ac nc cc) 40)=q:=⟨_,rfl⟩;rw[hw6] at hbx hkx ⊢;have Hc6:=qq (Hcks.out.below hbx);have Hk6:=qq hkx
    have hrp6:=Hrp.out.below (hbx.mono (show w.heap.size≤wr.heap.size by have:=Hcks.out.fr.size; omega))
    have Hrp6:=qq hrp6;clear hbx hkx hw6 hrp6;have x2:w6.cell? ⟨w1.heap.size,2,none⟩=some (.int .i64 d.e):=Hc6.out.bk.cell 2
    by_cases hd:d.e=0
    · have dz:(d.e==0)=true:=by simp[hd]
      obtain⟨hok,hdz⟩:=HF.out.ok headE_ne rfl hd;have hB:=heads_B _ _ _ _ given_B hok
      have hlen40:s.datas.length≤1000000:=by have:=hB.le; omega
      have hq:=head_any w1.heap.size wz.heap.size (fun b=>b=w1.heap.size∨b<wz.heap.size) s vd vc vs d x Ap np cp Ac nc cc w6 Hc6.out.bk Hc6.out.sm Hc6.out.no (Or.inl rfl) hlen40 (by have:=Hc6.out.bk.lt; omega) (Hrp6.out.mono fun b hb=>⟨by have:=Hc6.out.bk.lt; omega,by omega⟩) hd
      have Hq:=qq hq;have Hd:=qq hd;have Hok:=qq hok;clear hq hd hok hdz hB
      have hrg6:w6.rangeAt wr.heap.size 0 (dlCells x Ap np cp Ac nc cc).toList:=fun j v hj=>by
       rw[Nat.zero_add,Hk6.out.cell j]
       simpa using hj
      go_upto_region 8 with fail;refine wp_region_list ?_;refine wpList_plain rfl fun K hK=>?_;go_simp;refine hK _ _ ?_;clear hK K;refine wpList_load_mid rfl 40 (.tmp 8) rfl wr.heap.size 0 rfl (dlCells x Ap np cp Ac nc cc).toList _ hrg6 Tryd.underlying40 rfl (by kernel_rfl) ?_;clear hrg6;go_wp2_with fail;refine Hq.out.mono ?_;rintro e w7 ⟨rfl,vd',hk7,hs7,hb7,hr7⟩;have hcn:=Hc6.out.next hk7 hs7 hb7 hr7
      have hFn:FoldP headE givenS diagZ (own.take (k+1)) ⟨s.datas++[⟨x.name,x.params.length,[]⟩],s.cons⟩ (d.then_ (headE s x)):=by
       rw[Hst.out];exact HF.out.go headE_ne Hd.out rfl fun s' hs'=>(headE_ok hs').1.symm
      have Hcn:=qq hcn;have HFn:=qq hFn;clear hcn hFn hk7 hs7 hb7 hr7 x2;go_wp2_with fail;go_roundg (m - (k+1))
      case measure=>omega
      case rel=>exact⟨k+1,_,vd',vc,_,_,by omega,rfl,by go_num,Hcn.out,HFn.out⟩
    · have dz:(d.e==0)=false:=by simpa using hd
      have hFn:FoldP headE givenS diagZ (own.take (k+1)) s d:=by
       rw[Hst.out];exact HF.out.stop hd s
      have HFn:=qq hFn;clear hFn hd;go_wp2_with fail;clear x2;go_roundg (m - (k+1))
      case measure=>omega
      case rel=>exact⟨k+1,s,vd,vc,vs,d,by omega,rfl,by go_num,Hc6.out,HFn.out⟩
  · have d0:decide (k<m)=false:=by simpa using hkm
    have hall:own.take k=own:=List.take_of_length_le (by omega);rw[hall] at hF;obtain⟨W1,hW1⟩:∃ q,q=wr:=⟨_,rfl⟩;subst hW1;have HF1:=qq hF;have Hck1:=qq hcks;clear hF hcks hall Hck hkm;go_wp2_with fail
    go_loopg [41] m (fun gh i wr=>∃ (k:Nat) (s2:SigD) (vd vc:Value) (vs:List Value) (d2:DiagD),k≤m∧gh=m - k∧i=.int .i64 (k:Nat)∧CkS wz.heap.size w1.heap.size w2.heap.size w5 s2 vd vc vs d2 wr∧FoldP bodyS (9,s) d (own.take k) (9+k,s2) d2∧(d2.e=0→SigB s2∧s2.datas.length=9+m))
    case atStart=>
     refine⟨0,s,vd,vc,vs,d,Nat.zero_le _,rfl,rfl,Hck1.out,FoldP.nil,fun h=>?_⟩;obtain⟨hok,_⟩:=HF1.out.ok headE_ne rfl h;have hB:=heads_B _ _ _ _ given_B hok
     exact⟨hB.sb,by rw[hB.dl,hml]; omega⟩
    case round=>
     obtain⟨k,s2,vd2,vc2,vs2,d2,hk,rfl,rfl,hcks,hF,hsb⟩:=hrel
     by_cases hkm:k<m
     · have d0:decide (k<m)=true:=by simpa using hkm
       obtain⟨_,cs1,hoc,ho16⟩:=hcks.own Hown.out (by omega) (by omega) (by omega) (by omega)
       have hko':k<own.length:=by omega
       obtain⟨gO,rfl,hgO,hgO1,hgO2,_,_⟩:=own_addr hoc (by omega);obtain⟨Ap,np,cp,Ac,nc,cc,hc,hrp,hrc,hone⟩:=(ho16 k hko').cells hoc hkm;obtain⟨x,hx⟩:∃ q,own[k]=q:=⟨_,rfl⟩;rw[hx] at hc hrp hrc hone
       have hrg:wr.rangeAt gO (k * 16) (dlCells x Ap np cp Ac nc cc).toList:=fun j v hj=>by
        have hj16:j<16:=(List.getElem?_eq_some_iff.1 hj).1;rw[hc j hj16]
        simpa using hj
       have h1c:=all_oneCell_toArray (dlCells_one x hone Ap np cp Ac nc cc);have Hx:=qq hx;have Hrp:=qq hrp;have Hrc:=qq hrc;have Hrg:=qq hrg;have H1c:=qq h1c
       have k1:(0:Int)≤(k:Int):=by omega
       have k2:(k:Int)<m:=by omega
       clear hx hrp hrc hc ho16 hoc hone hrg h1c;have hst:own.take (k+1)=own.take k++[own[k]]:=List.take_succ_eq_append_getElem hko';rw[Hx.out] at hst;have Hst:=qq hst;have HF:=qq hF;have Hcks:=qq hcks;have Hsb:=qq hsb;clear hst hF hcks hsb;go_upto_region 12 with fail;refine wp_region_list ?_;refine wpList_plain rfl fun K hK=>?_;go_simp;refine hK _ _ ?_;clear hK K;refine wpList_plain rfl fun K hK=>?_;go_simp;refine hK _ _ ?_;clear hK K;refine wpList_load_mid rfl 40 (.tmp 44) rfl gO (k * 16) rfl (dlCells x Ap np cp Ac nc cc).toList _ Hrg.out Tryd.underlying40 rfl (by kernel_rfl) ?_;refine wpList_plain rfl fun K hK=>?_;go_simp;refine hK _ _ ?_;clear hK K;refine wpList_plain rfl fun K hK=>?_;go_simp;refine hK _ _ ?_;clear hK K;refine wpList_store_new rfl 40 (.tmp 10) (.tmp 45) rfl #[.int .u8 0,.string ByteArray.empty,.int .i64 0,.int .i64 0,.int .i64 0,.slice none 0 0,.slice none 0 0,.bool false,.int .u8 0,.string ByteArray.empty,.int .i64 0,.int .i64 0,.int .i64 0,.int .i64 0,.slice none 0 0,.slice none 0 0] (dlCells x Ap np cp Ac nc cc) rfl rfl (by kernel_rfl) rfl H1c.out ?_;have hbx:=below_box (w:=wr) (Obj.cells (dlCells x Ap np cp Ac nc cc) 40);have hkx:=blk_new wr (dlCells x Ap np cp Ac nc cc) 40;obtain⟨w6,hw6⟩:∃ q,wr.alloc (Obj.cells (dlCells x Ap np cp Ac nc cc) 40)=q:=⟨_,rfl⟩;rw[hw6] at hbx hkx ⊢;have Hc6:=qq (Hcks.out.below hbx);have Hk6:=qq hkx
       have hrs:w.heap.size≤wr.heap.size:=by have:=Hcks.out.fr.size; omega
       have hrp6:=Hrp.out.below (hbx.mono hrs);have hrc6:=Hrc.out.below (hbx.mono hrs);have Hrp6:=qq hrp6;have Hrc6:=qq hrc6;have h56:w5.heap.size≤w6.heap.size:=Hc6.out.fr.size;clear hbx hkx hw6 hrp6 hrc6;have x2:w6.cell? ⟨w1.heap.size,2,none⟩=some (.int .i64 d2.e):=Hc6.out.bk.cell 2
       by_cases hd:d2.e=0
       · have dz:(d2.e==0)=true:=by simp[hd]
         obtain⟨hsB,hsl⟩:=Hsb.out hd
         have hq:=cons_any w1.heap.size wz.heap.size w.heap.size (9+k) (fun b=>b=w1.heap.size∨b<wz.heap.size) s2 vd2 vc2 vs2 d2 x Ap np cp Ac nc cc w6 Hc6.out.bk Hc6.out.sm Hc6.out.no (Or.inl rfl) (fun b e=>by have:=Hc6.out.bk.lt; rcases e with e | e <;> omega) (by omega) hsB (by omega) (by omega) (by omega) Hrp6.out Hrc6.out hd
         have ec:((9+k:Nat):Int)=wrap64 (9+(k:Int)):=by
          rw[IntWalk.wrap64_in _ ⟨by omega,by have:=hsB.dl; omega⟩]
          omega
         rw[ec] at hq;have Hq:=qq hq;have Hd:=qq hd;have Hsl:=qq hsl;clear hq hd hsB hsl ec
         have hrg6:w6.rangeAt wr.heap.size 0 (dlCells x Ap np cp Ac nc cc).toList:=fun j v hj=>by
          rw[Nat.zero_add,Hk6.out.cell j]
          simpa using hj
         go_upto_region 14 with fail;refine wp_region_list ?_;refine wpList_plain rfl fun K hK=>?_;go_simp;refine hK _ _ ?_;clear hK K;refine wpList_plain rfl fun K hK=>?_;go_simp;refine hK _ _ ?_;clear hK K;refine wpList_plain rfl fun K hK=>?_;go_simp;refine hK _ _ ?_;clear hK K;refine wpList_plain rfl fun K hK=>?_;go_simp;refine hK _ _ ?_;clear hK K;refine wpList_load_mid rfl 40 (.tmp 10) rfl wr.heap.size 0 rfl (dlCells x Ap np cp Ac nc cc).toList _ hrg6 Tryd.underlying40 rfl (by kernel_rfl) ?_;clear hrg6;go_wp2_with fail;refine Hq.out.mono ?_;rintro e w7 ⟨rfl,s',vc',vs',hk7,hs7,hpin,hb7,hr7,hsB',hsl',hno'⟩;have hcn:=Hc6.out.next hk7 hs7 hb7 hr7
         have hFn:FoldP bodyS (9,s) d (own.take (k+1)) (9+(k+1),s') (d2.then_ (bodyE (9+k) s2 x)):=by
          rw[Hst.out];refine HF.out.go bodyS_ne Hd.out (then_bodyS d2 (9+k,s2) x) fun z hz=>?_;have:=bodyS_ok hz;rw[hpin _ this.1]
          rw[show 9+(k+1)=9+k+1 from by omega]
          exact this.2
         have Hcn:=qq hcn;have HFn:=qq hFn;have Hsn:Hid ((d2.then_ (bodyE (9+k) s2 x)).e=0→SigB s'∧s'.datas.length=9+m):=qq fun _=>⟨hsB',hsl'.trans Hsl.out⟩;clear hcn hFn hk7 hs7 hb7 hr7 x2 hpin hsB' hsl' hno';go_wp2_with fail;go_roundg (m - (k+1))
         case measure=>omega
         case rel=>exact⟨k+1,s',vd2,vc',vs',_,by omega,rfl,by go_num,Hcn.out,HFn.out,Hsn.out⟩
       · have dz:(d2.e==0)=false:=by simpa using hd
         have hFn:FoldP bodyS (9,s) d (own.take (k+1)) (9+(k+1),s2) d2:=by
          rw[Hst.out];exact HF.out.stop hd _
         have HFn:=qq hFn;have Hsn:Hid (d2.e=0→SigB s2∧s2.datas.length=9+m):=qq fun q=>absurd q hd;clear hFn hd;go_wp2_with fail;clear x2;go_roundg (m - (k+1))
         case measure=>omega
         case rel=>exact⟨k+1,s2,vd2,vc2,vs2,d2,by omega,rfl,by go_num,Hc6.out,HFn.out,Hsn.out⟩
     · have d0:decide (k<m)=false:=by simpa using hkm
       have hall:own.take k=own:=List.take_of_length_le (by omega);rw[hall] at hF;obtain⟨W2,hW2⟩:∃ q,q=wr:=⟨_,rfl⟩;subst hW2;have hlaw:=check_law Hof.out.symm HF1.out hF;have hfr:=hcks.fr;have hzs:w5.heap.size≤W2.heap.size:=hfr.size;have hbel:Below w.heap.size w W2:=Hb05.out.trans ⟨hfr.os,hfr.tape,hfr.output,hfr.size,fun k hk=>hfr.block k (by omega) (by omega) (by omega)⟩;have hr0:Blk W2 w.heap.size 25 #[.slice none 0 0,.slice none 0 0]:=(hfr.block _ Hz05.out.lt (by omega) (by omega)).trans Hz05.out;have hr1:Blk W2 (w.heap.size+1) 30 #[.int .i64 0,.int .i64 0,.int .i64 0,.int .i64 0]:=(hfr.block _ Hz15.out.lt (by omega) (by omega)).trans Hz15.out
       have hwlt:w.heap.size+1<w1.heap.size:=by omega
       have Hlaw:=qq hlaw;have Hcks:=qq hcks;have Hbel:=qq hbel;have Hr0:=qq hr0;have Hr1:=qq hr1;clear hF hcks hall hkm hlaw hfr hbel hr0 hr1 hsb HF1 Hck1;obtain⟨A1,c1,rfl⟩:=ownsRow_form Hcks.out.sm.od;obtain⟨A2,c2,rfl⟩:=Hcks.out.sm.oc.form;obtain⟨n1,hn1⟩:∃ q,s2.datas.length=q:=⟨_,rfl⟩;obtain⟨n2,hn2⟩:∃ q,s2.cons.length=q:=⟨_,rfl⟩;have Hn1:=qq hn1;have Hn2:=qq hn2;rw[hn1,hn2] at Hcks;clear hn1 hn2
       have hgr:¬ (w.heap.size=w1.heap.size):=by omega
       have hgr1:¬ (w.heap.size+1=w1.heap.size):=by omega
       by_cases he:d2.e=0
       · have dz:(d2.e != 0)=false:=by simp[he]
         obtain⟨hok,hdz⟩:=Hlaw.out.2 he
         have hsig:SigR W2 (fun b=>b<W2.heap.size∧wz.heap.size≤b) s2 A1 n1 c1 A2 n2 c2:=by
          have h1:=Hcks.out.sm.dsl (S:=fun b=>b<W2.heap.size∧wz.heap.size≤b) (fun b hb=>⟨(Hcks.out.sm.rowB hb).2,(Hcks.out.sm.rowB hb).1⟩)
          have h2:=Hcks.out.sm.csl (S:=fun b=>b<W2.heap.size∧wz.heap.size≤b) (fun b hb q=>⟨hb,by
           rcases q with q | q
           · exact(Hcks.out.sm.rowB q).1
           · rcases Nat.lt_or_ge b wz.heap.size with r | r
             · exact absurd (Or.inr r) q
             · exact r⟩)
          rw[Hn1.out] at h1;rw[Hn2.out] at h2;exact⟨h1,h2⟩
         obtain⟨W9,hW9⟩:∃ q,(((((W2.setCell ⟨w.heap.size,0,none⟩ (.slice A1 n1 c1)).setCell ⟨w.heap.size,1,none⟩ (.slice A2 n2 c2)).setCell ⟨w.heap.size+1,0,none⟩ (.int .i64 0)).setCell ⟨w.heap.size+1,1,none⟩ (.int .i64 0)).setCell ⟨w.heap.size+1,2,none⟩ (.int .i64 0)).setCell ⟨w.heap.size+1,3,none⟩ (.int .i64 0)=q:=⟨_,rfl⟩;obtain⟨e1,e2,e3⟩:=end_facts Hr0.out Hr1.out (by omega) hW9;have HE:=qq (And.intro e1 (And.intro e2 e3));have HW9:=qq hW9;have Hok:=qq hok;have Hsig:=qq hsig;have m0:W2.cell? ⟨w1.heap.size,0,none⟩=some (.slice A1 n1 c1):=Hcks.out.bk.cell 0;have m1:W2.cell? ⟨w1.heap.size,1,none⟩=some (.slice A2 n2 c2):=Hcks.out.bk.cell 1;have m2:W2.cell? ⟨w1.heap.size,2,none⟩=some (.int .i64 d2.e):=Hcks.out.bk.cell 2;have x0:=Hr0.out.cell 0;have x1:=Hr0.out.cell 1;have y0:=Hr1.out.cell 0;have y1:=Hr1.out.cell 1;have y2:=Hr1.out.cell 2;have y3:=Hr1.out.cell 3;have f0:=Hr0.out.frozen 0;have f1:=Hr0.out.frozen 1;have z0:=Hr1.out.frozen 0;have z1:=Hr1.out.frozen 1;have z2:=Hr1.out.frozen 2;have z3:=Hr1.out.frozen 3;simp only[qc,qb,qa] at x0 x1 y0 y1 y2 y3;clear hok hdz hsig hW9 e1 e2 e3 he;go_wp2_with fail;clear x0 x1 y0 y1 y2 y3 f0 f1 z0 z1 z2 z3 m0 m1 m2;rw[HW9.out];have d0:W9.cell? ⟨w.heap.size,0,none⟩=some (.slice A1 n1 c1):=HE.out.1.cell 0;have d1:W9.cell? ⟨w.heap.size,1,none⟩=some (.slice A2 n2 c2):=HE.out.1.cell 1;have d2':W9.cell? ⟨w.heap.size+1,0,none⟩=some (.int .i64 0):=HE.out.2.1.cell 0;have d3:W9.cell? ⟨w.heap.size+1,1,none⟩=some (.int .i64 0):=HE.out.2.1.cell 1;have d4:W9.cell? ⟨w.heap.size+1,2,none⟩=some (.int .i64 0):=HE.out.2.1.cell 2;have d5:W9.cell? ⟨w.heap.size+1,3,none⟩=some (.int .i64 0):=HE.out.2.1.cell 3;refine bodyPost_ret (v:=.tuple #[.agg #[.slice A1 n1 c1,.slice A2 n2 c2],.agg #[.int .i64 0,.int .i64 0,.int .i64 0,.int .i64 0]]) (by simp[results,Tryd.results8,go_sem,d0,d1,d2',d3,d4,d5]) rfl ⟨A1,n1,c1,A2,n2,c2,diagZ,rfl,Hbel.out.trans HE.out.2.2.1,Or.inr ⟨s2,Hok.out,rfl,?_⟩⟩
         exact Hsig.out.keep (fun b hb=>Nat.lt_of_lt_of_le hb.1 HE.out.2.2.1.size) fun p hp=>HE.out.2.2.2 p (by have:=hp.2; omega) (by have:=hp.2; omega)
       · have dz:(d2.e != 0)=true:=by simpa using he
         have hok:=Hlaw.out.1 he;have Hok:=qq hok;have m2:W2.cell? ⟨w1.heap.size,2,none⟩=some (.int .i64 d2.e):=Hcks.out.bk.cell 2;clear hok he;go_upto_region 17 with fail;clear m2;refine wp_region_noPanic ?_;refine wp_region_T (fun w'=>w'.cell? ⟨w1.heap.size,2,none⟩=some (.int .i64 d2.e)∧w'.cell? ⟨w1.heap.size,3,none⟩=some (.int .i64 d2.p.at_)∧w'.cell? ⟨w1.heap.size,4,none⟩=some (.int .i64 d2.p.line)∧w'.cell? ⟨w1.heap.size,5,none⟩=some (.int .i64 d2.p.col)) 6 (by kernel_rfl) ⟨Hcks.out.bk.cell 2,Hcks.out.bk.cell 3,Hcks.out.bk.cell 4,Hcks.out.bk.cell 5⟩ (fun hHeld=>?_);have hbd:Below W2.heap.size W2 W2.drew:=Below.drew (Below.refl _ _);have hr0:=Hr0.out.below hbd Hr0.out.lt;have hr1:=Hr1.out.below hbd Hr1.out.lt;have hbk:=Hcks.out.bk.below hbd Hcks.out.bk.lt;have hbl:Below w.heap.size w W2.drew:=Hbel.out.trans (hbd.mono Hbel.out.size);generalize W2.drew=W3 at hHeld hr0 hr1 hbk hbl ⊢;obtain⟨W9,hW9⟩:∃ q,(((((W3.setCell ⟨w.heap.size,0,none⟩ (.slice none 0 0)).setCell ⟨w.heap.size,1,none⟩ (.slice none 0 0)).setCell ⟨w.heap.size+1,0,none⟩ (.int .i64 d2.e)).setCell ⟨w.heap.size+1,1,none⟩ (.int .i64 d2.p.at_)).setCell ⟨w.heap.size+1,2,none⟩ (.int .i64 d2.p.line)).setCell ⟨w.heap.size+1,3,none⟩ (.int .i64 d2.p.col)=q:=⟨_,rfl⟩;obtain⟨e1,e2,e3⟩:=end_facts hr0 hr1 (by omega) hW9;have hbkA:=(hbk.other hgr 0 (.slice none 0 0)).other hgr 1 (.slice none 0 0);have HbkA:=qq hbkA;have HE:=qq (And.intro e1 (And.intro e2 e3));have HW9:=qq hW9;have Hbl:=qq hbl;have x0:=hr0.cell 0;have x1:=hr0.cell 1;have y0:=hr1.cell 0;have y1:=hr1.cell 1;have y2:=hr1.cell 2;have y3:=hr1.cell 3;have f0:=hr0.frozen 0;have f1:=hr0.frozen 1;have z0:=hr1.frozen 0;have z1:=hr1.frozen 1;have z2:=hr1.frozen 2;have z3:=hr1.frozen 3;simp only[qc,qb,qa] at x0 x1 y0 y1 y2 y3;clear hW9 e1 e2 e3 hbd hr0 hr1 hbk hbkA hbl;refine nx0 0 ?_
         iterate 5 (refine nxD (v:=?_) rfl (by kernel_rfl) (fun _ _ _ h=>h) (by kernel_rfl) ?_ (by assumption) ?_; rotate_left; (focus (intro w hSw; (try dsimp only at hSw); first | (go_simp; done) | (go_simp; with_reducible rfl))); try simp only[Act.put,qg,qe,qf,qd,qh,qi,Nat.reduceAdd])
         refine nx9 ?_;clear hHeld;refine wpAnyT_step (i:=5) (by kernel_rfl) rfl (fun K hK=>?_);go_simp;refine hK.out _ _ ⟨HbkA.out.cell 2,HbkA.out.cell 3,HbkA.out.cell 4,HbkA.out.cell 5⟩ ?_;clear hK K
         try simp only[Act.put,qg,qe,qf,qd,qh,qi]
         refine wpAnyT_seq 6 (by omega) (by rfl) (by kernel_rfl) ?_;simp only[List.drop_succ_cons,List.drop_zero];go_wp2_with fail;refine NoPanic.normal ?_;clear x0 x1 y0 y1 y2 y3 f0 f1 z0 z1 z2 z3;rw[HW9.out];have d0:W9.cell? ⟨w.heap.size,0,none⟩=some (.slice none 0 0):=HE.out.1.cell 0;have d1:W9.cell? ⟨w.heap.size,1,none⟩=some (.slice none 0 0):=HE.out.1.cell 1;have d2':W9.cell? ⟨w.heap.size+1,0,none⟩=some (.int .i64 d2.e):=HE.out.2.1.cell 0;have d3:W9.cell? ⟨w.heap.size+1,1,none⟩=some (.int .i64 d2.p.at_):=HE.out.2.1.cell 1;have d4:W9.cell? ⟨w.heap.size+1,2,none⟩=some (.int .i64 d2.p.line):=HE.out.2.1.cell 2;have d5:W9.cell? ⟨w.heap.size+1,3,none⟩=some (.int .i64 d2.p.col):=HE.out.2.1.cell 3;go_wp2_with fail;exact bodyPost_ret (v:=.tuple #[.agg #[.slice none 0 0,.slice none 0 0],.agg #[.int .i64 d2.e,.int .i64 d2.p.at_,.int .i64 d2.p.line,.int .i64 d2.p.col]]) (by simp[results,Tryd.results8,go_sem,d0,d1,d2',d3,d4,d5]) rfl ⟨none,0,0,none,0,0,d2,rfl,Hbl.out.trans HE.out.2.2.1,Or.inl ⟨d2,Hok.out,rfl,rfl,rfl,rfl,rfl,rfl,rfl⟩⟩
end Go.Proofs.YtgpeijkjmkocgaaDoor
