import Derived.Test.YtdmakpmbknindaaGreatDoorM28
set_option linter.unusedVariables false
set_option linter.unusedSimpArgs false
set_option maxHeartbeats 4000000
set_option maxRecDepth 100000
namespace Go.Proofs.YtdmakpmbknindaaGreatDoor
open Go.RowKit
theorem mayT_key {t:TyD} (h:mayT t=true):(0≤t.n∧t.n<1048576)∧(0≤t.v∧t.v<1048576):=by
 rw[mayT_eq,Bool.and_eq_true] at h;have h1:=h.1;unfold isN isB at h1;simp only[Bool.and_eq_true,Bool.or_eq_true,decide_eq_true_eq,beq_iff_eq] at h1
 have hm:mostI t.k≤1048576:=by unfold mostI; split <;> (try split) <;> omega
 obtain⟨⟨⟨⟨⟨⟨_,_⟩,h3⟩,h4⟩,_⟩,_⟩,h5⟩:=h1
 refine⟨⟨h3,by omega⟩,?_⟩
 rcases h5 with ⟨h5,_⟩ | ⟨_,h5⟩
 · omega
 · rcases h5 with ⟨⟨_,h5⟩,h6⟩ | ⟨_,h5⟩ <;> omega
theorem zeroType_run (w:World):(zeroValue 27).run Tryz.prog w=.ok zT w:=Tryz.zeroValue27 w
theorem zeroMu_run (w:World):(zeroValue 24).run Tryz.prog w=.ok zM w:=Tryz.zeroValue24 w
def FitPost (B p1 p2 p3 b1 b2 n:Nat) (r:Bool × StM) (w:World) (e:Ending) (w':World):Prop:=
 e=.returned (.bool r.1)∧MSt w' B p1 p2 p3 b1 b2 n r.2∧GrewM b1 b2 w w'
theorem nodesL_takeW:∀ (l:List TyD) (j:Nat),nodes.nodesL (l.take j)≤nodes.nodesL l
 | [],j=>by simp
 | t :: r,0=>by simp[nodes.nodesL]
 | t :: r,j+1=>by rw[List.take_succ_cons,nodes.nodesL,nodes.nodesL]; have:=nodesL_takeW r j; omega
theorem fits_go:∀ (N:Nat) (t u:TyD),nodes t≤N→mayT t=true→∀ (A:Option Addr) (m cp:Nat) (A':Option Addr) (m' cp':Nat) (w:World) (B p1 p2 p3 b1 b2 n:Nat) (s:StM),TysV w B A m cp t.l→TysV w B A' m' cp' u.l→MSt w B p1 p2 p3 b1 b2 n s →
 Calls Tryz.prog 123 #[.agg #[.int .u8 t.k,.int .i64 t.n,.int .i64 t.v,.int .u8 t.c,.slice A m cp],.agg #[.int .u8 u.k,.int .i64 u.n,.int .i64 u.v,.int .u8 u.c,.slice A' m' cp'],.pointer (some ⟨p1,0,none⟩),.pointer (some ⟨p2,0,none⟩),.pointer (some ⟨p3,0,none⟩)] w (FitPost B p1 p2 p3 b1 b2 (n+nodes t) (fitsN N t u s) w):=by
 intro N
 induction N with
 | zero=>intro t u hN; exact absurd hN (by rw[nodes_eq]; omega)
 | succ N ih=>
   intro t u hN hmay A m cp A' m' cp' w B p1 p2 p3 b1 b2 n s ht hu hM;obtain⟨r,hr⟩:∃ r,fitsN (N+1) t u s=r:=⟨_,rfl⟩;rw[hr];obtain⟨k,nn,v,c,l⟩:=t;obtain⟨k',n',v',c',l'⟩:=u;obtain⟨⟨kn0,kn1⟩,kv0,kv1⟩:=mayT_key hmay;simp only[TyD.k,TyD.n,TyD.v,TyD.c,TyD.l] at kn0 kn1 kv0 kv1 ht hu ⊢;have hl:=ht.len;have hl':=hu.len
   have hnp:1≤nodes (.mk k nn v c l):=by rw[nodes_eq]; omega
   have m63:m≤9223372036854775807:=by have:=ht.2.1; have:=ht.2.2.1; unfold maxLen at this; omega
   have m63':m'≤9223372036854775807:=by have:=hu.2.1; have:=hu.2.2.1; unfold maxLen at this; omega
   have hwfn:(Lit.int .i64 nn).wf=true:=WalkArith.wf_i64 (by omega);have hwfv:(Lit.int .i64 v).wf=true:=WalkArith.wf_i64 (by omega);have Hr:=qq hr;clear hr;have l0:=hM.l0;have Hnt:=qq (nodes_eq (.mk k nn v c l));simp only[TyD.l] at Hnt
   have lb1:b1<w.heap.size:=by obtain⟨f,h,_⟩:=hM.m1; exact h.lt
   have lb2:b2<w.heap.size:=by obtain⟨f,h,_⟩:=hM.m2; exact h.lt
   have hba:=below_box (w:=w) (Obj.cells #[.int .u8 k,.int .i64 nn,.int .i64 v,.int .u8 c,.slice A m cp] 27)
   have hsa:(w.alloc (Obj.cells #[.int .u8 k,.int .i64 nn,.int .i64 v,.int .u8 c,.slice A m cp] 27)).heap.size=w.heap.size+1:=by simp
   have hbb:=hba.trans ((below_box (w:=w.alloc (Obj.cells #[.int .u8 k,.int .i64 nn,.int .i64 v,.int .u8 c,.slice A m cp] 27)) (Obj.cells #[.int .u8 k',.int .i64 n',.int .i64 v',.int .u8 c',.slice A' m' cp'] 27)).mono hba.size);have hk1:=(blk_new w #[.int .u8 k,.int .i64 nn,.int .i64 v,.int .u8 c,.slice A m cp] 27).alloc (Obj.cells #[.int .u8 k',.int .i64 n',.int .i64 v',.int .u8 c',.slice A' m' cp'] 27);have hk2:=blk_new (w.alloc (Obj.cells #[.int .u8 k,.int .i64 nn,.int .i64 v,.int .u8 c,.slice A m cp] 27)) #[.int .u8 k',.int .i64 n',.int .i64 v',.int .u8 c',.slice A' m' cp'] 27;rw[hsa] at hk2;obtain⟨W,hW⟩:∃ x,(w.alloc (Obj.cells #[.int .u8 k,.int .i64 nn,.int .i64 v,.int .u8 c,.slice A m cp] 27)).alloc (Obj.cells #[.int .u8 k',.int .i64 n',.int .i64 v',.int .u8 c',.slice A' m' cp'] 27)=x:=⟨_,rfl⟩;rw[hW] at hbb hk1 hk2;have HW:=qq hW;have Hb:=qq hbb;have HK1:=qq hk1;have HK2:=qq hk2;have HM:=qq (hM.fresh hbb);have Ht:=qq (ht.below (hbb.mono hM.l0));have Hu:=qq (hu.below (hbb.mono hM.l0));clear hba hsa hbb hk1 hk2 hW hM ht hu
   by_cases h1:k=1
   · subst h1
     obtain⟨f1,hm1,r1⟩:=HM.out.m1
     rcases r1 nn with ⟨hs,hf⟩ | ⟨was,val,hs,hf,Aw,mw,cw,hv,hw'⟩
     · -- a variable that is none's yet
       obtain rfl:(true,s.putT nn (.mk k' n' v' c' l'))=r:=(fitsN_new (t:=.mk 1 nn v c l) rfl hs).symm.trans Hr.out;have hbz:=below_box (w:=W) (Obj.cells #[.int .u8 0,.int .i64 0,.int .i64 0,.int .u8 0,.slice none 0 0] 27);obtain⟨W2,hW2⟩:∃ x,W.alloc (Obj.cells #[.int .u8 0,.int .i64 0,.int .i64 0,.int .u8 0,.slice none 0 0] 27)=x:=⟨_,rfl⟩;rw[hW2] at hbz;have HW2:=qq hW2;have HM2:=qq (HM.out.fresh hbz);have hm2:=hm1.fresh hbz
       have Hr2:=qq (r1.below (hbz.mono (by have:=Hb.out.size; omega)))
       have Hv2:Hid (TyV W2 B (.agg #[.int .u8 k',.int .i64 n',.int .i64 v',.int .u8 c',.slice A' m' cp']) (.mk k' n' v' c' l')):=qq ⟨A',m',cp',rfl,Hu.out.below (hbz.mono (by have:=Hb.out.size; omega))⟩
       have Hbz:=qq hbz;have Hm1:=qq hm1;have Hm2:=qq hm2;have Hf:=qq hf;have hnl:capN n<maxLen:=capN_lt n;have u0:W2.cell? ⟨w.heap.size+1,0,none⟩=some (.int .u8 k'):=(HK2.out.below hbz HK2.out.lt).cell 0;have u1:W2.cell? ⟨w.heap.size+1,1,none⟩=some (.int .i64 n'):=(HK2.out.below hbz HK2.out.lt).cell 1;have u2:W2.cell? ⟨w.heap.size+1,2,none⟩=some (.int .i64 v'):=(HK2.out.below hbz HK2.out.lt).cell 2;have u3:W2.cell? ⟨w.heap.size+1,3,none⟩=some (.int .u8 c'):=(HK2.out.below hbz HK2.out.lt).cell 3;have u4:W2.cell? ⟨w.heap.size+1,4,none⟩=some (.slice A' m' cp'):=(HK2.out.below hbz HK2.out.lt).cell 4;have s1:W2.cell? ⟨w.heap.size,1,none⟩=some (.int .i64 nn):=(HK1.out.below hbz HK1.out.lt).cell 1;have t1:W2.cell? ⟨p1,0,none⟩=some (.map (some b1)):=HM2.out.c1.cell 0;have x0:W.cell? ⟨w.heap.size,0,none⟩=some (.int .u8 1):=HK1.out.cell 0;clear hbz hm1 hm2 hf hs r1 hW2
       go_enter Tryz.func123,Tryz.ntmps123
       go_upto_region 1 with fail;rw[HW.out];have x1:W.cell? ⟨w.heap.size,1,none⟩=some (.int .i64 nn):=HK1.out.cell 1;have z1:W.cell? ⟨p1,0,none⟩=some (.map (some b1)):=HM.out.c1.cell 0
       go_upto_region 3 with (at_lookup; refine wpList_miss_V _ rfl _ _ 104 rfl 3 27 Tryz.underlying3 Tryz.underlying104 (zeroType_run _) b1 (capN n) f1 rfl Hm1.out nn rfl hwfn Hf.out ?_)
       rw[HW2.out];clear x0 x1 z1
       go_wp2_with (at_mapUpdate; refine wpList_update_V _ rfl _ _ _ 104 rfl 3 27 Tryz.underlying3 Tryz.underlying104 zT b1 (capN n) f1 rfl Hm2.out hnl nn rfl hwfn _ rfl ?_; intro w1 hm3 hg3)
       go_ret;exact⟨rfl,(HM2.out.putT Hr2.out Hv2.out ⟨kn0,kn1⟩ hm3 hg3).mono (by omega),((GrewM.of_below Hb.out).trans (GrewM.of_below Hbz.out)).trans (GrewM.of1 hg3)⟩
     · -- one that is known
       obtain rfl:(sameT was (.mk k' n' v' c' l'),s)=r:=(fitsN_old (t:=.mk 1 nn v c l) rfl hs).symm.trans Hr.out;subst hv;have hbz:=below_box (w:=W) (Obj.cells #[.int .u8 was.k,.int .i64 was.n,.int .i64 was.v,.int .u8 was.c,.slice Aw mw cw] 27);have hkz:=blk_new W #[.int .u8 was.k,.int .i64 was.n,.int .i64 was.v,.int .u8 was.c,.slice Aw mw cw] 27;obtain⟨W2,hW2⟩:∃ x,W.alloc (Obj.cells #[.int .u8 was.k,.int .i64 was.n,.int .i64 was.v,.int .u8 was.c,.slice Aw mw cw] 27)=x:=⟨_,rfl⟩;rw[hW2] at hbz hkz;have HW2:=qq hW2;have HM2:=qq (HM.out.fresh hbz)
       have hB2:B≤W2.heap.size:=by have:=Hb.out.size; have:=hbz.size; omega
       have Hw2:=qq ((hw'.below (hbz.mono (by have:=Hb.out.size; omega))).more hB2)
       have Hu2:=qq ((Hu.out.below (hbz.mono (by have:=Hb.out.size; omega))).more hB2)
       have Hbz:=qq hbz;have Hm1:=qq hm1;have Hf:=qq hf;have Hz2:=qq hkz;have x0:W.cell? ⟨w.heap.size,0,none⟩=some (.int .u8 1):=HK1.out.cell 0;clear hbz hm1 hf hs r1 hW2 hw' hkz hB2
       go_enter Tryz.func123,Tryz.ntmps123
       go_upto_region 1 with fail;rw[HW.out];have x1:W.cell? ⟨w.heap.size,1,none⟩=some (.int .i64 nn):=HK1.out.cell 1;have z1:W.cell? ⟨p1,0,none⟩=some (.map (some b1)):=HM.out.c1.cell 0
       go_upto_region 3 with (at_lookup; refine wpList_hit_V _ rfl _ _ 104 rfl 3 27 Tryz.underlying3 Tryz.underlying104 (zeroType_run _) b1 (capN n) f1 rfl Hm1.out nn rfl hwfn _ Hf.out ?_)
       rw[HW2.out];clear x0 x1 z1;have u0:W2.cell? ⟨w.heap.size+1,0,none⟩=some (.int .u8 k'):=(HK2.out.below Hbz.out HK2.out.lt).cell 0;have u1:W2.cell? ⟨w.heap.size+1,1,none⟩=some (.int .i64 n'):=(HK2.out.below Hbz.out HK2.out.lt).cell 1;have u2:W2.cell? ⟨w.heap.size+1,2,none⟩=some (.int .i64 v'):=(HK2.out.below Hbz.out HK2.out.lt).cell 2;have u3:W2.cell? ⟨w.heap.size+1,3,none⟩=some (.int .u8 c'):=(HK2.out.below Hbz.out HK2.out.lt).cell 3;have u4:W2.cell? ⟨w.heap.size+1,4,none⟩=some (.slice A' m' cp'):=(HK2.out.below Hbz.out HK2.out.lt).cell 4;have g0:W2.cell? ⟨W.heap.size,0,none⟩=some (.int .u8 was.k):=Hz2.out.cell 0;have g1:W2.cell? ⟨W.heap.size,1,none⟩=some (.int .i64 was.n):=Hz2.out.cell 1;have g2:W2.cell? ⟨W.heap.size,2,none⟩=some (.int .i64 was.v):=Hz2.out.cell 2;have g3:W2.cell? ⟨W.heap.size,3,none⟩=some (.int .u8 was.c):=Hz2.out.cell 3;have g4:W2.cell? ⟨W.heap.size,4,none⟩=some (.slice Aw mw cw):=Hz2.out.cell 4;go_wp2_with fail;refine(same_go (nodes was) was (.mk k' n' v' c' l') (Nat.le_refl _) Aw mw cw A' m' cp' W2 Hw2.out Hu2.out).mono ?_;rintro e w3 ⟨rfl,hb3⟩;have Hb3:=qq hb3;clear hb3;go_wp2_with fail;go_ret;exact⟨rfl,(HM2.out.fresh Hb3.out).mono (by omega),((GrewM.of_below Hb.out).trans (GrewM.of_below Hbz.out)).trans (GrewM.of_below Hb3.out)⟩
   · have e1:(k==1)=false:=by simpa using h1
     by_cases h2:k=k'
     · have e2:(k != k')=false:=by simp[h2]
       by_cases h3:nn=n'
       · have e3:(nn != n')=false:=by simp[h3]
         by_cases h4:m=m'
         · have e4:((m:Int) != (m':Int))=false:=by simp[h4]
           have hhd:headB (.mk k nn v c l) (.mk k' n' v' c' l')=true:=by
            unfold headB;simp[TyD.k,TyD.n,TyD.l,hl,hl',h2,h3,h4]
           have Hhd:=qq hhd;have Hmm:=qq h4;clear hhd h2 h3 h4;have HGW:=qq (GrewM.of_below (b1:=b1) (b2:=b2) Hb.out)
           have hnn:n+1≤n+nodes (.mk k nn v c l):=by omega
           go_enter Tryz.func123,Tryz.ntmps123
           go_upto_region 1 with fail;rw[HW.out];have x0:W.cell? ⟨w.heap.size,0,none⟩=some (.int .u8 k):=HK1.out.cell 0;have x1:W.cell? ⟨w.heap.size,1,none⟩=some (.int .i64 nn):=HK1.out.cell 1;have x2:W.cell? ⟨w.heap.size,2,none⟩=some (.int .i64 v):=HK1.out.cell 2;have x3:W.cell? ⟨w.heap.size,3,none⟩=some (.int .u8 c):=HK1.out.cell 3;have x4:W.cell? ⟨w.heap.size,4,none⟩=some (.slice A m cp):=HK1.out.cell 4;have y0:W.cell? ⟨w.heap.size+1,0,none⟩=some (.int .u8 k'):=HK2.out.cell 0;have y1:W.cell? ⟨w.heap.size+1,1,none⟩=some (.int .i64 n'):=HK2.out.cell 1;have y2:W.cell? ⟨w.heap.size+1,2,none⟩=some (.int .i64 v'):=HK2.out.cell 2;have y3:W.cell? ⟨w.heap.size+1,3,none⟩=some (.int .u8 c'):=HK2.out.cell 3;have y4:W.cell? ⟨w.heap.size+1,4,none⟩=some (.slice A' m' cp'):=HK2.out.cell 4;have z1:W.cell? ⟨p1,0,none⟩=some (.map (some b1)):=HM.out.c1.cell 0;have z2:W.cell? ⟨p2,0,none⟩=some (.map (some b2)):=HM.out.c2.cell 0;clear HW;obtain⟨P,hP⟩:∃ P,armB (.mk k nn v c l) (.mk k' n' v' c' l')=P:=⟨_,rfl⟩;have HP:=qq hP;clear hP;go_upto_region 9 with fail
           go_cut [67] (fun s67 wx=>s67=.bool (!P)∧wx=W)
           case first=>
            have hP:=HP.out;unfold armB at hP;simp only[TyD.k,TyD.c,TyD.v] at hP
            by_cases h7:k=7
            · subst h7
              by_cases hc:c=0
              · subst hc
                obtain rfl:P=true:=by rw[← hP]; simp
                clear hP;go_wp2_with fail;go_meet;exact⟨rfl,rfl⟩
              · have ec:(c != 0)=true:=by simpa using hc
                by_cases hv1:v=v'
                · by_cases hv2:c=c'
                  · have eP:(!P)=false:=by rw[← hP,hv1,hv2]; simp
                    have ec3:(c' != 0)=true:=by rw[← hv2]; exact ec
                    clear hP hc;go_wp2_with fail;go_meet
                    exact⟨by rw[eP],rfl⟩
                  · have eP:(!P)=true:=by rw[← hP]; simp[hc,hv2]
                    clear hP hc;go_wp2_with fail;go_meet
                    exact⟨by rw[eP],rfl⟩
                · have eP:(!P)=true:=by rw[← hP]; simp[hc,hv1]
                  clear hP hc;go_wp2_with fail;go_meet
                  exact⟨by rw[eP],rfl⟩
            · have e7:(k==7)=false:=by simpa using h7
              obtain rfl:P=true:=by rw[← hP]; simp[h7]
              clear hP h7;go_wp2_with fail;go_meet;exact⟨rfl,rfl⟩
           case rest=>
            obtain⟨rfl,hwc⟩:=hcut;have hwd:=hwc.symm;subst hwd
            cases P with
            | false=>
              obtain rfl:(false,s)=r:=(fitsN_arm (t:=.mk k nn v c l) (u:=.mk k' n' v' c' l') h1 Hhd.out HP.out).symm.trans Hr.out;go_wp2_with fail;go_ret;exact⟨rfl,HM.out.mono (by omega),HGW.out⟩
            | true=>
              obtain⟨Q,hQ⟩:∃ Q,((k==7)&&(c==0))=Q:=⟨_,rfl⟩;have HQ:=qq hQ;clear hQ;go_upto_region 11 with fail
              go_cut [76] (fun s76 wx=>s76=.bool Q∧wx=W)
              case first=>
               have hQ:=HQ.out
               by_cases h7:k=7
               · subst h7
                 by_cases hc:c=0
                 · subst hc
                   obtain rfl:Q=true:=by rw[← hQ]; simp
                   clear hQ;go_wp2_with fail;go_meet;exact⟨rfl,rfl⟩
                 · have ec:(c==0)=false:=by simpa using hc
                   obtain rfl:Q=false:=by rw[← hQ]; simp[hc]
                   clear hQ hc;go_wp2_with fail;go_meet;exact⟨rfl,rfl⟩
               · have e7:(k==7)=false:=by simpa using h7
                 obtain rfl:Q=false:=by rw[← hQ]; simp[h7]
                 clear hQ h7;go_wp2_with fail;go_meet;exact⟨rfl,rfl⟩
              case rest=>
               obtain⟨rfl,hwc⟩:=hcut;have hwd:=hwc.symm;subst hwd
               go_upto_if 76 with fail
               go_cut [] (fun wx=>∃ s1:StM,MSt wx B p1 p2 p3 b1 b2 (n+1) s1∧GrewM b1 b2 W wx∧fitsK (fitsN N) l l' 0 s1=r)
               case first=>
                cases Q with
                | false=>
                  have hfm:fitsM (.mk k nn v c l) (.mk k' n' v' c' l') s=(true,s):=by
                   have hQ:=HQ.out;unfold fitsM;rw[if_neg];simp only[TyD.k,TyD.c];intro h;simp[h.1,h.2] at hQ
                  have HR:Hid (fitsK (fitsN N) l l' 0 s=r):=qq ((fitsN_kids (t:=.mk k nn v c l) (u:=.mk k' n' v' c' l') h1 Hhd.out HP.out hfm).symm.trans Hr.out);clear hfm;go_wp2_with fail;go_meet;exact⟨s,HM.out.mono (Nat.le_succ n),GrewM.refl _ _ _,HR.out⟩
                | true=>
                  have hQ:=HQ.out;simp only[Bool.and_eq_true,beq_iff_eq] at hQ;obtain⟨rfl,rfl⟩:=hQ;obtain⟨f2,hm2,r2⟩:=HM.out.m2;have r2v:=r2 v;have Hm2:=qq hm2;have R2:=qq r2;have hnl:capN n<maxLen:=capN_lt n;clear hm2 r2 HQ
                  cases hs:s.mults v with
                  | none=>
                    rw[hs] at r2v
                    have Hf:=qq (show f2 v=none from r2v)
                    have hfm:fitsM (.mk 7 nn v 0 l) (.mk k' n' v' c' l') s=(true,s.putM v (v',c')):=by unfold fitsM; simp[TyD.k,TyD.c,TyD.v,hs]
                    have HR:Hid (fitsK (fitsN N) l l' 0 (s.putM v (v',c'))=r):=qq ((fitsN_kids (t:=.mk 7 nn v 0 l) (u:=.mk k' n' v' c' l') h1 Hhd.out HP.out hfm).symm.trans Hr.out);clear r2v hs hfm;have hbz:=below_box (w:=W) (Obj.cells #[.int .i64 (0),.int .u8 (0)] 24);have hkz:=blk_new W #[.int .i64 (0),.int .u8 (0)] 24;obtain⟨W2,hW2⟩:∃ x,W.alloc (Obj.cells #[.int .i64 (0),.int .u8 (0)] 24)=x:=⟨_,rfl⟩;rw[hW2] at hbz hkz;have HW2:=qq hW2;have HM2:=qq (HM.out.fresh hbz);have HmW2:=qq (Hm2.out.fresh hbz);have Hbz:=qq hbz;have g0:W2.cell? ⟨W.heap.size,0,none⟩=some (.int .i64 (0)):=hkz.cell 0;have g1:W2.cell? ⟨W.heap.size,1,none⟩=some (.int .u8 (0)):=hkz.cell 1;have u2:W2.cell? ⟨w.heap.size+1,2,none⟩=some (.int .i64 v'):=(HK2.out.below hbz HK2.out.lt).cell 2;have u3:W2.cell? ⟨w.heap.size+1,3,none⟩=some (.int .u8 c'):=(HK2.out.below hbz HK2.out.lt).cell 3;have s2:W2.cell? ⟨w.heap.size,2,none⟩=some (.int .i64 v):=(HK1.out.below hbz HK1.out.lt).cell 2;have t2:W2.cell? ⟨p2,0,none⟩=some (.map (some b2)):=HM2.out.c2.cell 0;clear hbz hkz hW2
                    go_upto_region 13 with (at_lookup; refine wpList_miss_V _ rfl _ _ 105 rfl 3 24 Tryz.underlying3 Tryz.underlying105 (zeroMu_run _) b2 (capN n) f2 rfl Hm2.out v rfl hwfv Hf.out ?_)
                    rw[HW2.out];clear x0 x1 x2 x3 x4 y0 y1 y2 y3 y4 z1 z2
                    go_wp2_with (at_mapUpdate; refine wpList_update_V _ rfl _ _ _ 105 rfl 3 24 Tryz.underlying3 Tryz.underlying105 zM b2 (capN n) f2 rfl HmW2.out hnl v rfl hwfv _ rfl ?_; intro W1 hm3 hg3)
                    clear g0 g1 u2 u3 s2 t2;have HM1:=qq (HM2.out.putM (m:=(v',c')) R2.out ⟨kv0,kv1⟩ hm3 hg3);have HGX:=qq ((GrewM.of_below (b1:=b1) (b2:=b2) Hbz.out).trans (GrewM.of2 hg3));clear hm3 hg3;go_meet;exact⟨_,HM1.out,HGX.out,HR.out⟩
                  | some was=>
                    rw[hs] at r2v;obtain⟨wv,wc⟩:=was
                    have Hf:=qq (show f2 v=some (.agg #[.int .i64 wv,.int .u8 wc]) from r2v)
                    by_cases hw:wv=v'∧wc=c'
                    · have hfm:fitsM (.mk 7 nn v 0 l) (.mk k' n' v' c' l') s=(true,s.putM v (v',c')):=by unfold fitsM; simp[TyD.k,TyD.c,TyD.v,hs,hw.1,hw.2]
                      have HR:Hid (fitsK (fitsN N) l l' 0 (s.putM v (v',c'))=r):=qq ((fitsN_kids (t:=.mk 7 nn v 0 l) (u:=.mk k' n' v' c' l') h1 Hhd.out HP.out hfm).symm.trans Hr.out);have Hw:=qq hw;clear r2v hs hfm hw;have hbz:=below_box (w:=W) (Obj.cells #[.int .i64 (wv),.int .u8 (wc)] 24);have hkz:=blk_new W #[.int .i64 (wv),.int .u8 (wc)] 24;obtain⟨W2,hW2⟩:∃ x,W.alloc (Obj.cells #[.int .i64 (wv),.int .u8 (wc)] 24)=x:=⟨_,rfl⟩;rw[hW2] at hbz hkz;have HW2:=qq hW2;have HM2:=qq (HM.out.fresh hbz);have HmW2:=qq (Hm2.out.fresh hbz);have Hbz:=qq hbz;have g0:W2.cell? ⟨W.heap.size,0,none⟩=some (.int .i64 (wv)):=hkz.cell 0;have g1:W2.cell? ⟨W.heap.size,1,none⟩=some (.int .u8 (wc)):=hkz.cell 1;have u2:W2.cell? ⟨w.heap.size+1,2,none⟩=some (.int .i64 v'):=(HK2.out.below hbz HK2.out.lt).cell 2;have u3:W2.cell? ⟨w.heap.size+1,3,none⟩=some (.int .u8 c'):=(HK2.out.below hbz HK2.out.lt).cell 3;have s2:W2.cell? ⟨w.heap.size,2,none⟩=some (.int .i64 v):=(HK1.out.below hbz HK1.out.lt).cell 2;have t2:W2.cell? ⟨p2,0,none⟩=some (.map (some b2)):=HM2.out.c2.cell 0;clear hbz hkz hW2
                      go_upto_region 13 with (at_lookup; refine wpList_hit_V _ rfl _ _ 105 rfl 3 24 Tryz.underlying3 Tryz.underlying105 (zeroMu_run _) b2 (capN n) f2 rfl Hm2.out v rfl hwfv _ Hf.out ?_)
                      rw[HW2.out];clear x0 x1 x2 x3 x4 y0 y1 y2 y3 y4 z1 z2;obtain⟨hw1,hw2⟩:=Hw.out;go_upto_region 15 with fail;clear hw1 hw2
                      go_wp2_with (at_mapUpdate; refine wpList_update_V _ rfl _ _ _ 105 rfl 3 24 Tryz.underlying3 Tryz.underlying105 zM b2 (capN n) f2 rfl HmW2.out hnl v rfl hwfv _ rfl ?_; intro W1 hm3 hg3)
                      clear g0 g1 u2 u3 s2 t2;have HM1:=qq (HM2.out.putM (m:=(v',c')) R2.out ⟨kv0,kv1⟩ hm3 hg3);have HGX:=qq ((GrewM.of_below (b1:=b1) (b2:=b2) Hbz.out).trans (GrewM.of2 hg3));clear hm3 hg3;go_meet;exact⟨_,HM1.out,HGX.out,HR.out⟩
                    · have hfm:fitsM (.mk 7 nn v 0 l) (.mk k' n' v' c' l') s=(false,s):=by unfold fitsM; simp[TyD.k,TyD.c,TyD.v,hs]; exact fun h=>fun h2=>hw ⟨h,h2⟩
                      obtain rfl:(false,s)=r:=(fitsN_mult (t:=.mk 7 nn v 0 l) (u:=.mk k' n' v' c' l') h1 Hhd.out HP.out hfm).symm.trans Hr.out;clear r2v hs hfm
                      by_cases hw1:wv=v'
                      · have hw2:¬ wc=c':=fun h=>hw ⟨hw1,h⟩
                        have Hw:=qq (And.intro hw1 hw2);clear hw hw1 hw2;have hbz:=below_box (w:=W) (Obj.cells #[.int .i64 (wv),.int .u8 (wc)] 24);have hkz:=blk_new W #[.int .i64 (wv),.int .u8 (wc)] 24;obtain⟨W2,hW2⟩:∃ x,W.alloc (Obj.cells #[.int .i64 (wv),.int .u8 (wc)] 24)=x:=⟨_,rfl⟩;rw[hW2] at hbz hkz;have HW2:=qq hW2;have HM2:=qq (HM.out.fresh hbz);have HmW2:=qq (Hm2.out.fresh hbz);have Hbz:=qq hbz;have g0:W2.cell? ⟨W.heap.size,0,none⟩=some (.int .i64 (wv)):=hkz.cell 0;have g1:W2.cell? ⟨W.heap.size,1,none⟩=some (.int .u8 (wc)):=hkz.cell 1;have u2:W2.cell? ⟨w.heap.size+1,2,none⟩=some (.int .i64 v'):=(HK2.out.below hbz HK2.out.lt).cell 2;have u3:W2.cell? ⟨w.heap.size+1,3,none⟩=some (.int .u8 c'):=(HK2.out.below hbz HK2.out.lt).cell 3;have s2:W2.cell? ⟨w.heap.size,2,none⟩=some (.int .i64 v):=(HK1.out.below hbz HK1.out.lt).cell 2;have t2:W2.cell? ⟨p2,0,none⟩=some (.map (some b2)):=HM2.out.c2.cell 0;clear hbz hkz hW2
                        go_upto_region 13 with (at_lookup; refine wpList_hit_V _ rfl _ _ 105 rfl 3 24 Tryz.underlying3 Tryz.underlying105 (zeroMu_run _) b2 (capN n) f2 rfl Hm2.out v rfl hwfv _ Hf.out ?_)
                        rw[HW2.out];clear x0 x1 x2 x3 x4 y0 y1 y2 y3 y4 z1 z2;obtain⟨hw1,hw2⟩:=Hw.out;go_wp2_with fail;go_ret;exact⟨rfl,HM2.out.mono (by omega),HGW.out.trans (GrewM.of_below Hbz.out)⟩
                      · have Hw:=qq hw1
                        clear hw hw1;have hbz:=below_box (w:=W) (Obj.cells #[.int .i64 (wv),.int .u8 (wc)] 24);have hkz:=blk_new W #[.int .i64 (wv),.int .u8 (wc)] 24;obtain⟨W2,hW2⟩:∃ x,W.alloc (Obj.cells #[.int .i64 (wv),.int .u8 (wc)] 24)=x:=⟨_,rfl⟩;rw[hW2] at hbz hkz;have HW2:=qq hW2;have HM2:=qq (HM.out.fresh hbz);have HmW2:=qq (Hm2.out.fresh hbz);have Hbz:=qq hbz;have g0:W2.cell? ⟨W.heap.size,0,none⟩=some (.int .i64 (wv)):=hkz.cell 0;have g1:W2.cell? ⟨W.heap.size,1,none⟩=some (.int .u8 (wc)):=hkz.cell 1;have u2:W2.cell? ⟨w.heap.size+1,2,none⟩=some (.int .i64 v'):=(HK2.out.below hbz HK2.out.lt).cell 2;have u3:W2.cell? ⟨w.heap.size+1,3,none⟩=some (.int .u8 c'):=(HK2.out.below hbz HK2.out.lt).cell 3;have s2:W2.cell? ⟨w.heap.size,2,none⟩=some (.int .i64 v):=(HK1.out.below hbz HK1.out.lt).cell 2;have t2:W2.cell? ⟨p2,0,none⟩=some (.map (some b2)):=HM2.out.c2.cell 0;clear hbz hkz hW2
                        go_upto_region 13 with (at_lookup; refine wpList_hit_V _ rfl _ _ 105 rfl 3 24 Tryz.underlying3 Tryz.underlying105 (zeroMu_run _) b2 (capN n) f2 rfl Hm2.out v rfl hwfv _ Hf.out ?_)
                        rw[HW2.out];clear x0 x1 x2 x3 x4 y0 y1 y2 y3 y4 z1 z2;have hw1:=Hw.out;go_wp2_with fail;go_ret;exact⟨rfl,HM2.out.mono (by omega),HGW.out.trans (GrewM.of_below Hbz.out)⟩
               case rest=>
                obtain⟨s1,hM1,hG1,hR1⟩:=hcut;obtain⟨W1,hW1⟩:∃ x,x=wc:=⟨_,rfl⟩;subst hW1;have HM1:=qq hM1;have HGX:=qq hG1;have HR:=qq hR1;clear hM1 hG1 hR1 x0 x1 x2 x3 x4 y0 y1 y2 y3 y4 z1 z2;go_upto_region 16 with fail;have hWs:=Hb.out.size;have HK1x:=qq (HGX.out.blk HK1.out (by omega) (by omega));have HK2x:=qq (HGX.out.blk HK2.out (by omega) (by omega));have hBW:=HGX.out.below HM.out.l1 HM.out.l2 HM.out.l0;have Htx:=qq (Ht.out.below hBW);have Hux:=qq (Hu.out.below hBW);have HC3x:=qq HM1.out.c3;have hp3:=HM1.out.pne.2.2;have HSZ:=qq HM1.out.l0;clear hBW;have x4:W1.cell? ⟨w.heap.size,4,none⟩=some (.slice A m cp):=HK1x.out.cell 4;go_wp2_with fail;clear x4
                go_loopg [101] m (fun gh i wr=>∃ (j:Nat) (sj:StM),j≤m∧gh=m - j∧i=.int .i64 (j:Nat)∧MSt wr B p1 p2 p3 b1 b2 (n+1+nodes.nodesL (l.take j)) sj∧GrewM b1 b2 W1 wr∧fitsK (fitsN N) l l' j sj=r)
                case atStart=>exact⟨0,_,Nat.zero_le _,rfl,rfl,by simpa[nodes.nodesL] using HM1.out,GrewM.refl _ _ _,HR.out⟩
                case round=>
                 obtain⟨j,sj,hj,rfl,rfl,hMj,hGj,hRj⟩:=hrel;have HMj:=qq hMj;have HGj:=qq hGj;have HRj:=qq hRj;clear hMj hGj hRj
                 by_cases hjm:j<m
                 · have d0:decide (j<m)=true:=by simpa using hjm
                   have hjl:j<l.length:=by omega
                   have hjl':j<l'.length:=by have:=Hmm.out; omega
                   have hjm':j<m':=by omega
                   obtain⟨bt,ot,rfl,lbt,hct⟩:=Htx.out.at_ (by omega);obtain⟨bu,ou,rfl,lbu,hcu⟩:=Hux.out.at_ (by omega);have q1:=hct j hjl;have q2:=hcu j hjl'
                   have hNj:nodes l[j]≤N:=by have h1:=nodes_mem (List.getElem_mem hjl); rw[nodes_eq] at hN; simp only[TyD.l] at hN; omega
                   have hmj:mayT l[j]=true:=mayT_kid hmay hjl
                   have htk:nodes.nodesL (l.take (j+1))=nodes.nodesL (l.take j)+nodes l[j]:=by rw[List.take_succ_eq_append_getElem hjl,nodesL_snoc]
                   have hle:nodes.nodesL (l.take (j+1))≤nodes.nodesL l:=nodesL_takeW l (j+1);obtain⟨τ,hτ⟩:∃ x,l[j]=x:=⟨_,rfl⟩;obtain⟨σ,hσ⟩:∃ x,l'[j]=x:=⟨_,rfl⟩;rw[hτ] at q1 hNj hmj htk;rw[hσ] at q2
                   have hnj:n+1+nodes.nodesL (l.take j)+nodes τ≤n+nodes (.mk k nn v c l):=by have:=Hnt.out; omega
                   obtain⟨⟨rb,rs⟩,hq⟩:∃ q,fitsN N τ σ sj=q:=⟨_,rfl⟩
                   have hstep:=fitsK_step (fitsN N) (b:=rb) (s':=rs) hjl hjl' (by rw[hτ,hσ]; exact hq)
                   rw[HRj.out] at hstep;rw[tyAt_iff] at q1 q2;obtain⟨a0,a1,a2,a3,At,mt,ct,a4,hT⟩:=q1;obtain⟨e0',e1',e2',e3',Au,mu,cu,e4',hU⟩:=q2
                   have HKS:Hid (∀ W',GrewM b1 b2 W1 W'→W'.cell? ⟨p3,0,none⟩=some (.func (.func 123) #[] #[.pointer (some ⟨p1,0,none⟩),.pointer (some ⟨p2,0,none⟩),.pointer (some ⟨p3,0,none⟩)])∧W'.cell? ⟨w.heap.size,4,none⟩=some (.slice (some ⟨bt,ot,none⟩) m cp)∧W'.cell? ⟨bt,ot+j * 5,none⟩=some (.int .u8 τ.k)∧W'.cell? ⟨bt,ot+j * 5+1,none⟩=some (.int .i64 τ.n)∧W'.cell? ⟨bt,ot+j * 5+2,none⟩=some (.int .i64 τ.v)∧W'.cell? ⟨bt,ot+j * 5+3,none⟩=some (.int .u8 τ.c)∧W'.cell? ⟨bt,ot+j * 5+4,none⟩=some (.slice At mt ct)∧W'.cell? ⟨w.heap.size+1,4,none⟩=some (.slice (some ⟨bu,ou,none⟩) m' cp')∧W'.cell? ⟨bu,ou+j * 5,none⟩=some (.int .u8 σ.k)∧W'.cell? ⟨bu,ou+j * 5+1,none⟩=some (.int .i64 σ.n)∧W'.cell? ⟨bu,ou+j * 5+2,none⟩=some (.int .i64 σ.v)∧W'.cell? ⟨bu,ou+j * 5+3,none⟩=some (.int .u8 σ.c)∧W'.cell? ⟨bu,ou+j * 5+4,none⟩=some (.slice Au mu cu)):=qq fun W' hW'=>by
                    have hB':=hW'.below HM.out.l1 HM.out.l2 HSZ.out;exact⟨(hW'.blk HC3x.out hp3.1 hp3.2).cell 0,(hW'.blk HK1x.out (by omega) (by omega)).cell 4,(hB'.cell (p:=⟨bt,ot+j * 5,none⟩) lbt).trans a0,(hB'.cell (p:=⟨bt,ot+j * 5+1,none⟩) lbt).trans a1,(hB'.cell (p:=⟨bt,ot+j * 5+2,none⟩) lbt).trans a2,(hB'.cell (p:=⟨bt,ot+j * 5+3,none⟩) lbt).trans a3,(hB'.cell (p:=⟨bt,ot+j * 5+4,none⟩) lbt).trans a4,(hW'.blk HK2x.out (by omega) (by omega)).cell 4,(hB'.cell (p:=⟨bu,ou+j * 5,none⟩) lbu).trans e0',(hB'.cell (p:=⟨bu,ou+j * 5+1,none⟩) lbu).trans e1',(hB'.cell (p:=⟨bu,ou+j * 5+2,none⟩) lbu).trans e2',(hB'.cell (p:=⟨bu,ou+j * 5+3,none⟩) lbu).trans e3',(hB'.cell (p:=⟨bu,ou+j * 5+4,none⟩) lbu).trans e4'⟩
                   have hBj:=HGj.out.below HM.out.l1 HM.out.l2 HSZ.out;have HT:=qq (hT.below hBj);have HU:=qq (hU.below hBj);have Hq:=qq hq;have Htk:=qq htk
                   have j1:(0:Int)≤(j:Int):=by omega
                   have j2:(j:Int)<m:=by omega
                   have j3:(j:Int)<m':=by omega
                   have Hstep:=qq hstep;clear hct hcu a0 a1 a2 a3 a4 e0' e1' e2' e3' e4' hT hU hBj hq htk hτ hσ hstep hle
                   cases rb with
                   | false=>
                     go_upto_region 19 with fail;refine wp_region_noPanic ?_
                     refine wp_region_T (fun W'=>W'.cell? ⟨p3,0,none⟩=some (.func (.func 123) #[] #[.pointer (some ⟨p1,0,none⟩),.pointer (some ⟨p2,0,none⟩),.pointer (some ⟨p3,0,none⟩)])∧W'.cell? ⟨w.heap.size,4,none⟩=some (.slice (some ⟨bt,ot,none⟩) m cp)∧W'.cell? ⟨bt,ot+j * 5,none⟩=some (.int .u8 τ.k)∧W'.cell? ⟨bt,ot+j * 5+1,none⟩=some (.int .i64 τ.n)∧W'.cell? ⟨bt,ot+j * 5+2,none⟩=some (.int .i64 τ.v)∧W'.cell? ⟨bt,ot+j * 5+3,none⟩=some (.int .u8 τ.c)∧W'.cell? ⟨bt,ot+j * 5+4,none⟩=some (.slice At mt ct)∧W'.cell? ⟨w.heap.size+1,4,none⟩=some (.slice (some ⟨bu,ou,none⟩) m' cp')∧W'.cell? ⟨bu,ou+j * 5,none⟩=some (.int .u8 σ.k)∧W'.cell? ⟨bu,ou+j * 5+1,none⟩=some (.int .i64 σ.n)∧W'.cell? ⟨bu,ou+j * 5+2,none⟩=some (.int .i64 σ.v)∧W'.cell? ⟨bu,ou+j * 5+3,none⟩=some (.int .u8 σ.c)∧W'.cell? ⟨bu,ou+j * 5+4,none⟩=some (.slice Au mu cu)) 13 (by kernel_rfl) (HKS.out _ HGj.out.drew) (fun hHeld=>?_)
                     have hMD:=HMj.out.drew;have hGD:=HGj.out.drew;have hTD:TysV wr.drew B At mt ct τ.l:=HT.out.below (Below.drew (Below.refl B wr));have hUD:TysV wr.drew B Au mu cu σ.l:=HU.out.below (Below.drew (Below.refl B wr));generalize wr.drew=W0 at hHeld hMD hGD hTD hUD ⊢;refine nx0 0 ?_
                     iterate 11 (refine nx (v:=?_) rfl (by kernel_rfl) (fun _ _ _ h=>h) (by rfl) ?_ (by assumption) ?_; rotate_left; focus (intro w hSw; (try dsimp only at hSw); first | (go_simp; done) | (go_simp; with_reducible rfl)); try simp only[Act.put,qg,qe,qf,qd,qh,qi,Nat.reduceAdd])
                     refine nx9 ?_;clear hHeld;refine wpAnyT_step (i:=11) (by kernel_rfl) rfl (fun K hK=>?_)
                     (go_simp; refine(ih τ σ hNj hmj At mt ct Au mu cu W0 B p1 p2 p3 b1 b2 (n+1+nodes.nodesL (l.take j)) sj hTD hUD hMD).mono ?_; rw[Hq.out]; rintro e W9 ⟨rfl,hM9,hG9'⟩; have hG9:=hGD.trans hG9'; clear hG9')
                     refine hK.out _ _ (HKS.out _ hG9) ?_;clear hK K
                     try simp only[Act.put,qg,qe,qf,qd,qh,qi]
                     have hHeld:=HKS.out _ hG9
                     refine wpAnyT_take (i:=12) (v:=?_) rfl (by kernel_rfl) (by kernel_rfl) (by kernel_rfl) (by kernel_rfl) (fun _ _ _ h=>h) (Or.inl ⟨by rfl,?_⟩) (by assumption) ?_
                     rotate_left
                     · (intro w hSw; (try dsimp only at hSw); first | (go_simp; done) | (go_simp; with_reducible rfl))
                     try simp only[Act.put,qg,qe,qf,qd,qh,qi]
                     have HM9:=qq hM9;have HG9:=qq hG9;clear hHeld hM9 hG9 hGD hMD hTD hUD;refine wpAnyT_seq 13 (by omega) (by rfl) (by kernel_rfl) ?_;simp only[List.drop_succ_cons,List.drop_zero];go_wp2_with fail;refine NoPanic.normal ?_;go_wp2_with fail;go_ret;have hr:r=(false,rs):=Hstep.out;rw[hr];exact⟨rfl,HM9.out.mono hnj,(HGW.out.trans HGX.out).trans HG9.out⟩
                   | true=>
                     go_upto_region 19 with fail;refine wp_region_noPanic ?_
                     refine wp_region_T (fun W'=>W'.cell? ⟨p3,0,none⟩=some (.func (.func 123) #[] #[.pointer (some ⟨p1,0,none⟩),.pointer (some ⟨p2,0,none⟩),.pointer (some ⟨p3,0,none⟩)])∧W'.cell? ⟨w.heap.size,4,none⟩=some (.slice (some ⟨bt,ot,none⟩) m cp)∧W'.cell? ⟨bt,ot+j * 5,none⟩=some (.int .u8 τ.k)∧W'.cell? ⟨bt,ot+j * 5+1,none⟩=some (.int .i64 τ.n)∧W'.cell? ⟨bt,ot+j * 5+2,none⟩=some (.int .i64 τ.v)∧W'.cell? ⟨bt,ot+j * 5+3,none⟩=some (.int .u8 τ.c)∧W'.cell? ⟨bt,ot+j * 5+4,none⟩=some (.slice At mt ct)∧W'.cell? ⟨w.heap.size+1,4,none⟩=some (.slice (some ⟨bu,ou,none⟩) m' cp')∧W'.cell? ⟨bu,ou+j * 5,none⟩=some (.int .u8 σ.k)∧W'.cell? ⟨bu,ou+j * 5+1,none⟩=some (.int .i64 σ.n)∧W'.cell? ⟨bu,ou+j * 5+2,none⟩=some (.int .i64 σ.v)∧W'.cell? ⟨bu,ou+j * 5+3,none⟩=some (.int .u8 σ.c)∧W'.cell? ⟨bu,ou+j * 5+4,none⟩=some (.slice Au mu cu)) 13 (by kernel_rfl) (HKS.out _ HGj.out.drew) (fun hHeld=>?_)
                     have hMD:=HMj.out.drew;have hGD:=HGj.out.drew;have hTD:TysV wr.drew B At mt ct τ.l:=HT.out.below (Below.drew (Below.refl B wr));have hUD:TysV wr.drew B Au mu cu σ.l:=HU.out.below (Below.drew (Below.refl B wr));generalize wr.drew=W0 at hHeld hMD hGD hTD hUD ⊢;refine nx0 0 ?_
                     iterate 11 (refine nx (v:=?_) rfl (by kernel_rfl) (fun _ _ _ h=>h) (by rfl) ?_ (by assumption) ?_; rotate_left; focus (intro w hSw; (try dsimp only at hSw); first | (go_simp; done) | (go_simp; with_reducible rfl)); try simp only[Act.put,qg,qe,qf,qd,qh,qi,Nat.reduceAdd])
                     refine nx9 ?_;clear hHeld;refine wpAnyT_step (i:=11) (by kernel_rfl) rfl (fun K hK=>?_)
                     (go_simp; refine(ih τ σ hNj hmj At mt ct Au mu cu W0 B p1 p2 p3 b1 b2 (n+1+nodes.nodesL (l.take j)) sj hTD hUD hMD).mono ?_; rw[Hq.out]; rintro e W9 ⟨rfl,hM9,hG9'⟩; have hG9:=hGD.trans hG9'; clear hG9')
                     refine hK.out _ _ (HKS.out _ hG9) ?_;clear hK K
                     try simp only[Act.put,qg,qe,qf,qd,qh,qi]
                     have hHeld:=HKS.out _ hG9
                     refine wpAnyT_take (i:=12) (v:=?_) rfl (by kernel_rfl) (by kernel_rfl) (by kernel_rfl) (by kernel_rfl) (fun _ _ _ h=>h) (Or.inl ⟨by rfl,?_⟩) (by assumption) ?_
                     rotate_left
                     · (intro w hSw; (try dsimp only at hSw); first | (go_simp; done) | (go_simp; with_reducible rfl))
                     try simp only[Act.put,qg,qe,qf,qd,qh,qi]
                     have HM9:=qq hM9;have HG9:=qq hG9;clear hHeld hM9 hG9 hGD hMD hTD hUD;refine wpAnyT_seq 13 (by omega) (by rfl) (by kernel_rfl) ?_;simp only[List.drop_succ_cons,List.drop_zero];go_wp2_with fail;refine NoPanic.normal ?_;go_wp2_with fail;go_roundg (m - (j+1))
                     case measure=>omega
                     case rel=>exact⟨j+1,rs,by omega,rfl,by simp,by rw[Htk.out,← Nat.add_assoc]; exact HM9.out,HG9.out,Hstep.out.symm⟩
                 · have d0:decide (j<m)=false:=by simpa using hjm
                   have hr:r=(true,sj):=by rw[← HRj.out]; exact fitsK_end _ _ (by omega)
                   have hnj:n+1+nodes.nodesL (l.take j)≤n+nodes (.mk k nn v c l):=by have:=nodesL_takeW l j; have:=Hnt.out; omega
                   have HRr:=qq hr;clear hr;go_wp2_with fail;go_ret;rw[HRr.out];exact⟨rfl,HMj.out.mono hnj,(HGW.out.trans HGX.out).trans HGj.out⟩
         · obtain rfl:(false,s)=r:=(fitsN_head (t:=.mk k nn v c l) (u:=.mk k' n' v' c' l') h1 (by unfold headB; simp[TyD.k,TyD.n,TyD.l,hl,hl',h4])).symm.trans Hr.out
           have e4:((m:Int) != (m':Int))=true:=by simp; omega
           clear h4 h2 h3
           go_enter Tryz.func123,Tryz.ntmps123
           go_upto_region 1 with fail;rw[HW.out];have x0:W.cell? ⟨w.heap.size,0,none⟩=some (.int .u8 k):=HK1.out.cell 0;have x1:W.cell? ⟨w.heap.size,1,none⟩=some (.int .i64 nn):=HK1.out.cell 1;have x2:W.cell? ⟨w.heap.size,2,none⟩=some (.int .i64 v):=HK1.out.cell 2;have x3:W.cell? ⟨w.heap.size,3,none⟩=some (.int .u8 c):=HK1.out.cell 3;have x4:W.cell? ⟨w.heap.size,4,none⟩=some (.slice A m cp):=HK1.out.cell 4;have y0:W.cell? ⟨w.heap.size+1,0,none⟩=some (.int .u8 k'):=HK2.out.cell 0;have y1:W.cell? ⟨w.heap.size+1,1,none⟩=some (.int .i64 n'):=HK2.out.cell 1;have y2:W.cell? ⟨w.heap.size+1,2,none⟩=some (.int .i64 v'):=HK2.out.cell 2;have y3:W.cell? ⟨w.heap.size+1,3,none⟩=some (.int .u8 c'):=HK2.out.cell 3;have y4:W.cell? ⟨w.heap.size+1,4,none⟩=some (.slice A' m' cp'):=HK2.out.cell 4;have z1:W.cell? ⟨p1,0,none⟩=some (.map (some b1)):=HM.out.c1.cell 0;have z2:W.cell? ⟨p2,0,none⟩=some (.map (some b2)):=HM.out.c2.cell 0;go_wp2_with fail;go_ret;exact⟨rfl,HM.out.mono (by omega),GrewM.of_below Hb.out⟩
       · obtain rfl:(false,s)=r:=(fitsN_head (t:=.mk k nn v c l) (u:=.mk k' n' v' c' l') h1 (by unfold headB; simp[TyD.k,TyD.n,h3])).symm.trans Hr.out
         have e3:(nn != n')=true:=by simpa using h3
         clear h3 h2
         go_enter Tryz.func123,Tryz.ntmps123
         go_upto_region 1 with fail;rw[HW.out];have x0:W.cell? ⟨w.heap.size,0,none⟩=some (.int .u8 k):=HK1.out.cell 0;have x1:W.cell? ⟨w.heap.size,1,none⟩=some (.int .i64 nn):=HK1.out.cell 1;have x2:W.cell? ⟨w.heap.size,2,none⟩=some (.int .i64 v):=HK1.out.cell 2;have x3:W.cell? ⟨w.heap.size,3,none⟩=some (.int .u8 c):=HK1.out.cell 3;have x4:W.cell? ⟨w.heap.size,4,none⟩=some (.slice A m cp):=HK1.out.cell 4;have y0:W.cell? ⟨w.heap.size+1,0,none⟩=some (.int .u8 k'):=HK2.out.cell 0;have y1:W.cell? ⟨w.heap.size+1,1,none⟩=some (.int .i64 n'):=HK2.out.cell 1;have y2:W.cell? ⟨w.heap.size+1,2,none⟩=some (.int .i64 v'):=HK2.out.cell 2;have y3:W.cell? ⟨w.heap.size+1,3,none⟩=some (.int .u8 c'):=HK2.out.cell 3;have y4:W.cell? ⟨w.heap.size+1,4,none⟩=some (.slice A' m' cp'):=HK2.out.cell 4;have z1:W.cell? ⟨p1,0,none⟩=some (.map (some b1)):=HM.out.c1.cell 0;have z2:W.cell? ⟨p2,0,none⟩=some (.map (some b2)):=HM.out.c2.cell 0;go_wp2_with fail;go_ret;exact⟨rfl,HM.out.mono (by omega),GrewM.of_below Hb.out⟩
     · obtain rfl:(false,s)=r:=(fitsN_head (t:=.mk k nn v c l) (u:=.mk k' n' v' c' l') h1 (by unfold headB; simp[TyD.k,h2])).symm.trans Hr.out
       have e2:(k != k')=true:=by simpa using h2
       clear h2
       go_enter Tryz.func123,Tryz.ntmps123
       go_upto_region 1 with fail;rw[HW.out];have x0:W.cell? ⟨w.heap.size,0,none⟩=some (.int .u8 k):=HK1.out.cell 0;have x1:W.cell? ⟨w.heap.size,1,none⟩=some (.int .i64 nn):=HK1.out.cell 1;have x2:W.cell? ⟨w.heap.size,2,none⟩=some (.int .i64 v):=HK1.out.cell 2;have x3:W.cell? ⟨w.heap.size,3,none⟩=some (.int .u8 c):=HK1.out.cell 3;have x4:W.cell? ⟨w.heap.size,4,none⟩=some (.slice A m cp):=HK1.out.cell 4;have y0:W.cell? ⟨w.heap.size+1,0,none⟩=some (.int .u8 k'):=HK2.out.cell 0;have y1:W.cell? ⟨w.heap.size+1,1,none⟩=some (.int .i64 n'):=HK2.out.cell 1;have y2:W.cell? ⟨w.heap.size+1,2,none⟩=some (.int .i64 v'):=HK2.out.cell 2;have y3:W.cell? ⟨w.heap.size+1,3,none⟩=some (.int .u8 c'):=HK2.out.cell 3;have y4:W.cell? ⟨w.heap.size+1,4,none⟩=some (.slice A' m' cp'):=HK2.out.cell 4;have z1:W.cell? ⟨p1,0,none⟩=some (.map (some b1)):=HM.out.c1.cell 0;have z2:W.cell? ⟨p2,0,none⟩=some (.map (some b2)):=HM.out.c2.cell 0;go_wp2_with fail;go_ret;exact⟨rfl,HM.out.mono (by omega),GrewM.of_below Hb.out⟩
end Go.Proofs.YtdmakpmbknindaaGreatDoor
