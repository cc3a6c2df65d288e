import Derived.Test.YtdmakpmbknindaaGreatDoorM38
import Derived.Test.YtdmakpmbknindaaGreatDoorM26
import Derived.Test.YtdmakpmbknindaaGreatDoorM1
namespace Go.Proofs.YtdmakpmbknindaaGreatDoor
set_option linter.unusedVariables false
set_option linter.unusedSimpArgs false
open Go.RowKit
theorem pin_form {K:Nat} {t:TabD} (h:RngT K t):∀ i,i<K→(1≤(pinP t i).2∨∃ j:Nat,j≤i∧pinP t i=(((j:Nat):Int),0)):=by
 intro i
 induction i using Nat.strongRecOn with
 | ind i ih=>
   intro hi
   by_cases hl:t.low.getD i 0=t.up.getD i 0
   · have e:pinP t i=(0,t.low.getD i 0):=by unfold pinP pinY; rw[if_pos hl]
     rw[e];exact .inl (h.low i hi).1
   · rcases pinY_find (out:=pinL t i) (k:=i) hl with ⟨j,hj,hs,e⟩ | ⟨_,e⟩
     · have e':pinP t i=pinP t j:=by unfold pinP; rw[e,pinL_at t i j hj]; rfl
       rw[e']
       rcases ih j hj (by omega) with q | ⟨j',q1,q2⟩
       · exact .inl q
       · exact .inr ⟨j',by omega,q2⟩
     · exact .inr ⟨i,Nat.le_refl _,e⟩
theorem pin_out {K:Nat} {t:TabD} (h:RngT K t) {i j:Nat} (hi:i≤K) (hj:j<i):(pinL t i).getD j (0,0)≠(((i:Nat):Int),0):=by
 rw[pinL_at t i j hj];intro e
 rcases pin_form h j (by omega) with q | ⟨j',q1,q2⟩
 · rw[e] at q
   have q:(1:Int)≤0:=q;omega
 · rw[e] at q2
   injection q2 with q2 _
   omega
theorem pinY_step {K:Nat} {t:TabD} (h:RngT K t) {i j:Nat} (hi:i<K) (hj:j<i):pinY t (pinL t i) i (j+1)=if pinY t (pinL t i) i j=(((i:Nat):Int),0)∧sameP t i j=true then (pinL t i).getD j (0,0) else pinY t (pinL t i) i j:=by
 by_cases hl:t.low.getD i 0=t.up.getD i 0
 · have e:∀ k,pinY t (pinL t i) i k=(0,t.low.getD i 0):=fun k=>by unfold pinY; rw[if_pos hl]
   have:=(h.low i hi).1;rw[e,e,if_neg];rintro⟨h1,_⟩
   injection h1 with _ h1
   omega
 · have e:pinY t (pinL t i) i (j+1)=match (match (List.range j).find? (sameP t i) with
    | some k=>some k
    | none=>[j].find? (sameP t i)) with
    | some k=>(pinL t i).getD k (0,0)
    | none=>(((i:Nat):Int),0):=by
    unfold pinY;rw[if_neg hl,List.range_succ,List.find?_append]
    cases (List.range j).find? (sameP t i) <;> rfl
   rw[e]
   cases hf:(List.range j).find? (sameP t i) with
   | some k=>
     have e2:pinY t (pinL t i) i j=(pinL t i).getD k (0,0):=by unfold pinY; rw[if_neg hl,hf]
     have hk:=List.mem_range.1 (List.mem_of_find?_eq_some hf);rw[e2,if_neg (fun hh=>pin_out h (by omega) (by omega) hh.1)]
   | none=>
     have e2:pinY t (pinL t i) i j=(((i:Nat):Int),0):=by unfold pinY; rw[if_neg hl,hf]
     rw[e2]
     cases hs:sameP t i j with
     | true=>simp[hs]
     | false=>simp[hs]
theorem pinY_zero {t:TabD} {out:List (Int × Int)} {i:Nat}:pinY t out i 0=if t.low.getD i 0=t.up.getD i 0 then (0,t.low.getD i 0) else (((i:Nat):Int),0):=by
 unfold pinY;rfl
theorem muInfoP:(Tryz.prog.info? 24).map (fun i=>(i.zero,i.size,i.bytes))=some (some (.agg #[.int .i64 0,.int .u8 0]),2,16):=by kernel_rfl
theorem grown_set (w:World) (bx i:Nat) (u:Value):w.grownBy (w.setCell ⟨bx,i,none⟩ u) (some bx):=
 ⟨rfl,rfl,rfl,by simp[World.setCell],fun k hk hne=>by
  have:¬ bx=k:=fun e=>hne (by rw[e])
  simp[World.setCell,Array.getElem?_modify,this]⟩
def set2 (w:World) (b:Nat) (v0 v1:Value):World:=(w.setCell ⟨b,0,none⟩ v0).setCell ⟨b,1,none⟩ v1
theorem set2_blk {w:World} {b:Nat} {t:TypeId} {x0 x1:Value} (h:Blk w b t #[x0,x1]) (v0 v1:Value):Blk (set2 w b v0 v1) b t #[v0,v1]:=by
 have hh:=(h.set_ 0 v0).set_ 1 v1;simp only[qd,qh,qi] at hh;exact hh
theorem set2_in (w:World) (b:Nat) (v0 v1:Value):SetIn b w (set2 w b v0 v1):=((SetIn.refl b w).set 0 v0).set 1 v1
theorem set2_own {w:World} {b:Nat} {base:Nat} {e:TypeId} {size:Nat} {v:Value} {n:Nat} {xs:List Value} (h:w.ownsRow base e size v n xs) (hne:v.ownBlock≠some b) (v0 v1:Value):(set2 w b v0 v1).ownsRow base e size v n xs:=
 (h.kept (grown_set w b 0 v0) (.inr hne)).kept (grown_set _ b 1 v1) (.inr hne)
structure PinSt (t:TabD) (W:World) (gx i j:Nat) (A:Option Addr) (c:Nat) (wq:World):Prop where
 x:Blk wq gx 24 #[.int .i64 (pinY t (pinL t i) i j).1,.int .u8 (pinY t (pinL t i) i j).2]
 own:wq.ownsRow W.heap.size 24 2 (.slice A i c) i (muC (pinL t i))
 bel:Below W.heap.size W wq
theorem PinSt.set {t:TabD} {W:World} {gx i j:Nat} {A:Option Addr} {c:Nat} {wq:World} (h:PinSt t W gx i j A c wq) (hg:W.heap.size≤gx) (hne:(Value.slice A i c).ownBlock≠some gx) (q:Int × Int) (he:q=pinY t (pinL t i) i (j+1)):PinSt t W gx i (j+1) A c (set2 wq gx (.int .i64 q.1) (.int .u8 q.2)):=
 ⟨by rw[← he]; exact set2_blk h.x _ _,set2_own h.own hne _ _,(set2_in wq gx _ _).bel _ _ hg hg h.bel⟩
theorem PinSt.stay {t:TabD} {W:World} {gx i j:Nat} {A:Option Addr} {c:Nat} {wq:World} (h:PinSt t W gx i j A c wq) (he:pinY t (pinL t i) i (j+1)=pinY t (pinL t i) i j):PinSt t W gx i (j+1) A c wq:=
 ⟨by rw[he]; exact h.x,h.own,h.bel⟩
structure TabAt (t:TabD) (K gt:Nat) (W:World) (c1 c2 c3:Nat) (b1 o1 b2 o2 b3 o3:Nat):Prop where
 t1:∀ W',Below W.heap.size W W'→W'.cell? ⟨gt,1,none⟩=some (.slice (some ⟨b2,o2,none⟩) K c2)
 t2:∀ W',Below W.heap.size W W'→W'.cell? ⟨gt,2,none⟩=some (.slice (some ⟨b3,o3,none⟩) K c3)
 lo:∀ i,i<K→∀ W',Below W.heap.size W W'→W'.cell? ⟨b1,o1+i,none⟩=some (.int .u8 (t.low.getD i 0))
 up:∀ i,i<K→∀ W',Below W.heap.size W W'→W'.cell? ⟨b2,o2+i,none⟩=some (.int .u8 (t.up.getD i 0))
 row:∀ i,i<K→∃ b o c,∀ W',Below W.heap.size W W'→W'.cell? ⟨b3,o3+i,none⟩=some (.slice (some ⟨b,o,none⟩) K c)∧∀ j,j<K→W'.cell? ⟨b,o+j,none⟩=some (.int .u8 (pairE t i j))
theorem tabAt_of {K:Nat} {t:TabD} (hok:OkTab K t) (hK:0<K) {W:World} {gt:Nat} {A1 A2 A3:Option Addr} {c1 c2 c3:Nat} (hk:Blk W gt 38 #[.slice A1 K c1,.slice A2 K c2,.slice A3 K c3]) (r1:RdI .u8 W W.heap.size A1 K c1 t.low) (r2:RdI .u8 W W.heap.size A2 K c2 t.up) (r3:MssV W W.heap.size A3 K c3 t.pair):
 ∃ b1 o1 b2 o2 b3 o3,A1=some ⟨b1,o1,none⟩∧A2=some ⟨b2,o2,none⟩∧A3=some ⟨b3,o3,none⟩∧TabAt t K gt W c1 c2 c3 b1 o1 b2 o2 b3 o3:=by
 obtain⟨b1,o1,rfl,l1,h1⟩:=r1.at_ hK;obtain⟨b2,o2,rfl,l2,h2⟩:=r2.at_ hK;obtain⟨b3,o3,rfl,l3,h3⟩:=r3.2.2.2 hK;refine⟨b1,o1,b2,o2,b3,o3,rfl,rfl,rfl,fun W' hW=>(hk.below hW hk.lt).cell 1,fun W' hW=>(hk.below hW hk.lt).cell 2,fun i hi W' hW=>?_,fun i hi W' hW=>?_,fun i hi=>?_⟩
 · have hi':i<t.low.length:=by rw[hok.ll]; exact hi
   rw[getE_at hi'];exact(hW.cell (p:=⟨b1,o1+i,none⟩) l1).trans (h1 i hi')
 · have hi':i<t.up.length:=by rw[hok.ul]; exact hi
   rw[getE_at hi'];exact(hW.cell (p:=⟨b2,o2+i,none⟩) l2).trans (h2 i hi')
 · have hi':i<t.pair.length:=by rw[hok.pl]; exact hi
   obtain⟨A',c',e0,hr⟩:=h3 i hi';have hl:=(hok.np t.pair[i] (List.getElem_mem hi')).1;rw[hl] at e0 hr;obtain⟨b,o,rfl,l,hc⟩:=hr.at_ hK;refine⟨b,o,c',fun W' hW=>⟨(hW.cell (p:=⟨b3,o3+i,none⟩) l3).trans e0,fun j hj=>?_⟩⟩
   have hj':j<t.pair[i].length:=by rw[hl]; exact hj
   have e1:pairE t i j=t.pair[i][j]:=by
    unfold pairE;rw[List.getD_eq_getElem?_getD (l:=t.pair),qj hi',Option.getD_some,getE_at hj']
   rw[e1];exact(hW.cell (p:=⟨b,o+j,none⟩) l).trans (hc j hj')
set_option maxRecDepth 100000 in
set_option maxHeartbeats 4000000 in
theorem pinned_any {K:Nat} {t:TabD} (hok:OkTab K t) (v:Value) (w:World) (hv:TabV w w.heap.size v t):
 Calls Tryz.prog 93 #[v] w fun e w'=>∃ A n c,e=.returned (.slice A n c)∧MusV w' w'.heap.size A n c (pinL t K)∧Below w.heap.size w w':=by
 obtain⟨A1,c1,A2,c2,A3,c3,rfl,r1,r2,r3⟩:=hv;obtain⟨i0,hi0,hz0,hz1,hz2⟩:=info_parts muInfoP;have hk150:=hok.k150;have ll:=hok.ll;have ul:=hok.ul;have pl:=hok.pl;rw[ll] at r1 ⊢;rw[ul] at r2 ⊢;rw[pl] at r3 ⊢;obtain⟨W,hW⟩:∃ W,w.alloc (Obj.cells #[.slice A1 K c1,.slice A2 K c2,.slice A3 K c3] 38)=W:=⟨_,rfl⟩
 have hb:Below w.heap.size w W:=by rw[← hW]; exact below_box _
 have hkt:Blk W w.heap.size 38 #[.slice A1 K c1,.slice A2 K c2,.slice A3 K c3]:=by rw[← hW]; exact blk_new w _ _
 have q1:=r1.freshM hb;have q2:=r2.freshM hb;have q3:=r3.fresh hb;have t0:=hkt.cell 0;simp only[qc,qb,qa] at t0;have HW:=qq hW;have Hb:=qq hb;have Hrng:=qq hok.rng
 by_cases hK0:K=0
 · subst hK0
   clear hW hb hkt q1 q2 q3 r1 r2 r3 ll ul pl hok
   go_enter Tryz.func93,Tryz.ntmps93
   go_upto_region 1 with fail;rw[HW.out];go_wp2_with fail
   go_loopg [3,11] 0 (fun gh s3 i wr=>s3=.slice none 0 0∧i=.int .i64 0∧wr=W)
   case atStart=>exact⟨rfl,rfl,rfl⟩
   case round=>
    obtain⟨rfl,rfl,rfl⟩:=hrel;go_wp2_with fail;go_ret;exact⟨none,0,0,rfl,⟨rfl,Nat.le_refl _,Nat.zero_le _,fun h=>absurd h (by omega)⟩,Hb.out⟩
 · obtain⟨b1,o1,b2,o2,b3,o3,rfl,rfl,rfl,hT⟩:=tabAt_of hok (by omega) hkt q1 q2 q3
   have HT:=qq hT;clear hW hb hkt q1 q2 q3 r1 r2 r3 hT ll ul pl hok
   go_enter Tryz.func93,Tryz.ntmps93
   go_upto_region 1 with fail;rw[HW.out];go_wp2_with fail;clear t0
   go_loopg [3,11] K (fun gh s3 i wr=>∃ (k:Nat) (A:Option Addr) (c:Nat),k≤K∧gh=K - k∧s3=.slice A k c∧i=.int .i64 (k:Nat)∧wr.ownsRow W.heap.size 24 2 (.slice A k c) k (muC (pinL t k))∧Below W.heap.size W wr)
   case atStart=>exact⟨0,none,0,Nat.zero_le _,rfl,rfl,rfl,World.ownsRow_nil _ _ _ _,Below.refl _ _⟩
   case round=>
    obtain⟨i,A,c,hiK,rfl,rfl,rfl,hown,hbel⟩:=hrel
    by_cases hi:i<K
    · have di:decide (i<K)=true:=by simpa using hi
      have i1:(0:Int)≤(i:Int):=by omega
      have i2:(i:Int)<(K:Int):=by omega
      have hkV:=blk_new wr #[.int .i64 (i:Nat),.int .u8 0] 24;have hbV:=below_box (w:=wr) (Obj.cells #[.int .i64 (i:Nat),.int .u8 0] 24);obtain⟨gx,hgx'⟩:∃ g,wr.heap.size=g:=⟨_,rfl⟩
      have hgx:W.heap.size≤gx:=by rw[← hgx']; exact hbel.size
      have hne:(Value.slice A i c).ownBlock≠some gx:=fun e=>by
       have:=(ownsRow_lt hown e).2;omega
      have Hne:=qq hne;obtain⟨V,hV⟩:∃ x,wr.alloc (Obj.cells #[.int .i64 (i:Nat),.int .u8 0] 24)=x:=⟨_,rfl⟩;rw[hV,hgx'] at hkV;rw[hV] at hbV;have hownV:=ownsRow_beyond hown hbV;have hbelV:=hbel.trans (hbV.mono hbel.size);have HV:=qq hV;have HkV:=qq hkV;have HownV:=qq hownV;have HbelV:=qq hbelV;have u0:=HT.out.lo i hi wr hbel;have u1:=HT.out.up i hi V hbelV;have s1:=HT.out.t1 V hbelV;obtain⟨y1,hy1⟩:∃ y,t.low.getD i 0=y:=⟨_,rfl⟩;obtain⟨y2,hy2⟩:∃ y,t.up.getD i 0=y:=⟨_,rfl⟩;rw[hy1] at u0;rw[hy2] at u1
      have hz:pinY t (pinL t i) i 0=if y1=y2 then ((0:Int),y1) else (((i:Nat):Int),(0:Int)):=by rw[pinY_zero,hy1,hy2]
      have Hz:=qq hz;clear hkV hbV hV hownV hbelV hown hbel hne hy1 hy2 hz;go_upto_region 6 with fail;rw[HV.out];clear hgx'
      by_cases hl:y1=y2
      · have d1:(y1==y2)=true:=by simpa using hl
        have f0:=HkV.out.frozen 0;have f1:=HkV.out.frozen 1;have hx0:V.cell? ⟨gx,0,none⟩=some (.int .i64 (i:Int)):=HkV.out.cell 0;have hx1:V.cell? ⟨gx,1,none⟩=some (.int .u8 0):=HkV.out.cell 1
        have hst:PinSt t W gx i 0 A c (set2 V gx (.int .i64 0) (.int .u8 y1)):=⟨by rw[Hz.out,if_pos hl]; exact set2_blk HkV.out _ _,set2_own HownV.out Hne.out _ _,(set2_in V gx _ _).bel _ _ hgx hgx HbelV.out⟩
        have Hst:=qq hst;clear hst hl;go_upto_region 8 with fail;show Code.wp _ _ _ _ (set2 V gx (.int .i64 0) (.int .u8 y1));clear hx0 hx1 f0 f1 d1 u0 u1 s1;generalize set2 V gx (.int .i64 0) (.int .u8 y1)=V2 at Hst ⊢;go_wp2_with fail
        go_loopg [28] i (fun gh s28 wQ=>∃ (j:Nat),j≤i∧gh=i - j∧s28=.int .i64 (j:Nat)∧PinSt t W gx i j A c wQ)
        case atStart=>exact⟨0,Nat.zero_le _,rfl,rfl,Hst.out⟩
        case round=>
         obtain⟨j,hj,rfl,rfl,hst⟩:=hrel;have Hsj:=qq hst;clear hst
         by_cases hji:j<i
         · have dj:decide (j<i)=true:=by simpa using hji
           have hjK:j<K:=by omega
           have hstep:=pinY_step Hrng.out hi hji;have hx0:=Hsj.out.x.cell 0;have hx1:=Hsj.out.x.cell 1;simp only[qc,qb,qa] at hx0 hx1
           have j1:(0:Int)≤(j:Int):=by omega
           have j2:(j:Int)<(i:Int):=by omega
           have j3:(j:Int)<(K:Int):=by omega
           have e2:=HT.out.t2 wr Hsj.out.bel;obtain⟨ba,oa,ca,hra⟩:=HT.out.row i hi;obtain⟨bb,ob,cb,hrb⟩:=HT.out.row j hjK;have ra0:=(hra wr Hsj.out.bel).1;have ra1:=(hra wr Hsj.out.bel).2 j hjK;have rb0:=(hrb wr Hsj.out.bel).1;have rb1:=(hrb wr Hsj.out.bel).2 i hi;obtain⟨z1,hz1'⟩:∃ z,pairE t i j=z:=⟨_,rfl⟩;obtain⟨z2,hz2'⟩:∃ z,pairE t j i=z:=⟨_,rfl⟩
           have hsm:sameP t i j=(z1==1&&z2==1):=by unfold sameP; rw[hz1',hz2']
           rw[hz1'] at ra1;rw[hz2'] at rb1;obtain⟨p,hp⟩:∃ p,pinY t (pinL t i) i j=p:=⟨_,rfl⟩;rw[hp] at hx0 hx1 hstep;have Hp:=qq hp;have Hstep:=qq hstep;have Hsm:=qq hsm;clear hz1' hz2' hsm hp hstep hra hrb
           by_cases hpe:p=((i:Int),0)
           · subst hpe
             simp only at hx0 hx1
             by_cases g1:z1=1
             · have d1:(z1==1)=true:=by simpa using g1
               by_cases g2:z2=1
               · have d2:(z2==1)=true:=by simpa using g2
                 have hmu:=(musV_own Hsj.out.own).2.2.2 (by omega);obtain⟨bo,oo,rfl,_,hco⟩:=hmu
                 have hjl:j<(pinL t i).length:=by rw[pinL_len]; exact hji
                 obtain⟨m0,m1⟩:=hco j hjl;obtain⟨q,hq⟩:∃ q,(pinL t i)[j]=q:=⟨_,rfl⟩;rw[hq] at m0 m1
                 have hqe:q=pinY t (pinL t i) i (j+1):=by
                  rw[Hstep.out,Hsm.out,d1,d2,if_pos ⟨rfl,rfl⟩,List.getD_eq_getElem?_getD,qj hjl,← hq];rfl
                 have Hq:=qq hqe;have f0:=Hsj.out.x.frozen 0;have f1:=Hsj.out.x.frozen 1;clear hco hjl hq hqe g1 g2;go_wp2_with fail;go_roundg (i - (j+1))
                 case measure=>omega
                 case rel=>exact⟨j+1,by omega,rfl,by simp,Hsj.out.set hgx Hne.out q Hq.out⟩
               · have d2:(z2==1)=false:=by simpa using g2
                 have Hs2:=qq (Hsj.out.stay (by rw[Hstep.out,Hsm.out,d2,if_neg (by simp),Hp.out]));clear g1 g2;go_wp2_with fail;go_roundg (i - (j+1))
                 case measure=>omega
                 case rel=>exact⟨j+1,by omega,rfl,by simp,Hs2.out⟩
             · have d1:(z1==1)=false:=by simpa using g1
               have Hs2:=qq (Hsj.out.stay (by rw[Hstep.out,Hsm.out,d1,if_neg (by simp),Hp.out]));clear g1;go_wp2_with fail;go_roundg (i - (j+1))
               case measure=>omega
               case rel=>exact⟨j+1,by omega,rfl,by simp,Hs2.out⟩
           · have Hs2:=qq (Hsj.out.stay (by rw[Hstep.out,if_neg (fun h=>hpe h.1),Hp.out]))
             obtain⟨p1,p2⟩:=p;simp only at hx0 hx1
             by_cases q1:p1=(i:Int)
             · subst q1
               have q2:¬ p2=0:=fun h=>hpe (by rw[h]);clear hpe;go_wp2_with fail;go_roundg (i - (j+1))
               case measure=>omega
               case rel=>exact⟨j+1,by omega,rfl,by simp,Hs2.out⟩
             · clear hpe
               go_wp2_with fail;go_roundg (i - (j+1))
               case measure=>omega
               case rel=>exact⟨j+1,by omega,rfl,by simp,Hs2.out⟩
         · have dj:decide (j<i)=false:=by simpa using hji
           have hje:j=i:=by omega
           subst hje;have hx0:=Hsj.out.x.cell 0;have hx1:=Hsj.out.x.cell 1;simp only[qc,qb,qa] at hx0 hx1;have hgl:gx<wr.heap.size:=Hsj.out.x.lt
           go_wp2_with (at_builtin; refine wpList_append_one W wr rfl (.tmp 62) (.tmp 64) 50 rfl W.heap.size 24 i0 _ 2 16 Tryz.underlying50 hi0 hz0 hz1 hz2 rfl (by omega) (.slice A j c) j _ rfl [.int .i64 (pinY t (pinL t j) j j).1,.int .u8 (pinY t (pinL t j) j j).2] rfl (by intro u hu; simp at hu; rcases hu with rfl | rfl <;> rfl) rfl Hsj.out.own (by unfold maxLen; omega) (by omega) Hsj.out.bel Hsj.out.bel.size ?_; intro A7 c7 w7 how7 hbelw7 hgw7 hzw7; clear hgw7)
           go_roundg (K - (j+1))
           case measure=>omega
           case rel=>exact⟨j+1,A7,c7,by omega,rfl,rfl,by simp,by rw[pinL,muC_append]; exact how7,hbelw7⟩
      · have d1:(y1==y2)=false:=by simpa using hl
        have Hst:Hid (PinSt t W gx i 0 A c V):=qq ⟨by rw[Hz.out,if_neg hl]; exact HkV.out,HownV.out,HbelV.out⟩
        clear hl;go_upto_region 8 with fail;clear d1 u0 u1 s1;go_wp2_with fail
        go_loopg [28] i (fun gh s28 wQ=>∃ (j:Nat),j≤i∧gh=i - j∧s28=.int .i64 (j:Nat)∧PinSt t W gx i j A c wQ)
        case atStart=>exact⟨0,Nat.zero_le _,rfl,rfl,Hst.out⟩
        case round=>
         obtain⟨j,hj,rfl,rfl,hst⟩:=hrel;have Hsj:=qq hst;clear hst
         by_cases hji:j<i
         · have dj:decide (j<i)=true:=by simpa using hji
           have hjK:j<K:=by omega
           have hstep:=pinY_step Hrng.out hi hji;have hx0:=Hsj.out.x.cell 0;have hx1:=Hsj.out.x.cell 1;simp only[qc,qb,qa] at hx0 hx1
           have j1:(0:Int)≤(j:Int):=by omega
           have j2:(j:Int)<(i:Int):=by omega
           have j3:(j:Int)<(K:Int):=by omega
           have e2:=HT.out.t2 wr Hsj.out.bel;obtain⟨ba,oa,ca,hra⟩:=HT.out.row i hi;obtain⟨bb,ob,cb,hrb⟩:=HT.out.row j hjK;have ra0:=(hra wr Hsj.out.bel).1;have ra1:=(hra wr Hsj.out.bel).2 j hjK;have rb0:=(hrb wr Hsj.out.bel).1;have rb1:=(hrb wr Hsj.out.bel).2 i hi;obtain⟨z1,hz1'⟩:∃ z,pairE t i j=z:=⟨_,rfl⟩;obtain⟨z2,hz2'⟩:∃ z,pairE t j i=z:=⟨_,rfl⟩
           have hsm:sameP t i j=(z1==1&&z2==1):=by unfold sameP; rw[hz1',hz2']
           rw[hz1'] at ra1;rw[hz2'] at rb1;obtain⟨p,hp⟩:∃ p,pinY t (pinL t i) i j=p:=⟨_,rfl⟩;rw[hp] at hx0 hx1 hstep;have Hp:=qq hp;have Hstep:=qq hstep;have Hsm:=qq hsm;clear hz1' hz2' hsm hp hstep hra hrb
           by_cases hpe:p=((i:Int),0)
           · subst hpe
             simp only at hx0 hx1
             by_cases g1:z1=1
             · have d1:(z1==1)=true:=by simpa using g1
               by_cases g2:z2=1
               · have d2:(z2==1)=true:=by simpa using g2
                 have hmu:=(musV_own Hsj.out.own).2.2.2 (by omega);obtain⟨bo,oo,rfl,_,hco⟩:=hmu
                 have hjl:j<(pinL t i).length:=by rw[pinL_len]; exact hji
                 obtain⟨m0,m1⟩:=hco j hjl;obtain⟨q,hq⟩:∃ q,(pinL t i)[j]=q:=⟨_,rfl⟩;rw[hq] at m0 m1
                 have hqe:q=pinY t (pinL t i) i (j+1):=by
                  rw[Hstep.out,Hsm.out,d1,d2,if_pos ⟨rfl,rfl⟩,List.getD_eq_getElem?_getD,qj hjl,← hq];rfl
                 have Hq:=qq hqe;have f0:=Hsj.out.x.frozen 0;have f1:=Hsj.out.x.frozen 1;clear hco hjl hq hqe g1 g2;go_wp2_with fail;go_roundg (i - (j+1))
                 case measure=>omega
                 case rel=>exact⟨j+1,by omega,rfl,by simp,Hsj.out.set hgx Hne.out q Hq.out⟩
               · have d2:(z2==1)=false:=by simpa using g2
                 have Hs2:=qq (Hsj.out.stay (by rw[Hstep.out,Hsm.out,d2,if_neg (by simp),Hp.out]));clear g1 g2;go_wp2_with fail;go_roundg (i - (j+1))
                 case measure=>omega
                 case rel=>exact⟨j+1,by omega,rfl,by simp,Hs2.out⟩
             · have d1:(z1==1)=false:=by simpa using g1
               have Hs2:=qq (Hsj.out.stay (by rw[Hstep.out,Hsm.out,d1,if_neg (by simp),Hp.out]));clear g1;go_wp2_with fail;go_roundg (i - (j+1))
               case measure=>omega
               case rel=>exact⟨j+1,by omega,rfl,by simp,Hs2.out⟩
           · have Hs2:=qq (Hsj.out.stay (by rw[Hstep.out,if_neg (fun h=>hpe h.1),Hp.out]))
             obtain⟨p1,p2⟩:=p;simp only at hx0 hx1
             by_cases q1:p1=(i:Int)
             · subst q1
               have q2:¬ p2=0:=fun h=>hpe (by rw[h]);clear hpe;go_wp2_with fail;go_roundg (i - (j+1))
               case measure=>omega
               case rel=>exact⟨j+1,by omega,rfl,by simp,Hs2.out⟩
             · clear hpe
               go_wp2_with fail;go_roundg (i - (j+1))
               case measure=>omega
               case rel=>exact⟨j+1,by omega,rfl,by simp,Hs2.out⟩
         · have dj:decide (j<i)=false:=by simpa using hji
           have hje:j=i:=by omega
           subst hje;have hx0:=Hsj.out.x.cell 0;have hx1:=Hsj.out.x.cell 1;simp only[qc,qb,qa] at hx0 hx1;have hgl:gx<wr.heap.size:=Hsj.out.x.lt
           go_wp2_with (at_builtin; refine wpList_append_one W wr rfl (.tmp 62) (.tmp 64) 50 rfl W.heap.size 24 i0 _ 2 16 Tryz.underlying50 hi0 hz0 hz1 hz2 rfl (by omega) (.slice A j c) j _ rfl [.int .i64 (pinY t (pinL t j) j j).1,.int .u8 (pinY t (pinL t j) j j).2] rfl (by intro u hu; simp at hu; rcases hu with rfl | rfl <;> rfl) rfl Hsj.out.own (by unfold maxLen; omega) (by omega) Hsj.out.bel Hsj.out.bel.size ?_; intro A7 c7 w7 how7 hbelw7 hgw7 hzw7; clear hgw7)
           go_roundg (K - (j+1))
           case measure=>omega
           case rel=>exact⟨j+1,A7,c7,by omega,rfl,rfl,by simp,by rw[pinL,muC_append]; exact how7,hbelw7⟩
    · have di:decide (i<K)=false:=by simpa using hi
      have hie:i=K:=by omega
      subst hie;have hm:=musV_own hown;have Hm:=qq hm;have Hend:=qq (Hb.out.trans (hbel.mono Hb.out.size));clear hm hown hbel;go_wp2_with fail;go_ret;exact⟨A,i,c,rfl,Hm.out,Hend.out⟩
set_option maxRecDepth 100000 in
set_option maxHeartbeats 2000000 in
theorem sure_any {K:Nat} {t:TabD} (hok:OkTab K t) (x:IneqD) (h1:x.lc=0→0≤x.lv∧x.lv<(K:Int)) (h2:x.r<(K:Int)) {q:Bool} (hq:sureB t x=q) (v:Value) (w:World) (hv:TabV w w.heap.size v t):
 Calls Tryz.prog 95 #[v,.agg #[.int .i64 x.lv,.int .u8 x.lc,.int .u8 x.c,.int .i64 x.r]] w fun e w'=>e=.returned (.bool q)∧Below w.heap.size w w':=by
 obtain⟨A1,c1,A2,c2,A3,c3,rfl,r1,r2,r3⟩:=hv;obtain⟨lv,lc,c,r⟩:=x;have hk150:=hok.k150;have ll:=hok.ll;have ul:=hok.ul;have pl:=hok.pl;obtain⟨lo,hlo⟩:∃ l,t.low=l:=⟨_,rfl⟩;obtain⟨up,hup⟩:∃ l,t.up=l:=⟨_,rfl⟩;obtain⟨ps,hps⟩:∃ l,t.pair=l:=⟨_,rfl⟩;unfold sureB pairE at hq;simp only at h1 h2 hq ⊢;rw[hlo] at r1 ll hq ⊢;rw[hup] at r2 ul hq ⊢;rw[hps] at r3 pl hq ⊢;rw[ll] at r1 ⊢;rw[ul] at r2 ⊢;rw[pl] at r3 ⊢
 have hnp:∀ l∈ps,l.length=K:=fun l hl=>(hok.np l (by rw[hps]; exact hl)).1
 obtain⟨W,hW⟩:∃ W,(w.alloc (Obj.cells #[.slice A1 K c1,.slice A2 K c2,.slice A3 K c3] 38)).alloc (Obj.cells #[.int .i64 lv,.int .u8 lc,.int .u8 c,.int .i64 r] 70)=W:=⟨_,rfl⟩
 have hb:Below w.heap.size w W:=by rw[← hW]; exact((Below.refl _ _).alloc (Nat.le_refl _) _).alloc (by simp) _
 have hkt:Blk W w.heap.size 38 #[.slice A1 K c1,.slice A2 K c2,.slice A3 K c3]:=by rw[← hW]; exact(blk_new w _ _).alloc _
 have hkx:Blk W (w.heap.size+1) 70 #[.int .i64 lv,.int .u8 lc,.int .u8 c,.int .i64 r]:=by
  rw[← hW];have:=blk_new (w.alloc (Obj.cells #[.slice A1 K c1,.slice A2 K c2,.slice A3 K c3] 38)) #[.int .i64 lv,.int .u8 lc,.int .u8 c,.int .i64 r] 70;rwa [World.size_alloc] at this
 have t0:=hkt.cell 0;have t1:=hkt.cell 1;have t2:=hkt.cell 2;have x0:=hkx.cell 0;have x1:=hkx.cell 1;have x2:=hkx.cell 2;have x3:=hkx.cell 3;simp only[qc,qb,qa] at t0 t1 t2 x0 x1 x2 x3;have HW:=qq hW;have Hb:=qq hb;have q1:=r1.below hb;have q2:=r2.below hb;have q3:=r3.below hb;clear hW hb hkt hkx r1 r2 r3 hlo hup hps hok
 by_cases hc:lc=0
 · subst hc
   obtain⟨l0,l1⟩:=h1 rfl;obtain⟨i,rfl⟩:∃ i:Nat,lv=(i:Int):=⟨lv.toNat,(Int.toNat_of_nonneg l0).symm⟩;clear h1 l0
   have hiK:i<K:=by omega
   have hiu:i<up.length:=by omega
   obtain⟨b2,o2,rfl,_,hc2⟩:=q2.at_ (by omega);have u0:=hc2 i hiu;rw[if_pos rfl,Int.toNat_natCast,List.getD_eq_getElem?_getD,qj hiu,Option.getD_some] at hq;obtain⟨y,hy⟩:∃ y,up[i]=y:=⟨_,rfl⟩;rw[hy] at u0 hq;clear hc2 hy
   by_cases huc:y≤c
   · rw[if_pos huc] at hq
     subst hq
     have d0:decide (y≤c)=true:=by simpa using huc
     clear huc
     go_enter Tryz.func95,Tryz.ntmps95
     go_upto_region 1 with fail;rw[HW.out];go_wp2_with fail;go_ret;exact⟨rfl,Hb.out⟩
   · rw[if_neg huc] at hq
     have d0:decide (y≤c)=false:=by simpa using huc
     clear huc
     by_cases hr:r<0
     · rw[if_pos hr] at hq
       subst hq
       have d1:decide (r<0)=true:=by simpa using hr
       clear hr
       go_enter Tryz.func95,Tryz.ntmps95
       go_upto_region 1 with fail;rw[HW.out];go_wp2_with fail;go_ret;exact⟨rfl,Hb.out⟩
     · rw[if_neg hr,if_neg (by simp)] at hq
       have d1:decide (r<0)=false:=by simpa using hr
       obtain⟨j,rfl⟩:∃ j:Nat,r=(j:Int):=⟨r.toNat,(Int.toNat_of_nonneg (by omega)).symm⟩
       have hjK:j<K:=by omega
       have hip:i<ps.length:=by omega
       obtain⟨b3,o3,rfl,_,hc3⟩:=q3.2.2.2 (by omega);obtain⟨A',c',u1,hrow⟩:=hc3 i hip;have hlr:=hnp ps[i] (List.getElem_mem hip)
       have hjr:j<ps[i].length:=by omega
       rw[Int.toNat_natCast,List.getD_eq_getElem?_getD (l:=ps),qj hip,Option.getD_some,List.getD_eq_getElem?_getD,qj hjr,Option.getD_some] at hq;obtain⟨b4,o4,rfl,_,hc4⟩:=hrow.at_ (by omega);have u2:=hc4 j hjr;rw[hlr] at u1;obtain⟨z,hz⟩:∃ z,ps[i][j]=z:=⟨_,rfl⟩;rw[hz] at u2 hq;clear hc3 hrow hlr hc4 hz hr
       have i1:(0:Int)≤(i:Int):=by omega
       have i2:(i:Int)<(K:Int):=by omega
       have j1:(0:Int)≤(j:Int):=by omega
       have j2:(j:Int)<(K:Int):=by omega
       go_enter Tryz.func95,Tryz.ntmps95
       go_upto_region 1 with fail;rw[HW.out];go_upto_region 10 with fail;refine wp_region_noPanic ?_;refine wp_region_T (fun W'=>W'.cell? ⟨w.heap.size,2,none⟩=some (.slice (some ⟨b3,o3,none⟩) K c3)∧W'.cell? ⟨w.heap.size+1,0,none⟩=some (.int .i64 (i:Int))∧W'.cell? ⟨w.heap.size+1,2,none⟩=some (.int .u8 c)∧W'.cell? ⟨w.heap.size+1,3,none⟩=some (.int .i64 (j:Int))∧W'.cell? ⟨b3,o3+i,none⟩=some (.slice (some ⟨b4,o4,none⟩) K c')∧W'.cell? ⟨b4,o4+j,none⟩=some (.int .u8 z)) 14 (by kernel_rfl) ⟨t2,x0,x2,x3,u1,u2⟩ (fun hHeld=>?_);have hbd:Below W.heap.size W W.drew:=Below.drew (Below.refl _ _);generalize W.drew=W0 at hHeld hbd ⊢;have Hbe:=qq (Hb.out.trans (hbd.mono Hb.out.size));refine nx0 0 ?_
       iterate 14 (refine nx (v:=?_) rfl (by kernel_rfl) (fun _ _ _ h=>h) (by rfl) ?_ (by assumption) ?_; rotate_left; focus (intro w hSw; (try dsimp only at hSw); first | (go_simp; done) | (go_simp; with_reducible rfl)); try simp only[Act.put,qg,qe,qf,qd,qh,qi,Nat.reduceAdd])
       refine nx9 ?_;clear hHeld hbd t0 t1 t2 x0 x1 x2 x3 u0 u1 u2;refine wpAnyT_seq 14 (by omega) (by rfl) (by kernel_rfl) ?_;simp only[List.drop_succ_cons,List.drop_zero];go_wp2_with fail;refine NoPanic.normal ?_;go_wp2_with fail;go_ret
       exact⟨by subst hq; rfl,Hbe.out⟩
 · rw[if_neg hc] at hq
   have dc:(lc==0)=false:=by simpa using hc
   have dc':(lc != 0)=true:=by simpa using hc
   by_cases huc:lc≤c
   · rw[if_pos huc] at hq
     subst hq
     have d0:decide (lc≤c)=true:=by simpa using huc
     clear huc hc
     go_enter Tryz.func95,Tryz.ntmps95
     go_upto_region 1 with fail;rw[HW.out];go_wp2_with fail;go_ret;exact⟨rfl,Hb.out⟩
   · rw[if_neg huc] at hq
     have d0:decide (lc≤c)=false:=by simpa using huc
     clear huc
     by_cases hr:r<0
     · rw[if_pos hr] at hq
       subst hq
       have d1:decide (r<0)=true:=by simpa using hr
       clear hr hc
       go_enter Tryz.func95,Tryz.ntmps95
       go_upto_region 1 with fail;rw[HW.out];go_wp2_with fail;go_ret;exact⟨rfl,Hb.out⟩
     · rw[if_neg hr,if_pos (by simpa using hc)] at hq
       have d1:decide (r<0)=false:=by simpa using hr
       obtain⟨j,rfl⟩:∃ j:Nat,r=(j:Int):=⟨r.toNat,(Int.toNat_of_nonneg (by omega)).symm⟩
       have hjK:j<K:=by omega
       have hjl:j<lo.length:=by omega
       obtain⟨b1,o1,rfl,_,hc1⟩:=q1.at_ (by omega);have u1:=hc1 j hjl;rw[Int.toNat_natCast,List.getD_eq_getElem?_getD,qj hjl,Option.getD_some] at hq;obtain⟨z,hz⟩:∃ z,lo[j]=z:=⟨_,rfl⟩;rw[hz] at u1 hq;clear hc1 hz hr hc
       have j1:(0:Int)≤(j:Int):=by omega
       have j2:(j:Int)<(K:Int):=by omega
       go_enter Tryz.func95,Tryz.ntmps95
       go_upto_region 1 with fail;rw[HW.out];go_upto_region 9 with fail;refine wp_region_noPanic ?_;refine wp_region_T (fun W'=>W'.cell? ⟨w.heap.size,0,none⟩=some (.slice (some ⟨b1,o1,none⟩) K c1)∧W'.cell? ⟨w.heap.size+1,1,none⟩=some (.int .u8 lc)∧W'.cell? ⟨w.heap.size+1,3,none⟩=some (.int .i64 (j:Int))∧W'.cell? ⟨b1,o1+j,none⟩=some (.int .u8 z)) 10 (by kernel_rfl) ⟨t0,x1,x3,u1⟩ (fun hHeld=>?_);have hbd:Below W.heap.size W W.drew:=Below.drew (Below.refl _ _);generalize W.drew=W0 at hHeld hbd ⊢;have Hbe:=qq (Hb.out.trans (hbd.mono Hb.out.size));refine nx0 0 ?_
       iterate 10 (refine nx (v:=?_) rfl (by kernel_rfl) (fun _ _ _ h=>h) (by rfl) ?_ (by assumption) ?_; rotate_left; focus (intro w hSw; (try dsimp only at hSw); first | (go_simp; done) | (go_simp; with_reducible rfl)); try simp only[Act.put,qg,qe,qf,qd,qh,qi,Nat.reduceAdd])
       refine nx9 ?_;clear hHeld hbd t0 t1 t2 x0 x1 x2 x3 u1;refine wpAnyT_seq 10 (by omega) (by rfl) (by kernel_rfl) ?_;simp only[List.drop_succ_cons,List.drop_zero];go_wp2_with fail;refine NoPanic.normal ?_;go_wp2_with fail;go_ret
       exact⟨by subst hq; rfl,Hbe.out⟩
end Go.Proofs.YtdmakpmbknindaaGreatDoor
