import Derived.Test.YtdmakpmbknindaaGreatDoorM6
set_option linter.unusedVariables false
set_option linter.unusedSimpArgs false
set_option maxHeartbeats 1000000
set_option maxRecDepth 100000
namespace Go.Proofs.YtdmakpmbknindaaGreatDoor
def InR (n:Nat) (f:List Int):Prop:=f.length=n∧∀ v,v<n→1≤f.getD v 0∧f.getD v 0≤3
def SolE (n:Nat) (xs:List IneqD) (f:List Int):Prop:=InR n f∧∀ x∈xs,holdL f x
inductive PathE (xs:List IneqD) (c:Int) (v:Nat):Nat→Prop
 | refl:PathE xs c v v
 | step {u:Nat} (x:IneqD) (h:PathE xs c v u) (hx:x∈xs) (h0:x.lc=0) (hu:x.lv=(u:Int)) (hc:x.c≤c) (hr:0≤x.r):PathE xs c v x.r.toNat
structure LineE (n:Nat) (xs:List IneqD) (v:Nat) (to:List Int) (up:Int):Prop where
 len:to.length=n
 rng:∀ r,r<n→1≤to.getD r 0∧to.getD r 0≤3
 at_:∀ r,r<n→∀ c:Int,c=1∨c=2→(to.getD r 0≤c↔PathE xs c v r)
 up1:1≤up
 up3:up≤3
 upLe:∀ c:Int,c=1∨c=2→∀ (u:Nat) (x:IneqD),PathE xs c v u→x∈xs→x.lc=0→x.lv=(u:Int)→x.r<0→up≤max c x.c
 upAt:up=3∨∃ c:Int,(c=1∨c=2)∧∃ (u:Nat) (x:IneqD),PathE xs c v u∧x∈xs∧x.lc=0∧x.lv=(u:Int)∧x.r<0∧up=max c x.c
def WellE (n:Nat) (xs:List IneqD):Prop:=∀ x∈xs,OverL n x∧1≤x.c
section
variable {n:Nat} {xs:List IneqD} {f low to:List Int} {v r:Nat} {c up:Int}
theorem hold_var {x:IneqD} {u:Nat} (h:holdL f x) (h0:x.lc=0) (hu:x.lv=(u:Int)):f.getD u 0≤if 0≤x.r then max x.c (f.getD x.r.toNat 0) else x.c:=by
 unfold holdL leftL at h;rw[if_pos h0,hu,Int.toNat_natCast] at h;exact h
theorem PathE.lt (hw:WellE n xs) (hv:v<n) {u:Nat} (h:PathE xs c v u):u<n:=by
 cases h with
 | refl=>exact hv
 | step x h hx h0 hu hc hr=>have:=(hw x hx).1.r; omega
theorem PathE.le (hs:SolE n xs f) {u:Nat} (h:PathE xs c v u):f.getD v 0≤max c (f.getD u 0):=by
 induction h with
 | refl=>omega
 | step x h hx h0 hu hc hr ih=>
   have h1:=hold_var (hs.2 x hx) h0 hu;rw[if_pos hr] at h1;omega
theorem LineE.le (hl:LineE n xs v to up) (hw:WellE n xs) (hv:v<n) (hs:SolE n xs f):f.getD v 0≤up:=by
 have h3:=(hs.1.2 v hv).2
 rcases hl.upAt with h | ⟨c,_,u,x,hp,hx,h0,hu,hr,e⟩
 · omega
 · have h1:=hp.le hs
   have h2:=hold_var (hs.2 x hx) h0 hu;rw[if_neg (by omega)] at h2;omega
theorem LineE.to_le (hl:LineE n xs v to up) (hv:v<n) (hs:SolE n xs f) (hr:r<n):f.getD v 0≤max (to.getD r 0) (f.getD r 0):=by
 have h3:=(hs.1.2 v hv).2;have h4:=hl.rng r hr
 by_cases h:to.getD r 0=3
 · omega
 · have hp:=(hl.at_ r hr (to.getD r 0) (by omega)).1 (Int.le_refl _)
   exact hp.le hs
def gE (n:Nat) (low to:List Int) (m:Int):List Int:=(List.range n).map fun u=>if to.getD u 0<m then max (low.getD u 0) m else low.getD u 0
theorem gE_at {u:Nat} {m:Int} (hu:u<n):(gE n low to m).getD u 0=if to.getD u 0<m then max (low.getD u 0) m else low.getD u 0:=by
 unfold gE;rw[List.getD_eq_getElem?_getD,List.getElem?_map,List.getElem?_range hu];rfl
theorem hold_mono {a b:List Int} {x:IneqD} (h:x.lc≠0) (hx:holdL a x) (hab:0≤x.r→a.getD x.r.toNat 0≤b.getD x.r.toNat 0):holdL b x:=by
 unfold holdL leftL at hx ⊢;rw[if_neg h] at hx ⊢
 by_cases hr:0≤x.r
 · rw[if_pos hr] at hx ⊢
   have:=hab hr;omega
 · rw[if_neg hr] at hx ⊢
   exact hx
theorem hold_of {f:List Int} {x:IneqD} {u:Nat} (h0:x.lc=0) (hu:x.lv=(u:Int)) (h:f.getD u 0≤if 0≤x.r then max x.c (f.getD x.r.toNat 0) else x.c):holdL f x:=by
 unfold holdL leftL;rw[if_pos h0,hu,Int.toNat_natCast];exact h
theorem gE_sol (hl:LineE n xs v to up) (hw:WellE n xs) (hv:v<n) (hs:SolE n xs low) {m:Int} (h1:low.getD v 0≤m) (h2:m≤up) (hm1:1≤m):SolE n xs (gE n low to m)∧(gE n low to m).getD v 0=m:=by
 have hup:=hl.up3
 have hge:∀ u,u<n→low.getD u 0≤(gE n low to m).getD u 0:=fun u hu=>by rw[gE_at hu]; split <;> omega
 refine⟨⟨⟨by simp[gE],fun u hu=>?_⟩,fun x hx=>?_⟩,?_⟩
 · have:=hs.1.2 u hu
   rw[gE_at hu]
   split <;> omega
 · obtain⟨ho,hc1⟩:=hw x hx
   have hxl:=hs.2 x hx
   by_cases h0:x.lc=0
   · obtain⟨a,b⟩:=ho.lv h0
     obtain⟨u,hu⟩:∃ u:Nat,x.lv=(u:Int):=⟨x.lv.toNat,(Int.toNat_of_nonneg a).symm⟩
     have hun:u<n:=by omega
     have hl0:=hold_var hxl h0 hu;refine hold_of h0 hu ?_;have hgu:=gE_at (low:=low) (to:=to) (m:=m) hun
     have hmr:0≤x.r→low.getD x.r.toNat 0≤(gE n low to m).getD x.r.toNat 0:=fun hr=>hge _ (by have:=ho.r; omega)
     by_cases hgl:(gE n low to m).getD u 0=low.getD u 0
     · rw[hgl]
       by_cases hr:0≤x.r
       · rw[if_pos hr] at hl0 ⊢
         have:=hmr hr;omega
       · rw[if_neg hr] at hl0 ⊢
         exact hl0
     · have ht:to.getD u 0<m:=by
        by_cases h:to.getD u 0<m
        · exact h
        · rw[if_neg h] at hgu; exact absurd hgu hgl
       rw[if_pos ht] at hgu
       have hgm:(gE n low to m).getD u 0=m:=by omega
       rw[hgm];have hto:=hl.rng u hun
       by_cases hcm:m≤x.c
       · split <;> omega
       · obtain⟨c,hc,hc12⟩:∃ c:Int,m=c+1∧(c=1∨c=2):=⟨m - 1,by omega,by omega⟩
         have hp:=(hl.at_ u hun c hc12).1 (by omega)
         by_cases hr:0≤x.r
         · rw[if_pos hr]
           have hrn:x.r.toNat<n:=by have:=ho.r; omega
           have hp2:=PathE.step x hp hx h0 hu (by omega) hr;have ht2:=(hl.at_ _ hrn c hc12).2 hp2;have hgr:=gE_at (low:=low) (to:=to) (m:=m) hrn;rw[if_pos (by omega)] at hgr;omega
         · have:=hl.upLe c hc12 u x hp hx h0 hu (by omega)
           omega
   · refine hold_mono h0 hxl fun hr=>hge _ (by have:=ho.r; omega)
 · have hvv:to.getD v 0≤1:=(hl.at_ v hv 1 (.inl rfl)).2 .refl
   have:=(hs.1.2 v hv).1;rw[gE_at hv]
   split <;> omega
theorem join_sol (hw:WellE n xs) {a b:List Int} (ha:SolE n xs a) (hb:SolE n xs b):∃ F,SolE n xs F∧∀ u,u<n→F.getD u 0=max (a.getD u 0) (b.getD u 0):=by
 have hat:∀ u,u<n→((List.range n).map fun u=>max (a.getD u 0) (b.getD u 0)).getD u 0=max (a.getD u 0) (b.getD u 0):=fun u hu=>by
  rw[List.getD_eq_getElem?_getD,List.getElem?_map,List.getElem?_range hu];rfl
 refine⟨(List.range n).map fun u=>max (a.getD u 0) (b.getD u 0),⟨⟨by simp,fun u hu=>?_⟩,fun x hx=>?_⟩,hat⟩
 · have:=ha.1.2 u hu
   have:=hb.1.2 u hu;rw[hat u hu];omega
 · obtain⟨ho,hc1⟩:=hw x hx
   have h1:=ha.2 x hx;have h2:=hb.2 x hx
   by_cases h0:x.lc=0
   · obtain⟨p,q⟩:=ho.lv h0
     obtain⟨u,hu⟩:∃ u:Nat,x.lv=(u:Int):=⟨x.lv.toNat,(Int.toNat_of_nonneg p).symm⟩;have l1:=hold_var h1 h0 hu;have l2:=hold_var h2 h0 hu;refine hold_of h0 hu ?_;rw[hat u (by omega)]
     by_cases hr:0≤x.r
     · rw[if_pos hr] at l1 l2 ⊢
       rw[hat _ (by have:=ho.r; omega)]
       omega
     · rw[if_neg hr] at l1 l2 ⊢
       omega
   · exact hold_mono h0 h1 fun hr=>by rw[hat _ (by have:=ho.r; omega)]; omega
theorem joins_sol (hw:WellE n xs) (hs:SolE n xs low):∀ G:List (List Int),(∀ g∈G,SolE n xs g)→∃ F,SolE n xs F∧∀ u,u<n→low.getD u 0≤F.getD u 0∧(∀ g∈G,g.getD u 0≤F.getD u 0)∧(F.getD u 0=low.getD u 0∨∃ g∈G,F.getD u 0=g.getD u 0)
 | [],_=>⟨low,hs,fun u _=>⟨Int.le_refl _,fun _ hg=>absurd hg (by simp),Or.inl rfl⟩⟩
 | g :: G,hG=>by
   obtain⟨F,hF,hf⟩:=joins_sol hw hs G fun g' hg=>hG g' (List.mem_cons_of_mem _ hg);obtain⟨F2,hF2,hf2⟩:=join_sol hw hF (hG g (by simp));refine⟨F2,hF2,fun u hu=>?_⟩;obtain⟨h1,h2,h3⟩:=hf u hu;have e:=hf2 u hu
   refine⟨by omega,fun g' hg'=>?_,?_⟩
   · rcases qk.1 hg' with rfl | hg'
     · omega
     · have:=h2 g' hg'; omega
   · by_cases hc:g.getD u 0≤F.getD u 0
     · rcases h3 with h3 | ⟨g',hg',h3⟩
       · exact .inl (by omega)
       · exact .inr ⟨g',List.mem_cons_of_mem _ hg',by omega⟩
     · exact .inr ⟨g,by simp,by omega⟩
end
structure TabD where
 low:List Int
 up:List Int
 pair:List (List Int)
deriving DecidableEq
def pairE (t:TabD) (i j:Nat):Int:=(t.pair.getD i []).getD j 0
def LetsE (k:Nat) (t:TabD) (a:List Int):Prop:=∀ i,i<k→t.low.getD i 0≤a.getD i 0∧a.getD i 0≤t.up.getD i 0∧∀ j,j<k→a.getD i 0≤max (pairE t i j) (a.getD j 0)
structure TabOf (k:Nat) (S:List Int→Prop) (t:TabD):Prop where
 ll:t.low.length=k
 ul:t.up.length=k
 pl:t.pair.length=k
 pr:∀ i,i<k→(t.pair.getD i []).length=k
 rl:∀ i,i<k→1≤t.low.getD i 0∧t.low.getD i 0≤3
 ru:∀ i,i<k→1≤t.up.getD i 0∧t.up.getD i 0≤3
 rp:∀ i j,i<k→j<k→1≤pairE t i j∧pairE t i j≤3
 lets:∀ a,S a→LetsE k t a
 lowAt:∀ i,i<k→∃ a,S a∧a.getD i 0=t.low.getD i 0
 upAt:∀ i,i<k→∃ a,S a∧a.getD i 0=t.up.getD i 0
 pairAt:∀ i j,i<k→j<k→pairE t i j=1∨∃ a,S a∧a.getD i 0=pairE t i j∧a.getD j 0<a.getD i 0
theorem ext_getD {a b:List Int} {k:Nat} (ha:a.length=k) (hb:b.length=k) (h:∀ i,i<k→a.getD i 0=b.getD i 0):a=b:=by
 apply List.ext_getElem (by rw[ha,hb])
 intro i h1 h2;have:=h i (by omega);rw[List.getD_eq_getElem?_getD,List.getD_eq_getElem?_getD,qj h1,qj h2] at this;exact this
theorem TabOf.unique {k:Nat} {S:List Int→Prop} {t t':TabD} (h:TabOf k S t) (h':TabOf k S t'):t=t':=by
 have h1:t.low=t'.low:=ext_getD h.ll h'.ll fun i hi=>by
  obtain⟨a,ha,e⟩:=h.lowAt i hi;obtain⟨b,hb,e'⟩:=h'.lowAt i hi;have:=(h.lets b hb i hi).1;have:=(h'.lets a ha i hi).1;omega
 have h2:t.up=t'.up:=ext_getD h.ul h'.ul fun i hi=>by
  obtain⟨a,ha,e⟩:=h.upAt i hi;obtain⟨b,hb,e'⟩:=h'.upAt i hi;have:=(h.lets b hb i hi).2.1;have:=(h'.lets a ha i hi).2.1;omega
 have h3:t.pair=t'.pair:=by
  apply List.ext_getElem (by rw[h.pl,h'.pl])
  intro i i1 i2
  have hik:i<k:=by rw[← h.pl]; exact i1
  have e1:t.pair.getD i []=t.pair[i]:=by rw[List.getD_eq_getElem?_getD,qj i1]; rfl
  have e2:t'.pair.getD i []=t'.pair[i]:=by rw[List.getD_eq_getElem?_getD,qj i2]; rfl
  refine ext_getD (k:=k) (by rw[← e1]; exact h.pr i hik) (by rw[← e2]; exact h'.pr i hik) fun j hj=>?_
  have p1:pairE t i j=t.pair[i].getD j 0:=by unfold pairE; rw[e1]
  have p2:pairE t' i j=t'.pair[i].getD j 0:=by unfold pairE; rw[e2]
  rw[← p1,← p2];have r1:=h.rp i j hik hj;have r2:=h'.rp i j hik hj
  have g1:pairE t i j≤pairE t' i j:=by
   rcases h.pairAt i j hik hj with e | ⟨a,ha,e,hlt⟩
   · omega
   · have:=(h'.lets a ha i hik).2.2 j hj
     omega
  have g2:pairE t' i j≤pairE t i j:=by
   rcases h'.pairAt i j hik hj with e | ⟨a,ha,e,hlt⟩
   · omega
   · have:=(h.lets a ha i hik).2.2 j hj
     omega
  omega
 cases t
 cases t'
 simp_all
theorem TabOf.congr {k:Nat} {S S':List Int→Prop} {t:TabD} (h:TabOf k S t) (hs:∀ a,S a↔S' a):TabOf k S' t:=
 ⟨h.ll,h.ul,h.pl,h.pr,h.rl,h.ru,h.rp,fun a ha=>h.lets a ((hs a).2 ha),fun i hi=>(h.lowAt i hi).imp fun a ha=>⟨(hs a).1 ha.1,ha.2⟩,fun i hi=>(h.upAt i hi).imp fun a ha=>⟨(hs a).1 ha.1,ha.2⟩,fun i j hi hj=>(h.pairAt i j hi hj).imp id fun⟨a,ha⟩=>⟨a,(hs a).1 ha.1,ha.2⟩⟩
def KeptE (n:Nat) (xs:List IneqD) (keep:List Nat) (a:List Int):Prop:=∃ f,SolE n xs f∧a=keep.map fun v=>f.getD v 0
theorem kept_at {keep:List Nat} {f:List Int} {i:Nat} (hi:i<keep.length):(keep.map fun v=>f.getD v 0).getD i 0=f.getD keep[i] 0:=by
 rw[List.getD_eq_getElem?_getD,List.getElem?_map,qj hi];rfl
structure TightE (lv lr:Int) (up t:Int) (p:Int):Prop where
 one:1≤p
 is:p=1∨(max lv 2≤p∧p≤up∧lr<p∧p≤t)
 most:∀ m,max lv 2≤m→m≤up→lr<m→m≤t→m≤p
structure ProjE (n:Nat) (xs:List IneqD) (low:List Int) (keep:List Nat) (t:TabD):Prop where
 ll:t.low.length=keep.length
 ul:t.up.length=keep.length
 pl:t.pair.length=keep.length
 pr:∀ i,i<keep.length→(t.pair.getD i []).length=keep.length
 row:∀ i (hi:i<keep.length),t.low.getD i 0=low.getD keep[i] 0∧∃ to,LineE n xs keep[i] to (t.up.getD i 0)∧∀ j (hj:j<keep.length),(i=j→pairE t i j=1)∧(i≠j→TightE (low.getD keep[i] 0) (low.getD keep[j] 0) (t.up.getD i 0) (to.getD keep[j] 0) (pairE t i j))
section
variable {n:Nat} {xs:List IneqD} {low:List Int} {keep:List Nat} {t:TabD}
theorem proj_tab (hw:WellE n xs) (hs:SolE n xs low) (hmin:∀ f,SolE n xs f→∀ v,v<n→low.getD v 0≤f.getD v 0) (hk:∀ v∈keep,v<n) (h:ProjE n xs low keep t):TabOf keep.length (KeptE n xs keep) t:=by
 have hkn:∀ i (hi:i<keep.length),keep[i]<n:=fun i hi=>hk _ (List.getElem_mem hi)
 have hrp:∀ i j,i<keep.length→j<keep.length→1≤pairE t i j∧pairE t i j≤3:=fun i j hi hj=>by
  obtain⟨_,to,hl,hp⟩:=h.row i hi;obtain⟨p1,p2⟩:=hp j hj
  by_cases e:i=j
  · rw[p1 e]; omega
  · have:=p2 e
    have h3:=hl.up3;refine⟨this.one,?_⟩
    rcases this.is with e | e <;> omega
 refine⟨h.ll,h.ul,h.pl,h.pr,fun i hi=>?_,fun i hi=>?_,hrp,fun a ha i hi=>?_,fun i hi=>?_,fun i hi=>?_,fun i j hi hj=>?_⟩
 · rw[(h.row i hi).1]; exact hs.1.2 _ (hkn i hi)
 · obtain⟨_,to,hl,_⟩:=h.row i hi
   exact⟨hl.up1,hl.up3⟩
 · obtain⟨f,hf,rfl⟩:=ha
   obtain⟨e,to,hl,hp⟩:=h.row i hi;rw[kept_at hi,e];refine⟨hmin f hf _ (hkn i hi),hl.le hw (hkn i hi) hf,fun j hj=>?_⟩;rw[kept_at hj]
   by_cases hij:i=j
   · subst hij; omega
   · have ht:=(hp j hj).2 hij
     by_cases hc:f.getD keep[i] 0≤f.getD keep[j] 0
     · omega
     · have h1:=hl.to_le (hkn i hi) hf (hkn j hj)
       have h2:=hmin f hf _ (hkn j hj);have h3:=hmin f hf _ (hkn i hi);have h4:=hl.le hw (hkn i hi) hf;have h5:=(hs.1.2 _ (hkn j hj)).1;have:=ht.most (f.getD keep[i] 0) (by omega) h4 (by omega) (by omega);omega
 · exact⟨_,⟨low,hs,rfl⟩,by rw[kept_at hi,(h.row i hi).1]⟩
 · obtain⟨e,to,hl,hp⟩:=h.row i hi
   obtain⟨g1,g2⟩:=gE_sol hl hw (hkn i hi) hs (hl.le hw (hkn i hi) hs) (Int.le_refl _) hl.up1
   exact⟨_,⟨_,g1,rfl⟩,by rw[kept_at hi]; exact g2⟩
 · obtain⟨e,to,hl,hp⟩:=h.row i hi
   by_cases hij:i=j
   · exact .inl ((hp j hj).1 hij)
   · have ht:=(hp j hj).2 hij
     rcases ht.is with h1 | ⟨h1,h2,h3,h4⟩
     · exact .inl h1
     · obtain⟨g1,g2⟩:=gE_sol hl hw (hkn i hi) hs (m:=pairE t i j) (by omega) h2 (by omega)
       refine .inr ⟨_,⟨_,g1,rfl⟩,by rw[kept_at hi]; exact g2,?_⟩
       rw[kept_at hi,kept_at hj,g2,gE_at (hkn j hj),if_neg (by omega)];exact h3
theorem proj_exact (hw:WellE n xs) (hs:SolE n xs low) (hk:∀ v∈keep,v<n) (h:ProjE n xs low keep t) {a:List Int} (hl:a.length=keep.length) (ha:LetsE keep.length t a) (hr:∀ i,i<keep.length→1≤a.getD i 0):KeptE n xs keep a:=by
 have hkn:∀ i (hi:i<keep.length),keep[i]<n:=fun i hi=>hk _ (List.getElem_mem hi)
 have hto:∀ i,∃ to:List Int,∀ (hi:i<keep.length),LineE n xs keep[i] to (t.up.getD i 0)∧∀ j (hj:j<keep.length),(i=j→pairE t i j=1)∧(i≠j→TightE (low.getD keep[i] 0) (low.getD keep[j] 0) (t.up.getD i 0) (to.getD keep[j] 0) (pairE t i j)):=fun i=>by
  by_cases hi:i<keep.length
  · obtain⟨_,to,hto⟩:=h.row i hi
    exact⟨to,fun _=>hto⟩
  · exact⟨[],fun h=>absurd h hi⟩
 obtain⟨to,hto⟩:=Classical.axiomOfChoice hto
 have hg:∀ i (hi:i<keep.length),SolE n xs (gE n low (to i) (a.getD i 0))∧(gE n low (to i) (a.getD i 0)).getD keep[i] 0=a.getD i 0:=fun i hi=>by
  have h1:=ha i hi;rw[(h.row i hi).1] at h1;exact gE_sol (hto i hi).1 hw (hkn i hi) hs h1.1 h1.2.1 (hr i hi)
 obtain⟨F,hF,hf⟩:=joins_sol hw hs ((List.range keep.length).map fun i=>gE n low (to i) (a.getD i 0)) (fun g hg'=>by
  obtain⟨i,hi,rfl⟩:=List.mem_map.1 hg'
  exact(hg i (List.mem_range.1 hi)).1)
 refine⟨F,hF,ext_getD hl (by simp) fun j hj=>?_⟩;rw[kept_at hj];obtain⟨h1,h2,h3⟩:=hf _ (hkn j hj)
 have hge:a.getD j 0≤F.getD keep[j] 0:=by
  have:=h2 _ (List.mem_map.2 ⟨j,List.mem_range.2 hj,rfl⟩);rw[(hg j hj).2] at this;exact this
 have hlj:=(ha j hj).1;rw[(h.row j hj).1] at hlj
 have hle:F.getD keep[j] 0≤a.getD j 0:=by
  rcases h3 with h3 | ⟨g,hg',h3⟩
  · omega
  · obtain⟨i,hi,rfl⟩:=List.mem_map.1 hg'
    have hik:=List.mem_range.1 hi;rw[h3,gE_at (hkn j hj)]
    by_cases hc:(to i).getD keep[j] 0<a.getD i 0
    · rw[if_pos hc]
      by_cases hij:i=j
      · subst hij; omega
      · have ht:=((hto i hik).2 j hj).2 hij
        have h5:=(ha i hik).2.2 j hj;have h6:=((hto i hik).1.rng keep[j] (hkn j hj)).1
        rcases ht.is with e | e <;> omega
    · rw[if_neg hc]
      exact hlj
 omega
end
section
variable {n:Nat} {xs:List IneqD} {low is f:List Int}
theorem SolE.solv (h:SolE n xs f) (hl:low.length=n) (hle:∀ v,v<n→low.getD v 0≤f.getD v 0):SolvL xs low f:=
 ⟨by rw[hl]; exact h.1.1,fun v hv=>hle v (by omega),h.2⟩
theorem SolvL.cut (hw:WellE n xs) (h:SolvL xs low f) (hl:low.length=n) (h1:∀ v,v<n→1≤low.getD v 0):∃ g,SolE n xs g∧∀ v,v<n→g.getD v 0=min (f.getD v 0) 3:=by
 have hat:∀ v,v<n→((List.range n).map fun v=>min (f.getD v 0) 3).getD v 0=min (f.getD v 0) 3:=fun v hv=>by
  rw[List.getD_eq_getElem?_getD,List.getElem?_map,List.getElem?_range hv];rfl
 refine⟨(List.range n).map fun v=>min (f.getD v 0) 3,⟨⟨by simp,fun v hv=>?_⟩,fun x hx=>?_⟩,hat⟩
 · have:=h1 v hv
   have:=h.low v (by omega);rw[hat v hv];omega
 · obtain⟨ho,hc1⟩:=hw x hx
   have hh:=h.hold x hx
   by_cases h0:x.lc=0
   · obtain⟨p,q⟩:=ho.lv h0
     obtain⟨u,hu⟩:∃ u:Nat,x.lv=(u:Int):=⟨x.lv.toNat,(Int.toNat_of_nonneg p).symm⟩;have hl1:=hold_var hh h0 hu;refine hold_of h0 hu ?_;rw[hat u (by omega)]
     by_cases hr:0≤x.r
     · rw[if_pos hr] at hl1 ⊢
       rw[hat _ (by have:=ho.r; omega)]
       omega
     · rw[if_neg hr] at hl1 ⊢
       omega
   · have hlc:=ho.lc
     unfold holdL leftL at hh ⊢;rw[if_neg h0] at hh ⊢
     by_cases hr:0≤x.r
     · rw[if_pos hr] at hh ⊢
       rw[hat _ (by have:=ho.r; omega)]
       omega
     · rw[if_neg hr] at hh ⊢
       exact hh
theorem least_sole (hw:WellE n xs) (h:LeastSolL xs low is) (hl:low.length=n) (h1:∀ v,v<n→1≤low.getD v 0∧low.getD v 0≤3):SolE n xs is∧(∀ v,v<n→low.getD v 0≤is.getD v 0)∧∀ g,SolE n xs g→(∀ v,v<n→low.getD v 0≤g.getD v 0)→∀ v,v<n→is.getD v 0≤g.getD v 0:=by
 obtain⟨g,hg,hgv⟩:=h.sol.cut hw hl fun v hv=>(h1 v hv).1
 have hle:∀ v,v<n→is.getD v 0≤g.getD v 0:=fun v hv=>h.least g (hg.solv hl fun v hv=>by
  have:=h.sol.low v (by omega);have:=h1 v hv;rw[hgv v hv]
  omega) v (by omega)
 have e:is=g:=ext_getD (k:=n) (by have:=h.sol.len; omega) hg.1.1 fun v hv=>by
  have:=hle v hv;have:=hgv v hv;omega
 refine⟨by rw[e]; exact hg,fun v hv=>h.sol.low v (by omega),fun g' hg' hl' v hv=>h.least g' (hg'.solv hl hl') v (by omega)⟩
theorem ones_at {v:Nat} (hv:v<n):(List.replicate n (1:Int)).getD v 0=1:=by simp[List.getD,hv]
theorem least_ones (hw:WellE n xs) (h:LeastSolL xs (List.replicate n 1) is):SolE n xs is∧∀ g,SolE n xs g→∀ v,v<n→is.getD v 0≤g.getD v 0:=by
 obtain⟨h1,_,h3⟩:=least_sole hw h (by simp) fun v hv=>by rw[ones_at hv]; omega
 exact⟨h1,fun g hg v hv=>h3 g hg (fun v hv=>by rw[ones_at hv]; exact(hg.1.2 v hv).1) v hv⟩
def freeE (keep:List Nat) (a:List Int):List IneqD:=(List.range keep.length).map fun i=>⟨keep.getD i 0,0,a.getD i 0, -1⟩
def setE (low:List Int):List Nat→List Int→Nat→List Int
 | _,_,0=>low
 | keep,a,i+1=>(setE low keep a i).set (keep.getD i 0) (a.getD i 0)
theorem setE_len (keep:List Nat) (a:List Int):∀ k,(setE low keep a k).length=low.length
 | 0=>rfl
 | k+1=>by rw[setE,List.length_set,setE_len keep a k]
theorem getD_set' (l:List Int) (i j:Nat) (a d:Int) (hi:i<l.length):(l.set i a).getD j d=if i=j then a else l.getD j d:=by
 simp only[List.getD,List.getElem?_set]
 by_cases e:i=j
 · subst e; simp[hi]
 · simp[e]
theorem setE_at {keep:List Nat} {a:List Int} (hk:∀ v∈keep,v<low.length):∀ k,k≤keep.length→∀ u,((∀ i,i<k→keep.getD i 0≠u)→(setE low keep a k).getD u 0=low.getD u 0)∧((∃ i,i<k∧keep.getD i 0=u)→∃ i,i<k∧keep.getD i 0=u∧(setE low keep a k).getD u 0=a.getD i 0)
 | 0,_,u=>⟨fun _=>rfl,fun⟨i,h,_⟩=>absurd h (by omega)⟩
 | k+1,hkl,u=>by
   obtain⟨h1,h2⟩:=setE_at hk k (by omega) u
   have hm:keep.getD k 0<low.length:=by
    have hlt:k<keep.length:=by omega
    rw[List.getD_eq_getElem?_getD,qj hlt];exact hk _ (List.getElem_mem hlt)
   have hs:=getD_set' (setE low keep a k) (keep.getD k 0) u (a.getD k 0) 0 (by rw[setE_len]; exact hm)
   refine⟨fun h=>?_,fun⟨i,hi,e⟩=>?_⟩
   · rw[setE,hs,if_neg (h k (by omega))]
     exact h1 fun i hi=>h i (by omega)
   · by_cases hc:keep.getD k 0=u
     · exact⟨k,by omega,hc,by rw[setE,hs,if_pos hc]⟩
     · have hik:i<k:=by
        rcases Nat.lt_or_ge i k with h | h
        · exact h
        · obtain rfl:i=k:=by omega
          exact absurd e hc
       obtain⟨i',h3,h4,h5⟩:=h2 ⟨i,hik,e⟩
       exact⟨i',by omega,h4,by rw[setE,hs,if_neg hc,h5]⟩
theorem mem_free {keep:List Nat} {a:List Int} {x:IneqD}:x∈freeE keep a↔∃ i,i<keep.length∧x=⟨keep.getD i 0,0,a.getD i 0, -1⟩:=by
 unfold freeE;rw[List.mem_map];exact⟨fun⟨i,h,e⟩=>⟨i,List.mem_range.1 h,e.symm⟩,fun⟨i,h,e⟩=>⟨i,List.mem_range.2 h,e.symm⟩⟩
theorem keep_lt {keep:List Nat} (hk:∀ v∈keep,v<n) {i:Nat} (hi:i<keep.length):keep.getD i 0<n:=by
 rw[List.getD_eq_getElem?_getD,qj hi];exact hk _ (List.getElem_mem hi)
theorem free_well {keep:List Nat} {a:List Int} (hw:WellE n xs) (hk:∀ v∈keep,v<n) (ha:∀ i,i<keep.length→1≤a.getD i 0):WellE n (xs++freeE keep a):=fun x hx=>by
 rcases List.mem_append.1 hx with hx | hx
 · exact hw x hx
 · obtain⟨i,hi,rfl⟩:=mem_free.1 hx
   have:=keep_lt hk hi
   exact⟨⟨fun _=>⟨by show(0:Int)≤((keep.getD i 0:Nat):Int); omega,by show((keep.getD i 0:Nat):Int)<n; omega⟩,by show(-1:Int)<n; omega,by show(0:Int)≤3; omega⟩,ha i hi⟩
theorem free_sol {keep:List Nat} {a:List Int} (hk:∀ v∈keep,v<n):SolE n (xs++freeE keep a) f↔SolE n xs f∧∀ i,i<keep.length→f.getD (keep.getD i 0) 0≤a.getD i 0:=by
 refine⟨fun h=>⟨⟨h.1,fun x hx=>h.2 x (List.mem_append_left _ hx)⟩,fun i hi=>?_⟩,fun h=>⟨h.1.1,fun x hx=>?_⟩⟩
 · have:=hold_var (x:=⟨keep.getD i 0,0,a.getD i 0, -1⟩) (u:=keep.getD i 0) (h.2 _ (List.mem_append_right _ (mem_free.2 ⟨i,hi,rfl⟩))) rfl rfl
   rw[if_neg (by show ¬ (0:Int) ≤ -1; omega)] at this
   exact this
 · rcases List.mem_append.1 hx with hx | hx
   · exact h.1.2 x hx
   · obtain⟨i,hi,rfl⟩:=mem_free.1 hx
     refine hold_of (u:=keep.getD i 0) rfl rfl ?_
     rw[if_neg (by show ¬ (0:Int) ≤ -1; omega)]
     exact h.2 i hi
theorem free_iff {keep:List Nat} {a:List Int} (hw:WellE n xs) (hk:∀ v∈keep,v<n) (hd:keep.Nodup) (ha:∀ i,i<keep.length→1≤a.getD i 0∧a.getD i 0≤3):
 (∃ g,SolvL (xs++freeE keep a) (setE (List.replicate n 1) keep a keep.length) g)↔∃ f,SolE n xs f∧∀ i,i<keep.length→f.getD (keep.getD i 0) 0=a.getD i 0:=by
 have hkr:∀ v∈keep,v<(List.replicate n (1:Int)).length:=fun v hv=>by rw[List.length_replicate]; exact hk v hv
 have hlen:=setE_len (low:=List.replicate n (1:Int)) keep a keep.length;rw[List.length_replicate] at hlen
 have hinj:∀ i j,i<keep.length→j<keep.length→keep.getD i 0=keep.getD j 0→i=j:=fun i j hi hj e=>by
  rw[List.getD_eq_getElem?_getD,List.getD_eq_getElem?_getD,qj hi,qj hj] at e;exact(List.getElem_inj hd).1 e
 have hset:∀ i,i<keep.length→(setE (List.replicate n 1) keep a keep.length).getD (keep.getD i 0) 0=a.getD i 0:=fun i hi=>by
  obtain⟨j,hj,e,e2⟩:=(setE_at (a:=a) hkr keep.length (Nat.le_refl _) (keep.getD i 0)).2 ⟨i,hi,rfl⟩;rw[e2,hinj j i hj hi e]
 have hrest:∀ u,u<n→(∀ i,i<keep.length→keep.getD i 0≠u)→(setE (List.replicate n 1) keep a keep.length).getD u 0=1:=fun u hu h=>by
  rw[(setE_at (a:=a) hkr keep.length (Nat.le_refl _) u).1 h,ones_at hu]
 have h1:∀ v,v<n→1≤(setE (List.replicate n 1) keep a keep.length).getD v 0:=fun v hv=>by
  by_cases h:∃ i,i<keep.length∧keep.getD i 0=v
  · obtain⟨i,hi,rfl⟩:=h
    rw[hset i hi]; exact(ha i hi).1
  · rw[hrest v hv fun i hi e=>h ⟨i,hi,e⟩]
    omega
 constructor
 · rintro⟨g,hg⟩
   obtain⟨f,hf,hfv⟩:=hg.cut (free_well hw hk fun i hi=>(ha i hi).1) hlen h1;obtain⟨q1,q2⟩:=(free_sol hk).1 hf;refine⟨f,q1,fun i hi=>?_⟩;have hlt:=keep_lt hk hi;have h2:=hg.low (keep.getD i 0) (by omega);rw[hset i hi] at h2;have h3:=hfv _ hlt;have h4:=q2 i hi;have h5:=ha i hi;omega
 · rintro⟨f,hf,hfi⟩
   refine⟨f,SolE.solv (n:=n) ((free_sol hk).2 ⟨hf,fun i hi=>by rw[hfi i hi]; exact Int.le_refl _⟩) hlen fun v hv=>?_⟩
   by_cases h:∃ i,i<keep.length∧keep.getD i 0=v
   · obtain⟨i,hi,rfl⟩:=h
     rw[hset i hi,hfi i hi]; exact Int.le_refl _
   · rw[hrest v hv fun i hi e=>h ⟨i,hi,e⟩]
     exact(hf.1.2 v hv).1
end
end Go.Proofs.YtdmakpmbknindaaGreatDoor
namespace Go.Proofs.YtdmakpmbknindaaGreatDoor
open Go.RowKit
def TightPost (lv lr up t:Int) (w:World) (e:Ending) (w':World):Prop:=∃ p,e=.returned (.int .u8 p)∧TightE lv lr up t p∧w=w'
theorem tight_any (bL bV bU bT:Nat) (AL:Option Addr) (nl cl:Nat) (low:List Int) (AT:Option Addr) (nt ct:Nat) (to:List Int) (v r:Nat) (up:Int) (w:World) {lv lr t:Int} (hL:w.cell? ⟨bL,0,none⟩=some (.slice AL nl cl)) (hV:w.cell? ⟨bV,0,none⟩=some (.int .i64 v)) (hU:w.cell? ⟨bU,0,none⟩=some (.int .u8 up)) (hT:w.cell? ⟨bT,0,none⟩=some (.slice AT nt ct))
 (rL:RdI .u8 w w.heap.size AL nl cl low) (rT:RdI .u8 w w.heap.size AT nt ct to) (hv:v<nl) (hr:r<nl) (hrt:r<nt) (hlv:low.getD v 0=lv) (hlr:low.getD r 0=lr) (ht:to.getD r 0=t) (h1:1≤lv∧lv≤3) (h2:1≤up∧up≤3):
 Calls Tryz.prog 110 #[.int .i64 r,.pointer (some ⟨bL,0,none⟩),.pointer (some ⟨bV,0,none⟩),.pointer (some ⟨bU,0,none⟩),.pointer (some ⟨bT,0,none⟩)] w (TightPost lv lr up t w):=by
 have ll:=rL.len;have lt:=rT.len;obtain⟨b1,o1,rfl,_,hc1⟩:=rL.at_ (by omega);obtain⟨b2,o2,rfl,_,hc2⟩:=rT.at_ (by omega);have e1:=hc1 v (by omega);have e2:=hc1 r (by omega);have e3:=hc2 r (by omega)
 have g:∀ (us:List Int) (i:Nat) (h:i<us.length),us[i]=us.getD i 0:=fun us i h=>by rw[List.getD_eq_getElem?_getD,qj h]; rfl
 rw[g,hlv] at e1;rw[g,hlr] at e2;rw[g,ht] at e3
 have k1:(0:Int)≤(v:Int):=by omega
 have k2:(v:Int)<nl:=by omega
 have k3:(0:Int)≤(r:Int):=by omega
 have k4:(r:Int)<nl:=by omega
 have k5:(r:Int)<nt:=by omega
 have n63:nl≤9223372036854775807:=Nat.le_trans rL.2.1 rL.2.2;have n63':nt≤9223372036854775807:=Nat.le_trans rT.2.1 rT.2.2;have hmx:=@run_max2 Tryz.prog;clear hc1 hc2 g rL rT
 go_enter Tryz.func110,Tryz.ntmps110
 go_wp2_with fail;obtain⟨m0,hm0⟩:∃ m,max lv 2=m:=⟨_,rfl⟩;rw[hm0]
 have hmr:2≤m0∧m0≤3:=by omega
 go_loopg [7,8] ((4 - m0).toNat) (fun gh c i wr=>∃ m p:Int,gh=(4 - m).toNat∧i=.int .u8 m∧m0≤m∧m≤4∧wr=w∧c=.int .u8 p∧1≤p∧(p=1∨(m0≤p∧p<m∧p≤up∧lr<p∧p≤t))∧∀ q,m0≤q→q<m→q≤up→lr<q→q≤t→q≤p)
 case atStart=>exact⟨m0,1,rfl,rfl,Int.le_refl _,by omega,rfl,rfl,by omega,.inl rfl,fun q a b=>by omega⟩
 case round=>
  obtain⟨m,p,rfl,rfl,hm1,hm4,rfl,rfl,hp1,hp2,hp3⟩:=hrel;have Hp2:=qq hp2;have Hp3:=qq hp3;clear hp2 hp3
  by_cases hmu:m≤up
  · have d1:decide (m≤up)=true:=by simpa using hmu
    by_cases hml:lr<m
    · have d2:decide (lr<m)=true:=by simpa using hml
      by_cases hmt:m≤t
      · have d3:decide (m≤t)=true:=by simpa using hmt
        have HT:Hid (1≤m∧(m=1∨(m0≤m∧m<m+1∧m≤up∧lr<m∧m≤t))∧∀ q,m0≤q→q<m+1→q≤up→lr<q→q≤t→q≤m):=qq ⟨by omega,.inr ⟨hm1,by omega,hmu,hml,hmt⟩,fun q _ _ _ _ _=>by omega⟩
        go_wp2_with fail;go_roundg ((4 - (m+1)).toNat)
        case measure=>omega
        case rel=>exact⟨m+1,m,rfl,by go_num,by omega,by omega,rfl,rfl,HT.out⟩
      · have d3:decide (m≤t)=false:=by simpa using hmt
        have HT:Hid (1≤p∧(p=1∨(m0≤p∧p<m+1∧p≤up∧lr<p∧p≤t))∧∀ q,m0≤q→q<m+1→q≤up→lr<q→q≤t→q≤p):=qq ⟨hp1,Hp2.out.imp id fun h=>⟨h.1,by omega,h.2.2⟩,fun q a b c d e=>Hp3.out q a (by omega) c d e⟩
        go_wp2_with fail;go_roundg ((4 - (m+1)).toNat)
        case measure=>omega
        case rel=>exact⟨m+1,p,rfl,by go_num,by omega,by omega,rfl,rfl,HT.out⟩
    · have d2:decide (lr<m)=false:=by simpa using hml
      have HT:Hid (1≤p∧(p=1∨(m0≤p∧p<m+1∧p≤up∧lr<p∧p≤t))∧∀ q,m0≤q→q<m+1→q≤up→lr<q→q≤t→q≤p):=qq ⟨hp1,Hp2.out.imp id fun h=>⟨h.1,by omega,h.2.2⟩,fun q a b c d e=>Hp3.out q a (by omega) c d e⟩
      go_wp2_with fail;go_roundg ((4 - (m+1)).toNat)
      case measure=>omega
      case rel=>exact⟨m+1,p,rfl,by go_num,by omega,by omega,rfl,rfl,HT.out⟩
  · have d1:decide (m≤up)=false:=by simpa using hmu
    have HT:Hid (TightE lv lr up t p):=qq ⟨hp1,Hp2.out.imp id fun h=>⟨by omega,h.2.2⟩,fun q a b c d=>Hp3.out q (by omega) (by omega) b c d⟩
    go_wp2_with fail;go_ret;exact⟨p,rfl,HT.out,rfl⟩
end Go.Proofs.YtdmakpmbknindaaGreatDoor
