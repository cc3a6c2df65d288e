import Derived.Test.YtdmakpmbknindaaGreatDoorM28
set_option linter.unusedVariables false
set_option linter.unusedSimpArgs false
set_option maxHeartbeats 4000000
set_option maxRecDepth 100000
namespace Go.Proofs.YtdmakpmbknindaaGreatDoor
open Go.RowKit
def StM.fm (s:StM):Int→Int × Int:=fun v=>(s.mults v).getD (v,0)
structure ExtS (s s':StM):Prop where
 types:∀ n x,s.types n=some x→s'.types n=some x
 mults:∀ v m,s.mults v=some m→s'.mults v=some m
theorem ExtS.refl (s:StM):ExtS s s:=⟨fun _ _ h=>h,fun _ _ h=>h⟩
theorem ExtS.trans {s s' s'':StM} (h:ExtS s s') (h':ExtS s' s''):ExtS s s'':=⟨fun n x e=>h'.types n x (h.types n x e),fun v m e=>h'.mults v m (h.mults v m e)⟩
structure MadeS (t u:TyD) (s s':StM):Prop where
 ext:ExtS s s'
 v:∀ n∈allV t,∃ x,s'.types n=some x
 m:∀ v∈allM t,∃ x,s'.mults v=some x
 turn:turnT s'.types s'.fm t=u
theorem MadeS.more {t u:TyD} {s s' s'':StM} (ht:mayT t=true) (h:MadeS t u s s') (he:ExtS s' s''):MadeS t u s s'':=by
 refine⟨h.ext.trans he,fun n hn=>?_,fun v hv=>?_,?_⟩
 · obtain⟨x,e⟩:=h.v n hn
   exact⟨x,he.types n x e⟩
 · obtain⟨x,e⟩:=h.m v hv
   exact⟨x,he.mults v x e⟩
 · rw[← h.turn]
   refine turn_congr ht (fun n hn=>?_) (fun v hv=>?_)
   · obtain⟨x,e⟩:=h.v n hn
     rw[he.types n x e,e]
   · obtain⟨x,e⟩:=h.m v hv
     unfold StM.fm;rw[he.mults v x e,e]
theorem putT_ext {s:StM} {n:Int} {u:TyD} (h:s.types n=none):ExtS s (s.putT n u):=⟨fun j x e=>by
 show(if j=n then some u else s.types j)=some x
 by_cases hj:j=n
 · subst hj; rw[h] at e; cases e
 · rw[if_neg hj]; exact e,fun _ _ e=>e⟩
theorem putM_ext {s:StM} {v:Int} {m:Int × Int} (h:s.mults v=none∨s.mults v=some m):ExtS s (s.putM v m):=⟨fun _ _ e=>e,fun j x e=>by
 show(if j=v then some m else s.mults j)=some x
 by_cases hj:j=v
 · subst hj
   rw[if_pos rfl]
   rcases h with h | h
   · rw[h] at e; cases e
   · rw[← e,h]
 · rw[if_neg hj]; exact e⟩
theorem fitsM_true {t u:TyD} {s s':StM} (h:fitsM t u s=(true,s')):ExtS s s'∧(t.k=7∧t.c=0→s'.mults t.v=some (u.v,u.c)):=by
 unfold fitsM at h
 split at h
 · split at h
   · rename_i was hw
     split at h
     · rename_i he
       injection h with _ h
       subst h
       exact⟨putM_ext (.inr (by rw[hw,he])),fun _=>by show(if t.v=t.v then _ else _)=_; rw[if_pos rfl]⟩
     · injection h with h _; cases h
   · rename_i hw
     injection h with _ h
     subst h
     exact⟨putM_ext (.inl hw),fun _=>by show(if t.v=t.v then _ else _)=_; rw[if_pos rfl]⟩
 · rename_i hn
   injection h with _ h
   subst h;exact⟨ExtS.refl _,fun hh=>absurd hh hn⟩
theorem allM_mem {t:TyD} (ht:mayT t=true) {v:Int} (h:v∈allM t):(t.k=7∧t.c=0∧v=t.v)∨∃ x∈t.l,v∈allM x:=by
 by_cases hk:t.k=7
 · have f:=may_facts ht
   have hl:(t.l.length:Int)=2:=by
    have:=f.2.2.2.2.1;rw[hk] at this;exact this (by decide)
   match hl2:t.l,hl with
   | [a,b],_=>
     rw[allM_fun hk hl2] at h;simp only[List.mem_append] at h
     rcases h with (h | h) | h
     · exact .inr ⟨a,by simp,h⟩
     · split at h
       · rename_i hc
         exact .inl ⟨hk,hc,by simpa using h⟩
       · cases h
     · exact .inr ⟨b,by simp,h⟩
 · rw[allM_not hk] at h
   obtain⟨x,hx,hv⟩:=List.mem_flatMap.1 h;exact .inr ⟨x,hx,hv⟩
theorem fitsL_made {f:TyD→TyD→StM→Bool × StM}:∀ (xs ys:List TyD) (s s':StM),(∀ x∈xs,∀ y∈ys,∀ s s',f x y s=(true,s')→MadeS x y s s')→(∀ x∈xs,mayT x=true)→xs.length=ys.length→fitsL f xs ys s=(true,s') →
 ExtS s s'∧(∀ x∈xs,(∀ n∈allV x,∃ y,s'.types n=some y)∧∀ v∈allM x,∃ y,s'.mults v=some y)∧xs.map (turnT s'.types s'.fm)=ys
 | [],[],s,s',_,_,_,h=>by
   unfold fitsL at h
   injection h with _ h
   subst h;exact⟨ExtS.refl _,fun x hx=>absurd hx List.not_mem_nil,rfl⟩
 | [],_ :: _,_,_,_,_,hl,_=>by cases hl
 | _ :: _,[],_,_,_,_,hl,_=>by cases hl
 | x :: xs,y :: ys,s,s',hf,hm,hl,h=>by
   unfold fitsL at h
   split at h
   · rename_i s1 h1
     have hx:=hf x (List.mem_cons_self ..) y (List.mem_cons_self ..) s s1 h1;have hr:=fitsL_made xs ys s1 s' (fun a ha b hb=>hf a (List.mem_cons_of_mem _ ha) b (List.mem_cons_of_mem _ hb)) (fun a ha=>hm a (List.mem_cons_of_mem _ ha)) (by simpa using hl) h;have hx':=hx.more (hm x (List.mem_cons_self ..)) hr.1;refine⟨hx'.ext,fun a ha=>?_,?_⟩
     · rcases qk.1 ha with rfl | ha
       · exact⟨hx'.v,hx'.m⟩
       · exact hr.2.1 a ha
     · rw[List.map_cons,hx'.turn,hr.2.2]
   · injection h with h _; cases h
theorem headB_iff {t u:TyD}:headB t u=true↔t.k=u.k∧t.n=u.n∧t.l.length=u.l.length:=by
 unfold headB;simp only[Bool.and_eq_true,beq_iff_eq];exact⟨fun h=>⟨h.1.1,h.1.2,h.2⟩,fun h=>⟨⟨h.1,h.2.1⟩,h.2.2⟩⟩
theorem armB_iff {t u:TyD}:armB t u=true↔(t.k=7→t.c≠0→t.v=u.v∧t.c=u.c):=by
 unfold armB;simp only[Bool.not_eq_true',Bool.and_eq_false_iff,Bool.not_eq_false',beq_eq_false_iff_ne,bne_eq_false_iff_eq,Bool.and_eq_true,beq_iff_eq,ne_eq];refine⟨fun h h1 h2=>?_,fun h=>?_⟩
 · rcases h with (h | h) | h
   · exact absurd h1 h
   · exact absurd h h2
   · exact h
 · by_cases h1:t.k=7
   · by_cases h2:t.c=0
     · exact .inl (.inr h2)
     · exact .inr (h h1 h2)
   · exact .inl (.inl h1)
theorem allV_plain (n:Int):allV (plainV n)=[n]:=by rw[allV_eq]; rfl
theorem allM_plainV (n:Int):allM (plainV n)=[]:=by rw[allM_not (show(plainV n).k≠7 from fun h=>absurd h (by decide:¬ (1:Int)=7))]; rfl
theorem fits_made:∀ (N:Nat) (t u:TyD) (s s':StM),mayT t=true→mayT u=true→fitsN N t u s=(true,s')→MadeS t u s s'
 | 0,t,u,s,s',_,_,h=>by unfold fitsN at h; injection h with h _; cases h
 | N+1,t,u,s,s',ht,hu,h=>by
   by_cases hk:t.k=1
   · have hp:=may_var ht hk
     cases hs:s.types t.n with
     | some was=>
       rw[fitsN_old hk hs] at h
       injection h with h1 h2
       subst h2;have hw:=(sameT_iff was u).1 h1;refine⟨ExtS.refl _,fun n hn=>?_,fun v hv=>?_,?_⟩
       · rw[hp,allV_plain,List.mem_singleton] at hn
         exact⟨was,by rw[hn]; exact hs⟩
       · rw[hp,allM_plainV] at hv; cases hv
       · rw[turnT_eq,if_pos hk,hs]
         exact hw
     | none=>
       rw[fitsN_new hk hs] at h
       injection h with h1 h2
       subst h2
       have hn':(s.putT t.n u).types t.n=some u:=by show(if t.n=t.n then _ else _)=_; rw[if_pos rfl]
       refine⟨putT_ext hs,fun n hn=>?_,fun v hv=>?_,?_⟩
       · rw[hp,allV_plain,List.mem_singleton] at hn
         exact⟨u,by rw[hn]; exact hn'⟩
       · rw[hp,allM_plainV] at hv; cases hv
       · rw[turnT_eq,if_pos hk,hn']
         rfl
   · cases h1:headB t u with
     | false=>rw[fitsN_head hk h1] at h; injection h with h _; cases h
     | true=>
       cases h2:armB t u with
       | false=>rw[fitsN_arm hk h1 h2] at h; injection h with h _; cases h
       | true=>
         obtain⟨⟨b,s1⟩,h3⟩:∃ q,fitsM t u s=q:=⟨_,rfl⟩
         cases b with
         | false=>rw[fitsN_mult hk h1 h2 h3] at h; injection h with h _; cases h
         | true=>
           rw[fitsN_kids hk h1 h2 h3,fitsK_zero] at h;obtain⟨e1,e2,e3⟩:=headB_iff.1 h1;have ft:=may_facts ht;have fu:=may_facts hu;have hM:=fitsM_true h3;have hL:=fitsL_made t.l u.l s1 s' (fun x hx y hy s s' hh=>fits_made N x y s s' (ft.2.2.2.2.2.2 x hx) (fu.2.2.2.2.2.2 y hy) hh) ft.2.2.2.2.2.2 e3 h;refine⟨hM.1.trans hL.1,fun n hn=>?_,fun v hv=>?_,?_⟩
           · rw[allV_eq,if_neg hk,List.nil_append] at hn
             obtain⟨x,hx,hn⟩:=List.mem_flatMap.1 hn;exact(hL.2.1 x hx).1 n hn
           · rcases allM_mem ht hv with ⟨q1,q2,rfl⟩ | ⟨x,hx,hv⟩
             · exact⟨_,hL.1.mults _ _ (hM.2 ⟨q1,q2⟩)⟩
             · exact(hL.2.1 x hx).2 v hv
           · rw[turnT_eq,if_neg hk,hL.2.2]
             by_cases hc:t.k=7∧t.c=0
             · have hm:=hL.1.mults _ _ (hM.2 hc)
               have hm':s'.fm t.v=(u.v,u.c):=by unfold StM.fm; rw[hm]; rfl
               rw[if_pos hc,if_pos hc,hm'];exact ty_ext e1 e2 rfl rfl rfl
             · rw[if_neg hc,if_neg hc]
               by_cases h7:t.k=7
               · obtain⟨q1,q2⟩:=armB_iff.1 h2 h7 (fun h0=>hc ⟨h7,h0⟩)
                 exact ty_ext e1 e2 q1 q2 rfl
               · have q1:=ft.2.2.2.2.2.1
                 have q2:=fu.2.2.2.2.2.1
                 rcases q1 with q1 | q1
                 · rcases q2 with q2 | q2
                   · exact ty_ext e1 e2 (by show t.v=u.v; omega) (by show t.c=u.c; omega) rfl
                   · exact absurd (e1.trans q2.1) h7
                 · exact absurd q1.1 h7
structure AgreeS (s:StM) (fv:Int→Option TyD) (fm:Int→Int × Int):Prop where
 types:∀ n x,s.types n=some x→x=(fv n).getD (plainV n)
 mults:∀ v m,s.mults v=some m→m=fm v
theorem AgreeS.none (fv:Int→Option TyD) (fm:Int→Int × Int):AgreeS StM.none fv fm:=⟨fun n x h=>absurd h (by simp[StM.none]),fun v m h=>absurd h (by simp[StM.none])⟩
theorem fitsL_comes {f:TyD→TyD→StM→Bool × StM} {fv:Int→Option TyD} {fm:Int→Int × Int}:∀ (xs:List TyD) (s:StM),(∀ x∈xs,∀ s,AgreeS s fv fm→∃ s',f x (turnT fv fm x) s=(true,s')∧AgreeS s' fv fm)→AgreeS s fv fm→∃ s',fitsL f xs (xs.map (turnT fv fm)) s=(true,s')∧AgreeS s' fv fm
 | [],s,_,h=>⟨s,rfl,h⟩
 | x :: xs,s,hf,h=>by
   obtain⟨s1,h1,a1⟩:=hf x (List.mem_cons_self ..) s h;obtain⟨s2,h2,a2⟩:=fitsL_comes xs s1 (fun a ha=>hf a (List.mem_cons_of_mem _ ha)) a1;refine⟨s2,?_,a2⟩;rw[List.map_cons,fitsL,h1];exact h2
theorem fits_comes {fv:Int→Option TyD} {fm:Int→Int × Int}:∀ (N:Nat) (t:TyD) (s:StM),nodes t≤N→mayT t=true→AgreeS s fv fm→∃ s',fitsN N t (turnT fv fm t) s=(true,s')∧AgreeS s' fv fm
 | 0,t,s,hN,_,_=>by rw[nodes_eq] at hN; omega
 | N+1,t,s,hN,ht,hA=>by
   by_cases hk:t.k=1
   · have hp:=may_var ht hk
     have hu:turnT fv fm t=(fv t.n).getD (plainV t.n):=by rw[turnT_eq,if_pos hk,← hp]
     cases hs:s.types t.n with
     | some was=>
       rw[fitsN_old hk hs];have:=hA.types _ _ hs
       exact⟨s,by rw[(sameT_iff was _).2 (by rw[this,hu])],hA⟩
     | none=>
       rw[fitsN_new hk hs];refine⟨_,rfl,⟨fun n x h=>?_,hA.mults⟩⟩;have h:(if n=t.n then some (turnT fv fm t) else s.types n)=some x:=h
       by_cases hn:n=t.n
       · rw[if_pos hn] at h
         injection h with h
         rw[← h,hu,hn]
       · rw[if_neg hn] at h
         exact hA.types n x h
   · have ft:=may_facts ht
     obtain⟨u,hu⟩:∃ u,turnT fv fm t=u:=⟨_,rfl⟩;rw[hu];have hue:=hu;rw[turnT_eq,if_neg hk] at hue
     have e1:u.k=t.k:=by rw[← hue]; rfl
     have e2:u.n=t.n:=by rw[← hue]; rfl
     have e3:u.l=t.l.map (turnT fv fm):=by rw[← hue]; rfl
     have e4:u.v=if t.k=7∧t.c=0 then (fm t.v).1 else t.v:=by rw[← hue]; rfl
     have e5:u.c=if t.k=7∧t.c=0 then (fm t.v).2 else t.c:=by rw[← hue]; rfl
     have h1:headB t u=true:=headB_iff.2 ⟨e1.symm,e2.symm,by rw[e3,List.length_map]⟩
     have h2:armB t u=true:=armB_iff.2 fun h7 h0=>by
      rw[e4,e5,if_neg (fun h=>h0 h.2),if_neg (fun h=>h0 h.2)];exact⟨rfl,rfl⟩
     have h3:∃ s1,fitsM t u s=(true,s1)∧AgreeS s1 fv fm:=by
      unfold fitsM
      by_cases hc:t.k=7∧t.c=0
      · rw[if_pos hc]
        rw[if_pos hc] at e4 e5
        have hput:AgreeS (s.putM t.v (u.v,u.c)) fv fm:=⟨hA.types,fun v m h=>by
         have h:(if v=t.v then some (u.v,u.c) else s.mults v)=some m:=h
         by_cases hv:v=t.v
         · rw[if_pos hv] at h
           injection h with h
           rw[← h,e4,e5,hv]
         · rw[if_neg hv] at h
           exact hA.mults v m h⟩
        cases hs:s.mults t.v with
        | some was=>
          have hw:=hA.mults _ _ hs
          have hw2:was=(u.v,u.c):=by rw[hw,e4,e5]
          simp only[hw2,if_true];exact⟨_,rfl,hput⟩
        | none=>exact⟨_,rfl,hput⟩
      · rw[if_neg hc]
        exact⟨s,rfl,hA⟩
     obtain⟨s1,h3,hA1⟩:=h3;rw[fitsN_kids hk h1 h2 h3,fitsK_zero,e3]
     exact fitsL_comes t.l s1 (fun x hx s hs=>fits_comes N x s (by have:=nodes_mem hx; rw[nodes_eq] at hN; omega) (ft.2.2.2.2.2.2 x hx) hs) hA1
theorem match_made {t u:TyD} (ht:mayT t=true) (hu:mayT u=true) (h:(fitsN (nodes t) t u StM.none).1=true):MadeS t u StM.none (fitsN (nodes t) t u StM.none).2:=
 fits_made (nodes t) t u StM.none _ ht hu (Prod.ext h rfl)
theorem match_comes {t:TyD} (ht:mayT t=true) (fv:Int→Option TyD) (fm:Int→Int × Int):(fitsN (nodes t) t (turnT fv fm t) StM.none).1=true∧AgreeS (fitsN (nodes t) t (turnT fv fm t) StM.none).2 fv fm:=by
 obtain⟨s',h1,h2⟩:=fits_comes (nodes t) t StM.none (Nat.le_refl _) ht (AgreeS.none fv fm);rw[h1];exact⟨rfl,h2⟩
theorem match_iff {t u:TyD} (ht:mayT t=true) (hu:mayT u=true):(fitsN (nodes t) t u StM.none).1=true↔∃ fv fm,turnT fv fm t=u:=by
 refine⟨fun h=>⟨_,_,(match_made ht hu h).turn⟩,fun⟨fv,fm,h⟩=>?_⟩;have:=(match_comes ht fv fm).1;rwa [h] at this
theorem match_puts {t u:TyD} (ht:mayT t=true) (hu:mayT u=true) {fv:Int→Option TyD} {fm:Int→Int × Int} (h:turnT fv fm t=u):
 (∀ n∈allV t,(fitsN (nodes t) t u StM.none).2.types n=some ((fv n).getD (plainV n)))∧∀ v∈allM t,(fitsN (nodes t) t u StM.none).2.mults v=some (fm v):=by
 have hc:=match_comes ht fv fm;rw[h] at hc;have hm:=match_made ht hu hc.1;refine⟨fun n hn=>?_,fun v hv=>?_⟩
 · obtain⟨x,e⟩:=hm.v n hn
   rw[e,← hc.2.types n x e]
 · obtain⟨x,e⟩:=hm.m v hv
   rw[e,← hc.2.mults v x e]
theorem num0:numT 0=⟨#[48]⟩:=by
 have:(Lib.itoa 0).toArray=#[48]:=by decide +kernel
 unfold numT;rw[this]
theorem num1:numT 1=⟨#[49]⟩:=by
 have:(Lib.itoa 1).toArray=#[49]:=by decide +kernel
 unfold numT;rw[this]
theorem name8_any (v:Int) (x:ByteArray) (hx:numT v=x) (hs:x.size≤21) (h0 : -9223372036854775808≤v) (h1:v≤9223372036854775807) (w:World) (ht:Tab w):
 Calls Tryz.prog 136 #[.int .i64 v] w fun e w'=>e=.returned (.string (⟨#[109]⟩++x))∧Below w.heap.size w w':=by
 have hi:=itoa_any v h0 h1 w ht;rw[hx] at hi;have Hi:=qq hi;clear hi hx
 go_enter Tryz.func136,Tryz.ntmps136
 go_wp2_with fail
 refine Hi.out.mono ?_; rintro e w1 ⟨rfl,hb1⟩
 go_wp2_with fail;go_ret;exact⟨rfl,hb1⟩
theorem join1_any (b o c:Nat) (x sep:ByteArray) (w:World) (hx:w.cell? ⟨b,o,none⟩=some (.string x)):
 Calls Tryz.prog 92 #[.slice (some ⟨b,o,none⟩) 1 c,.string sep] w fun e w'=>e=.returned (.string x)∧w=w':=by
 have hx':w.cell? ⟨b,o+0,none⟩=some (.string x):=hx
 go_enter Tryz.func92,Tryz.ntmps92
 go_wp2_with fail;go_ret;exact⟨rfl,rfl⟩
def txK:ByteArray:=⟨#[63,32,60,61,32,109,49]⟩
theorem ineqK_any (w:World) (ht:Tab w):
 Calls Tryz.prog 91 #[.agg #[.int .i64 0,.int .u8 2,.int .u8 1,.int .i64 1]] w fun e w'=>e=.returned (.string txK)∧Below w.heap.size w w':=by
 obtain⟨i0,hi0,hz0,hz1,hz2⟩:=info_parts (show(Tryz.prog.info? 9).map (fun i=>(i.zero,i.size,i.bytes))=some (some (.string ⟨#[]⟩),1,16) from by kernel_rfl)
 have hbel0:Below w.heap.size w (w.alloc (Obj.cells #[.int .i64 0,.int .u8 2,.int .u8 1,.int .i64 1] 70)):=below_box _;have hself0:=blk_new w #[.int .i64 0,.int .u8 2,.int .u8 1,.int .i64 1] 70;have Ht:=qq ht;clear ht;obtain⟨m0,hm0⟩:∃ m:ByteArray,(⟨#[109]⟩++(⟨#[48]⟩:ByteArray))=m:=⟨_,rfl⟩;obtain⟨m1,hm1⟩:∃ m:ByteArray,(⟨#[109]⟩++(⟨#[49]⟩:ByteArray))=m:=⟨_,rfl⟩;obtain⟨mt,hmt⟩:∃ m:ByteArray,mtext 2=m:=⟨_,rfl⟩
 have z1:m1.size≤22:=by rw[← hm1]; decide
 have zt:mt.size≤22:=by rw[← hmt]; decide
 have HT:Hid (mt++(⟨#[32,60,61,32]⟩:ByteArray)++m1=txK):=qq (by rw[← hmt,← hm1]; rfl)
 have Hm0:=qq hm0;have Hm1:=qq hm1;have Hmt:=qq hmt;clear hm0 hm1 hmt
 go_enter Tryz.func91,Tryz.ntmps91
 go_wp2_with fail;generalize w.alloc (Obj.cells #[.int .i64 0,.int .u8 2,.int .u8 1,.int .i64 1] 70)=w0 at hbel0 hself0 ⊢
 refine(name8_any 0 _ num0 (by decide) (by decide) (by decide) w0 (Ht.out.below hbel0)).mono ?_; rw[Hm0.out]; rintro e w1 ⟨rfl,hb1⟩
 have hbel1:=hbel0.trans (hb1.mono hbel0.size);have hself1:=hself0.below hb1 hself0.lt;have x1:w1.cell? ⟨w.heap.size,1,none⟩=some (.int .u8 2):=hself1.cell 1;clear hb1 hbel0 hself0;go_wp2_with fail
 refine(text_any 2 w1).mono ?_; rw[Hmt.out]; rintro e w2 ⟨rfl,hb2⟩
 have hbel2:=hbel1.trans (hb2.mono hbel1.size);have hself2:=hself1.below hb2 hself1.lt;have y2:w2.cell? ⟨w.heap.size,2,none⟩=some (.int .u8 1):=hself2.cell 2;have y3:w2.cell? ⟨w.heap.size,3,none⟩=some (.int .i64 1):=hself2.cell 3;clear hb2 hbel1 hself1 x1;go_wp2_with fail
 refine(name8_any 1 _ num1 (by decide) (by decide) (by decide) w2 (Ht.out.below hbel2)).mono ?_; rw[Hm1.out]; rintro e w6 ⟨rfl,hb6⟩
 have hbel6:=hbel2.trans (hb6.mono hbel2.size);clear hb6 y2 y3
 go_wp2_with (at_builtin; refine wpList_append_one w w6 rfl (.tmp 36) (.tmp 41) 134 rfl w.heap.size 9 i0 _ 1 16 Tryz.underlying134 hi0 hz0 hz1 hz2 rfl (by omega) (.slice none 0 0) 0 [] rfl [.string m1] rfl (by intro u hu; simp at hu; subst hu; rfl) rfl (World.ownsRow_nil _ _ _ _) (by unfold maxLen; omega) (by omega) hbel6 hbel6.size ?_; intro A7 c7 w7 how7 hbelw7 hgw7 hzw7; clear hgw7)
 obtain⟨g,cp,hv,_,hlt⟩:=how7.form (by omega)
 injection hv with hv1 _ hv2
 subst hv1; subst hv2
 have hx7:w7.cell? ⟨g,0,none⟩=some (.string m1):=how7.cells (g:=g) rfl 0 _ rfl
 refine(join1_any g 0 _ m1 ⟨#[124]⟩ w7 hx7).mono ?_; rintro e w8 ⟨rfl,rfl⟩
 have Hb7:=qq hbelw7;clear hbelw7 how7 hx7;go_wp2_with fail;go_ret
 exact⟨by rw[← HT.out]; rfl,Hb7.out⟩
def textS (t:TyD) (xs:List IneqD):List UInt8:=if xs=[] then txB [] t else txB [] t++[32,105,102,32]++[63,32,60,61,32,109,49]
theorem schText_any (s:SchD) (hm:mayT s.t=true) (K:Nat) (hok:OkTab K s.tab) (hK:K≤6) (hx:ownE s.tab K=[]∨ownE s.tab K=xsK) (x:List UInt8) (hxt:txB [] s.t=x) (hsz:x.length≤1000) (v:Value) (w:World) (ht:Tab w) (hv:SchV w w.heap.size v s):
 Calls Tryz.prog 39 #[v,.slice none 0 0] w fun e w'=>e=.returned (.string ⟨(textS s.t (ownE s.tab K)).toArray⟩)∧Below w.heap.size w w':=by
 obtain⟨A,m,cp,A1,c1,A2,c2,A3,c3,rfl,hr⟩:=hv
 obtain⟨i0,hi0,hz0,hz1,hz2⟩:=info_parts (show(Tryz.prog.info? 9).map (fun i=>(i.zero,i.size,i.bytes))=some (some (.string ⟨#[]⟩),1,16) from by kernel_rfl)
 have hk:=blk_new w (cellsS s A m cp A1 c1 A2 c2 A3 c3) 40;have hb:=below_box (w:=w) (Obj.cells (cellsS s A m cp A1 c1 A2 c2 A3 c3) 40);obtain⟨W,hW⟩:∃ x,w.alloc (Obj.cells (cellsS s A m cp A1 c1 A2 c2 A3 c3) 40)=x:=⟨_,rfl⟩;rw[hW] at hk hb;unfold cellsS at hW;have HW:=qq hW;have HK:=qq hk;have Hb:=qq hb;have HR:=qq (hr.fresh hb);have Ht:=qq (ht.below hb);obtain⟨xs,hxs⟩:∃ xs,ownE s.tab K=xs:=⟨_,rfl⟩;rw[hxs] at hx ⊢;have hq:=fun w' v' (h:TabV w' w'.heap.size v' s.tab)=>ineqs5_any K s.tab v' w' hok hok.rng hK h;rw[hxs] at hq;have Hq:=qq hq;have Hx:=qq hx;obtain⟨T,hT⟩:∃ x,textS s.t xs=x:=⟨_,rfl⟩;rw[hT]
 have htx:=fun An mn cn w' (hl:TysV w' w'.heap.size An mn cn s.t.l) (h:Tab w')=>tyText_any s.t hm [] An mn cn none 0 0 w' hl ⟨Rd.nil,Nat.le_refl _,Nat.zero_le _⟩ h (by rw[hxt]; omega)
 rw[hxt] at htx;obtain⟨X,hX⟩:∃ X:ByteArray,(⟨x.toArray⟩:ByteArray)=X:=⟨_,rfl⟩;rw[hX] at htx
 have hXs:X.size≤1000:=by rw[← hX]; show x.toArray.size≤1000; simpa using hsz
 have hk7:txK.size≤7:=by decide
 obtain⟨T2,hT2⟩:∃ T2:ByteArray,(⟨T.toArray⟩:ByteArray)=T2:=⟨_,rfl⟩;rw[hT2]
 have HT:Hid ((if xs=[] then X else X++(⟨#[32,105,102,32]⟩:ByteArray)++txK)=T2):=qq (by
  rw[← hT2,← hT,← hX,← hxt];unfold textS
  by_cases he:xs=[]
  · rw[if_pos he,if_pos he]
  · rw[if_neg he,if_neg he]
    apply ByteArray.ext
    simp[txK,ByteArray.data_append])
 have Htx:=qq htx;clear hW hk hb hr hq hx htx hT ht hxt hxs hm hok hX hT2;unfold cellsS
 go_enter Tryz.func39,Tryz.ntmps39
 go_upto_region 1 with fail;rw[HW.out];obtain⟨x0,x1,x2,x3,x4,x5,x6,x7,x8,x9⟩:=box_cells HK.out;go_wp2_with fail;refine(Htx.out A m cp W HR.out.ty Ht.out).mono ?_;rintro e w1 ⟨rfl,hb1⟩;have HR1:=qq (HR.out.fresh hb1);have HK1:=qq (HK.out.below hb1 HK.out.lt);have Hb1:=qq (Hb.out.trans (hb1.mono Hb.out.size));have Ht1:=qq (Ht.out.below hb1);clear x0 x1 x2 x3 x4 x5 x6 x7 x8 x9 hb1 HW;obtain⟨x0,x1,x2,x3,x4,x5,x6,x7,x8,x9⟩:=box_cells HK1.out;go_wp2_with fail;refine(Hq.out w1 _ HR1.out.tab).mono ?_;rintro e w2 ⟨Al,cl,rfl,hxs,hb2⟩
 have hlen2:xs.length≤1:=by rcases Hx.out with h | h <;> rw[h] <;> simp[xsK]
 obtain⟨n,hn⟩:∃ n,xs.length=n:=⟨_,rfl⟩;rw[hn] at hxs hlen2;rw[hn];have Hn:=qq hn;have Hxs:=qq hxs;have Hb2:=qq (Hb1.out.trans (hb2.mono Hb1.out.size));have Ht2:=qq (Ht1.out.below hb2);clear x0 x1 x2 x3 x4 x5 x6 x7 x8 x9 hb2 hxs hn HK1 HR1;go_wp2_with fail
 go_loopg [8,23] n (fun gh s8 i wr=>∃ (k:Nat) (A:Option Addr) (c:Nat),k≤n∧gh=n - k∧s8=.slice A k c∧i=.int .i64 (k:Nat)∧wr.ownsRow w2.heap.size 9 1 (.slice A k c) k (List.replicate k (.string txK))∧Below w2.heap.size w2 wr)
 case atStart=>exact⟨0,none,0,Nat.zero_le _,rfl,rfl,rfl,World.ownsRow_nil _ _ _ _,Below.refl _ _⟩
 case round=>
  obtain⟨k,A5,c5,hk,rfl,rfl,rfl,hown,hbel⟩:=hrel
  by_cases hkn:k<n
  · have d0:decide (k<n)=true:=by simpa using hkn
    obtain⟨b,off,rfl,hbb,hc⟩:=Hxs.out.at_ (by omega)
    have hlk:k<xs.length:=by rw[Hn.out]; exact hkn
    have hxk:xs[k]=⟨0,2,1,1⟩:=by
     have hmem:=List.getElem_mem hlk;obtain⟨y,hy⟩:∃ y,xs[k]=y:=⟨_,rfl⟩;rw[hy] at hmem ⊢
     rcases Hx.out with h | h
     · rw[h] at hmem; cases hmem
     · rw[h] at hmem
       simpa[xsK] using hmem
    have hat:=hc k hlk;rw[hxk] at hat;obtain⟨e0,e1,e2,e3⟩:=hat;have e0:=(hbel.cell (p:=⟨b,off+k * 4,none⟩) hbb).trans e0;have e1:=(hbel.cell (p:=⟨b,off+k * 4+1,none⟩) hbb).trans e1;have e2:=(hbel.cell (p:=⟨b,off+k * 4+2,none⟩) hbb).trans e2;have e3:=(hbel.cell (p:=⟨b,off+k * 4+3,none⟩) hbb).trans e3;simp only at e0 e1 e2 e3;have hkx:=blk_new wr #[.int .i64 0,.int .u8 2,.int .u8 1,.int .i64 1] 70;have hbx:=below_box (w:=wr) (Obj.cells #[.int .i64 0,.int .u8 2,.int .u8 1,.int .i64 1] 70);obtain⟨w3,hw3⟩:∃ x,wr.alloc (Obj.cells #[.int .i64 0,.int .u8 2,.int .u8 1,.int .i64 1] 70)=x:=⟨_,rfl⟩;rw[hw3] at hkx hbx;have H3:=qq hw3;have z0:=hkx.cell 0;have z1:=hkx.cell 1;have z2:=hkx.cell 2;have z3:=hkx.cell 3;simp only[qc,qb,qa] at z0 z1 z2 z3;have hbel3:=hbel.trans (hbx.mono hbel.size);have hown3:=ownsRow_beyond hown hbx;clear hw3 hkx hbx hbel hown hc hlk hxk;go_upto_region 7 with fail;rw[H3.out];go_wp2_with fail;refine(ineqK_any w3 (Ht2.out.below hbel3)).mono ?_;rintro e w4 ⟨rfl,hb4⟩;have hbel4:=hbel3.trans (hb4.mono hbel3.size);have hown4:=ownsRow_beyond hown3 hb4;clear hb4 hbel3 hown3 z0 z1 z2 z3 e0 e1 e2 e3
    go_wp2_with (at_builtin; refine wpList_append_one w2 w4 rfl (.tmp 27) (.tmp 30) 134 rfl w2.heap.size 9 i0 _ 1 16 Tryz.underlying134 hi0 hz0 hz1 hz2 rfl (by omega) (.slice A5 k c5) k _ rfl [.string txK] rfl (by intro u hu; simp at hu; subst hu; rfl) rfl hown4 (by unfold maxLen; omega) (by omega) hbel4 hbel4.size ?_; intro A7 c7 w7 how7 hbelw7 hgw7 hzw7; clear hgw7)
    go_roundg (n - (k+1))
    case measure=>omega
    case rel=>exact⟨k+1,A7,c7,by omega,rfl,rfl,by simp,by rw[List.replicate_succ']; exact how7,hbelw7⟩
  · have d0:decide (k<n)=false:=by simpa using hkn
    have hkn':k=n:=by omega
    subst hkn';have Hbel:=qq (Hb2.out.trans (hbel.mono Hb2.out.size))
    by_cases h0:k=0
    · subst h0
      have hxe:xs=[]:=List.length_eq_zero_iff.1 Hn.out
      have HTe:Hid (X=T2):=qq (by have:=HT.out; rw[if_pos hxe] at this; exact this)
      clear hxe HT;go_wp2_with fail;go_ret
      exact⟨by rw[← HTe.out]; rfl,Hbel.out⟩
    · have h1:k=1:=by omega
      subst h1
      have hxe:xs≠[]:=fun e=>by rw[e] at Hn; exact absurd Hn.out (by simp)
      have HTe:Hid (X++(⟨#[32,105,102,32]⟩:ByteArray)++txK=T2):=qq (by have:=HT.out; rw[if_neg hxe] at this; exact this)
      obtain⟨g,cp5,hv,_,hlt⟩:=hown.form (by omega)
      injection hv with hv1 _ hv2
      subst hv1; subst hv2
      have hx7:wr.cell? ⟨g,0,none⟩=some (.string txK):=hown.cells (g:=g) rfl 0 _ rfl;clear hxe HT hown hbel;go_wp2_with fail
      refine(join1_any g 0 _ txK ⟨#[44,32]⟩ wr hx7).mono ?_; rintro e w8 ⟨rfl,rfl⟩
      go_wp2_with fail;go_ret
      exact⟨by rw[← HTe.out]; rfl,Hbel.out⟩
end Go.Proofs.YtdmakpmbknindaaGreatDoor
