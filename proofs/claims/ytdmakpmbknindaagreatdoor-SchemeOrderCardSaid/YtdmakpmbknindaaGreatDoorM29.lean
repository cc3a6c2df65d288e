import Derived.Test.YtdmakpmbknindaaGreatDoorM28
import Derived.Deep.RegionHeld3
import Derived.Test.YtdmakpmbknindaaGreatDoorM26
namespace Go.Proofs.YtdmakpmbknindaaGreatDoor
set_option linter.unusedVariables false
set_option linter.unusedSimpArgs false
open Go.RowKit
theorem vars1_any (q:Nat) (w:World):
 Calls Tryz.prog 73 #[.pointer (some ⟨q,0,none⟩)] w fun e w'=>e=.returned (.func (.func 74) #[] #[.pointer (some ⟨w.heap.size,0,none⟩)])∧Blk w' w.heap.size 115 #[.pointer (some ⟨q,0,none⟩)]∧Below w.heap.size w w'∧w'.heap.size=w.heap.size+1:=by
 go_enter Tryz.func73,Tryz.ntmps73
 go_wp2_with fail;go_ret
 exact⟨rfl,blk_new w _ _,below_box _,by simp⟩
theorem ownsRow_mono {w:World} {base base':Nat} {e:TypeId} {size:Nat} {v:Value} {n:Nat} {xs:List Value} (h:w.ownsRow base e size v n xs) (hb:base'≤base):w.ownsRow base' e size v n xs:=by
 rcases h.2 with h0 | ⟨g,cap,cur,e0,hg,h2⟩
 · exact⟨h.1,.inl h0⟩
 · exact⟨h.1,.inr ⟨g,cap,cur,e0,Nat.le_trans hb hg,h2⟩⟩
def RetVs (l1 l2:List Int) (w:World) (e:Ending) (w':World):Prop:=
 ∃ A1 n1 c1 A2 n2 c2,e=.returned (.tuple #[.slice A1 n1 c1,.slice A2 n2 c2])∧w'.ownsRow w.heap.size 3 1 (.slice A1 n1 c1) n1 (l1.map (Value.int .i64))∧w'.ownsRow w.heap.size 3 1 (.slice A2 n2 c2) n2 (l2.map (Value.int .i64))∧(∀ a b:Addr,A1=some a→A2=some b→a.block≠b.block)∧Below w.heap.size w w'
theorem ListAt.set_same {w:World} {B q c:Nat} {l:List Int} {A:Option Addr} (h:ListAt w B q l A c) {q':Nat} (hq:q'<B) (v:Value) (hv:q'=q→v=.slice A l.length c):ListAt (w.setCell ⟨q',0,none⟩ v) B q l A c:=by
 refine⟨?_,ownsRow_setCell_below h.2 (by show q'<B; exact hq) _⟩
 by_cases e:q'=q
 · subst e
   rw[hv rfl];exact h.1.set_ 0 _
 · exact h.1.other e 0 v
set_option maxRecDepth 100000 in
set_option maxHeartbeats 4000000 in
theorem vars_any (t:TyD) (A:Option Addr) (m cp:Nat) (w:World) (hl:TysV w w.heap.size A m cp t.l) (hn1:(varsT t).length≤1099511627776) (hn2:(multsT t).length≤1099511627776):
 Calls Tryz.prog 30 #[.agg #[.int .u8 t.k,.int .i64 t.n,.int .i64 t.v,.int .u8 t.c,.slice A m cp]] w (RetVs (varsT t) (multsT t) w):=by
 obtain⟨W1,hW1⟩:∃ W,w.alloc (Obj.cells #[.int .u8 t.k,.int .i64 t.n,.int .i64 t.v,.int .u8 t.c,.slice A m cp] 27)=W:=⟨_,rfl⟩;have hb1:=below_box (w:=w) (Obj.cells #[.int .u8 t.k,.int .i64 t.n,.int .i64 t.v,.int .u8 t.c,.slice A m cp] 27);have hz:=blk_new w #[.int .u8 t.k,.int .i64 t.n,.int .i64 t.v,.int .u8 t.c,.slice A m cp] 27
 have hs1:W1.heap.size=w.heap.size+1:=by rw[← hW1]; simp
 rw[hW1] at hb1 hz;obtain⟨W2,hW2⟩:∃ W,W1.alloc (Obj.cells #[.slice none 0 0] 30)=W:=⟨_,rfl⟩;have hb2:=below_box (w:=W1) (Obj.cells #[.slice none 0 0] 30);have hx:=blk_new W1 #[.slice none 0 0] 30
 have hs2:W2.heap.size=w.heap.size+1+1:=by rw[← hW2]; simp[hs1]
 rw[hW2] at hb2 hx;obtain⟨W3,hW3⟩:∃ W,W2.alloc (Obj.cells #[.slice none 0 0] 30)=W:=⟨_,rfl⟩;have hb3:=below_box (w:=W2) (Obj.cells #[.slice none 0 0] 30);have hy:=blk_new W2 #[.slice none 0 0] 30
 have hs3:W3.heap.size=w.heap.size+1+1+1:=by rw[← hW3]; simp[hs2]
 rw[hW3] at hb3 hy;have hbel:=(hb1.trans (hb2.mono hb1.size)).trans (hb3.mono (by omega));have hz3:=(hz.below hb2 (by omega)).below hb3 (by omega);have hx3:=hx.below hb3 (by omega);rw[hs1] at hx3;rw[hs2] at hy;have hl3:=hl.below hbel
 have hWs:((w.alloc (Obj.cells #[.int .u8 t.k,.int .i64 t.n,.int .i64 t.v,.int .u8 t.c,.slice A m cp] 27)).alloc (Obj.cells #[.slice none 0 0] 30)).alloc (Obj.cells #[.slice none 0 0] 30)=W3:=by rw[hW1,hW2,hW3]
 have e0:=hz3.cell 0;have e1:=hz3.cell 1;have e2:=hz3.cell 2;have e3:=hz3.cell 3;have e4:=hz3.cell 4;have gz:=hz3.lt;have HWs:=qq hWs;have Hz:=qq hz3;have Hbel:=qq hbel;have Hx:=qq hx3;have Hy:=qq hy;have Hl:=qq hl3;have Hs3:=qq hs3;have Hle:Hid (w.heap.size≤W3.heap.size):=qq hbel.size;have Hn1:Hid ((addAll [] (allV t)).length≤1099511627776):=qq hn1;have Hn2:Hid ((addAll [] (allM t)).length≤1099511627776):=qq hn2;clear hn1 hn2;clear hb1 hz hs1 hb2 hx hs2 hb3 hy hs3 hbel hz3 hx3 hl3 hl hWs hW1 hW2 hW3 W1 W2
 go_enter Tryz.func30,Tryz.ntmps30
 go_wp2_with fail;rw[HWs.out];have hbS:Below W3.heap.size W3 W3.drew:=Below.drew (Below.refl _ _);have hsz:W3.drew.heap.size=w.heap.size+1+1+1:=Hs3.out;have st0:=trivial
 go_region_held3 (fun w'=>w'.cell? ⟨w.heap.size,0,none⟩=some (.int .u8 t.k)∧w'.cell? ⟨w.heap.size,1,none⟩=some (.int .i64 t.n)∧w'.cell? ⟨w.heap.size,2,none⟩=some (.int .i64 t.v)∧w'.cell? ⟨w.heap.size,3,none⟩=some (.int .u8 t.c)∧w'.cell? ⟨w.heap.size,4,none⟩=some (.slice A m cp))
  (first | go_keep | exact⟨(hbS.cell (p:=⟨w.heap.size,0,none⟩) gz).trans e0,(hbS.cell (p:=⟨w.heap.size,1,none⟩) gz).trans e1,(hbS.cell (p:=⟨w.heap.size,2,none⟩) gz).trans e2,(hbS.cell (p:=⟨w.heap.size,3,none⟩) gz).trans e3,(hbS.cell (p:=⟨w.heap.size,4,none⟩) gz).trans e4⟩ | exact⟨y0,y1,y2,y3,y4⟩)
  ((first
    | (go_at_call 73; clear st0; have st1:=trivial; refine(vars1_any (w.heap.size+1) _).mono ?_; rintro e wa ⟨rfl,hna,hba,hsa⟩; rw[hsz] at hna hsa ⊢; clear hsz; replace hbS:=hbS.trans (hba.mono hbS.size); have Hna:=qq hna; have Hsa:=qq hsa; clear hba hna hsa)
    | (go_at_call 73; clear st1; have st2:=trivial; refine(vars1_any (w.heap.size+1+1) _).mono ?_; rintro e wb ⟨rfl,hnb,hbb,hsb⟩; rw[Hsa.out] at hnb hsb ⊢; have hna:=Hna.out.below hbb Hna.out.lt; replace hbS:=hbS.trans (hbb.mono hbS.size); have Hnb:=qq hnb; have Hsb:=qq hsb; clear Hna; have Hna:=qq hna; clear hbb hnb hsb hna Hsa)
    | (go_at_call 76; clear st2; have st3:=trivial; have hv:Vs w.heap.size [] [] wb:=⟨none,0,none,0,Hna.out,Hnb.out,⟨Hx.out.below hbS Hx.out.lt,World.ownsRow_nil _ _ _ _⟩,⟨Hy.out.below hbS Hy.out.lt,World.ownsRow_nil _ _ _ _⟩,(fun a b h=>by cases h),by rw[Hsb.out]; exact Nat.le_refl _⟩; refine(walk_any w.heap.size W3 t A m cp Hl.out wb [] [] (hbS.mono Hle.out) hv Hn1.out Hn2.out).mono ?_; rintro e wc ⟨rfl,hvs,hvo⟩; have hz9:=(Hz.out.below hbS Hz.out.lt).vout hvo (by omega) (by omega) (by decide); have y0:=hz9.cell 0; have y1:=hz9.cell 1; have y2:=hz9.cell 2; have y3:=hz9.cell 3; have y4:=hz9.cell 4; have Hvs:=qq hvs; have Hvo:=qq hvo; have HbS:=qq hbS; clear hz9 hv hvs hvo hbS)))
 obtain⟨A1,c1,A2,c2,h1,h2,h3,h4,h5,h6⟩:=Hvs.out;have hl1:addAll [] (allV t)=varsT t:=rfl;have hl2:addAll [] (allM t)=multsT t:=rfl;rw[hl1] at h3;rw[hl2] at h4;clear hl1 hl2;obtain⟨L1,hL1⟩:∃ L,varsT t=L:=⟨_,rfl⟩;obtain⟨L2,hL2⟩:∃ L,multsT t=L:=⟨_,rfl⟩;rw[hL1] at h3;rw[hL2] at h4;have k3:=(h3.set_same (q':=w.heap.size+1) (by omega) (.slice A1 L1.length c1) (fun _=>rfl)).set_same (q':=w.heap.size+1+1) (by omega) (.slice A2 L2.length c2) (fun e=>absurd e (by omega));have k4:=(h4.set_same (q':=w.heap.size+1) (by omega) (.slice A1 L1.length c1) (fun e=>absurd e (by omega))).set_same (q':=w.heap.size+1+1) (by omega) (.slice A2 L2.length c2) (fun _=>rfl);have x1:=h3.1.cell 0;have x2:=h4.1.cell 0;have f1:=h3.1.frozen 0;have f2:=h4.1.frozen 0
 have hle1:w.heap.size≤w.heap.size+1:=by omega
 have hle2:w.heap.size≤w.heap.size+1+1:=by omega
 have hne:w.heap.size+1≠w.heap.size+1+1:=by omega
 have hb:=(((Hbel.out.trans ((HbS.out.mono Hle.out).trans Hvo.out.1)).setCell (p:=⟨w.heap.size+1,0,none⟩) hle1 (.slice A1 L1.length c1)).setCell (p:=⟨w.heap.size+1+1,0,none⟩) hle2 (.slice A2 L2.length c2));have f2':(wc.setCell ⟨w.heap.size+1,0,none⟩ (.slice A1 L1.length c1)).frozen? ⟨w.heap.size+1+1,0,none⟩=false:=(h4.set_same (q':=w.heap.size+1) (by omega) (.slice A1 L1.length c1) (fun e=>absurd e (by omega))).1.frozen 0;have y1:=k3.1.cell 0;have y2:=k4.1.cell 0
 have HR:Hid (RetVs (varsT t) (multsT t) w (.returned (.tuple #[.slice A1 L1.length c1,.slice A2 L2.length c2])) ((wc.setCell ⟨w.heap.size+1,0,none⟩ (.slice A1 L1.length c1)).setCell ⟨w.heap.size+1+1,0,none⟩ (.slice A2 L2.length c2))):=by
  rw[hL1,hL2];exact qq ⟨A1,L1.length,c1,A2,L2.length,c2,rfl,ownsRow_mono k3.2 (by omega),ownsRow_mono k4.2 (by omega),h5,hb⟩
 clear h1 h2 h3 h4 h5 h6 hL1 hL2 k3 k4 hb Hvs Hvo HbS;go_wp2_with fail;exact bodyPost_ret (v:=.tuple #[.slice A1 L1.length c1,.slice A2 L2.length c2]) (by simp[results,Tryz.results30,go_sem,y1,y2]) rfl HR.out
theorem putT_of {t:TyD} {types:List TyD} {ms:List (Int × Int)} (h:putE t types ms=0):putT t types ms=turnT (putV types) (putM ms) t:=by
 unfold putT;rw[if_pos h]
def ren (f g:Int→Int) (t:TyD):TyD:=turnT (fun n=>some (plainV (f n))) (fun v=>(g v,0)) t
theorem ren_eq (f g:Int→Int) (t:TyD):ren f g t=if t.k=1 then plainV (f t.n) else .mk t.k t.n (if t.k=7∧t.c=0 then g t.v else t.v) (if t.k=7∧t.c=0 then 0 else t.c) (t.l.map (ren f g)):=by
 unfold ren;rw[turnT_eq];rfl
theorem ren_nodes (f g:Int→Int) {t:TyD} (ht:mayT t=true):nodes (ren f g t)=nodes t:=by
 revert ht
 induction t using ty_ind with
 | h t ih=>
   intro ht;have fa:=may_facts ht;rw[ren_eq]
   by_cases hk:t.k=1
   · rw[if_pos hk,nodes_eq t,may_leaf ht (by omega)]; rfl
   · rw[if_neg hk,nodes_eq t,nodes_eq (.mk _ _ _ _ _)]
     have:=nodesL_map_congr (f:=ren f g) (g:=id) (l:=t.l) (fun x hx=>ih x hx (fa.2.2.2.2.2.2 x hx));rw[List.map_id] at this;show 1+nodes.nodesL (t.l.map (ren f g))=_;rw[this]
theorem allV_ren (f g:Int→Int) {t:TyD} (ht:mayT t=true):allV (ren f g t)=(allV t).map f:=by
 revert ht
 induction t using ty_ind with
 | h t ih=>
   intro ht;have fa:=may_facts ht;rw[ren_eq,allV_eq t]
   by_cases hk:t.k=1
   · rw[if_pos hk,if_pos hk,may_leaf ht (by omega)]; rfl
   · rw[if_neg hk,if_neg hk,allV_eq (.mk _ _ _ _ _),if_neg (by exact hk),List.nil_append,List.nil_append]
     show(t.l.map (ren f g)).flatMap allV=_;rw[List.flatMap_map,List.map_flatMap]
     have key:∀ l:List TyD,(∀ x∈l,x∈t.l)→l.flatMap (fun x=>allV (ren f g x))=l.flatMap fun x=>(allV x).map f:=by
      intro l
      induction l with
      | nil=>intro _; rfl
      | cons x l ihl=>
        intro hl;rw[List.flatMap_cons,List.flatMap_cons,ih x (hl x (by simp)) (fa.2.2.2.2.2.2 x (hl x (by simp))),ihl fun y hy=>hl y (List.mem_cons_of_mem _ hy)]
     exact key t.l fun _ h=>h
theorem allM_ren (f g:Int→Int) {t:TyD} (ht:mayT t=true):allM (ren f g t)=(allM t).map g:=by
 revert ht
 induction t using ty_ind with
 | h t ih=>
   intro ht;have fa:=may_facts ht
   by_cases hk:t.k=1
   · rw[ren_eq,if_pos hk,allM_not (t:=t) (by omega),may_leaf ht (by omega),allM_not (t:=plainV (f t.n)) (by show(1:Int)≠7; decide)]; rfl
   · by_cases h7:t.k=7
     · obtain⟨a,b,hl⟩:=may_fun ht h7
       have ha:=ih a (by rw[hl]; simp) (fa.2.2.2.2.2.2 a (by rw[hl]; simp))
       have hb:=ih b (by rw[hl]; simp) (fa.2.2.2.2.2.2 b (by rw[hl]; simp))
       rw[ren_eq,if_neg hk,allM_fun h7 hl,hl,allM_fun (t:=.mk t.k t.n (if t.k=7∧t.c=0 then g t.v else t.v) (if t.k=7∧t.c=0 then 0 else t.c) (List.map (ren f g) [a,b])) (a:=ren f g a) (b:=ren f g b) h7 rfl,ha,hb];show _++(if (if t.k=7∧t.c=0 then 0 else t.c)=0 then [if t.k=7∧t.c=0 then g t.v else t.v] else [])++_=_
       by_cases hc:t.c=0
       · simp[h7,hc]
       · simp[h7,hc]
     · rw[allM_not h7,ren_eq,if_neg hk,allM_not (t:=.mk t.k t.n _ _ _) h7]
       show(t.l.map (ren f g)).flatMap allM=_;rw[List.flatMap_map,List.map_flatMap]
       have key:∀ l:List TyD,(∀ x∈l,x∈t.l)→l.flatMap (fun x=>allM (ren f g x))=l.flatMap fun x=>(allM x).map g:=by
        intro l
        induction l with
        | nil=>intro _; rfl
        | cons x l ihl=>
          intro hl;rw[List.flatMap_cons,List.flatMap_cons,ih x (hl x (by simp)) (fa.2.2.2.2.2.2 x (hl x (by simp))),ihl fun y hy=>hl y (List.mem_cons_of_mem _ hy)]
       exact key t.l fun _ h=>h
theorem mem_vars {t:TyD} {n:Int}:n∈varsT t↔n∈allV t:=by unfold varsT; rw[addAll_mem]; simp
theorem mem_mults {t:TyD} {n:Int}:n∈multsT t↔n∈allM t:=by unfold multsT; rw[addAll_mem]; simp
theorem vars_nodup (t:TyD):(varsT t).Nodup:=addAll_nodup List.nodup_nil
theorem mults_nodup (t:TyD):(multsT t).Nodup:=addAll_nodup List.nodup_nil
theorem varsT_ren {f g:Int→Int} {t:TyD} (ht:mayT t=true) (hf:∀ a∈allV t,∀ b∈allV t,f a=f b→a=b):varsT (ren f g t)=(varsT t).map f:=by
 unfold varsT;rw[allV_ren f g ht];exact addAll_map (h:=f) (S:=fun n=>n∈allV t) (fun a b ha hb=>hf a ha b hb) (allV t) [] (fun _ h=>h) (by simp)
theorem multsT_ren {f g:Int→Int} {t:TyD} (ht:mayT t=true) (hg:∀ a∈allM t,∀ b∈allM t,g a=g b→a=b):multsT (ren f g t)=(multsT t).map g:=by
 unfold multsT;rw[allM_ren f g ht];exact addAll_map (h:=g) (S:=fun n=>n∈allM t) (fun a b ha hb=>hg a ha b hb) (allM t) [] (fun _ h=>h) (by simp)
def canT (t:TyD):TyD:=ren (idxN (varsT t)) (idxN (multsT t)) t
theorem idx_v {t:TyD}:∀ a∈allV t,∀ b∈allV t,idxN (varsT t) a=idxN (varsT t) b→a=b:=fun a ha b hb=>idxN_inj (mem_vars.2 ha) (mem_vars.2 hb)
theorem idx_m {t:TyD}:∀ a∈allM t,∀ b∈allM t,idxN (multsT t) a=idxN (multsT t) b→a=b:=fun a ha b hb=>idxN_inj (mem_mults.2 ha) (mem_mults.2 hb)
theorem canT_vars {t:TyD} (ht:mayT t=true):varsT (canT t)=(List.range (varsT t).length).map (fun i:Nat=>(i:Int)):=by
 unfold canT;rw[varsT_ren ht idx_v,idx_range (vars_nodup t)]
theorem canT_mults {t:TyD} (ht:mayT t=true):multsT (canT t)=(List.range (multsT t).length).map (fun i:Nat=>(i:Int)):=by
 unfold canT;rw[multsT_ren ht idx_m,idx_range (mults_nodup t)]
theorem few_nat:∀ (N:Nat) (l:List Nat),l.Nodup→(∀ x∈l,x<N)→l.length≤N:=by
 intro N
 induction N with
 | zero=>
   intro l _ h
   cases l with
   | nil=>simp
   | cons x l=>exact absurd (h x (by simp)) (by omega)
 | succ N ih=>
   intro l hd h
   by_cases hm:N∈l
   · have h1:=ih (l.erase N) (hd.erase N) (fun x hx=>by
      have h2:=(hd.mem_erase_iff).1 hx;have:=h x h2.2;have:=h2.1
      omega)
     rw[List.length_erase_of_mem hm] at h1;omega
   · have:=ih l hd (fun x hx=>by
      have:=h x hx
      have:x≠N:=fun e=>hm (by rw[← e]; exact hx)
      omega)
     omega
theorem few_int {N:Nat} {l:List Int} (hd:l.Nodup) (h:∀ x∈l,0≤x∧x<(N:Int)):l.length≤N:=by
 have h1:=few_nat N (l.map Int.toNat) (by
  unfold List.Nodup at hd ⊢;rw[List.pairwise_map]
  exact hd.imp_of_mem fun ha hb hne e=>hne (by have:=h _ ha; have:=h _ hb; omega)) (fun x hx=>by
   obtain⟨y,hy,rfl⟩:=List.mem_map.1 hx;have:=h y hy
   omega)
 simpa using h1
theorem vars_few {t:TyD} (ht:mayT t=true):(varsT t).length≤1048576:=few_int (vars_nodup t) fun x hx=>allV_nonneg ht x (mem_vars.1 hx)
theorem mults_few {t:TyD} (ht:mayT t=true):(multsT t).length≤1048576:=few_int (mults_nodup t) fun x hx=>allM_nonneg ht x (mem_mults.1 hx)
theorem idxN_rng {l:List Int} {n:Int} (h:n∈l):0≤idxN l n∧idxN l n<l.length∧∃ h:(idxN l n).toNat<l.length,l[(idxN l n).toNat]=n:=by
 obtain⟨i,hi,e,e2⟩:=idxN_mem h;rw[e]
 exact⟨by omega,by omega,by simpa using hi,by simpa using e2⟩
def bk (s:Int) (n:Int):Int:=(n+s) % 1048576
theorem ren_may {f g:Int→Int} {t:TyD} (ht:mayT t=true) (hf:∀ n∈allV t,0≤f n∧f n<1048576) (hg:∀ v∈allM t,0≤g v∧g v<1048576):mayT (ren f g t)=true:=by
 refine turn_may ht (fun n hn u hu=>?_) (fun v hv=>?_)
 · injection hu with hu
   subst hu;have:=hf n hn
   exact may_mk (by decide) (by decide) this.1 (by have:mostI 1=1048576:=rfl; omega) (fun _=>rfl) (by simp) (.inl ⟨rfl,rfl⟩) (by simp)
 · have:=hg v hv
   simp[isB,oneB];omega
theorem ren_size (f g:Int→Int) {t:TyD} (ht:mayT t=true):sizeW (ren f g t)=sizeW t:=by unfold sizeW; rw[ren_nodes f g ht]
theorem ren_mayTE {f g:Int→Int} {t:TyD} (ht:mayTE t=0) (hf:∀ n∈allV t,0≤f n∧f n<1048576) (hg:∀ v∈allM t,0≤g v∧g v<1048576):mayTE (ren f g t)=0:=by
 obtain⟨h1,h2⟩:=mayTE_facts ht;unfold mayTE;rw[ren_size f g h1,if_neg (by omega),if_pos (ren_may h1 hf hg)]
theorem canT_mayTE {t:TyD} (ht:mayTE t=0):mayTE (canT t)=0:=by
 have h1:=(mayTE_facts ht).1;have h3:=vars_few h1;have h4:=mults_few h1
 exact ren_mayTE ht (fun n hn=>by have:=idxN_rng (mem_vars.2 hn); omega) fun v hv=>by have:=idxN_rng (mem_mults.2 hv); omega
end Go.Proofs.YtdmakpmbknindaaGreatDoor
