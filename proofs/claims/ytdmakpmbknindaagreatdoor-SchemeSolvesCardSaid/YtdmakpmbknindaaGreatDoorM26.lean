import Derived.Test.YtdmakpmbknindaaGreatDoorM25
import Derived.Test.YtdmakpmbknindaaGreatDoorM23
set_option linter.unusedVariables false
set_option linter.unusedSimpArgs false
set_option maxHeartbeats 4000000
set_option maxRecDepth 100000
namespace Go.Proofs.YtdmakpmbknindaaGreatDoor
open Go.RowKit
theorem vars1_any (q:Nat) (w:World):
 Calls Tryz.prog 73 #[.pointer (some ⟨q,0,none⟩)] w fun e w'=>e=.returned (.func (.func 74) #[] #[.pointer (some ⟨w.heap.size,0,none⟩)])∧Blk w' w.heap.size 115 #[.pointer (some ⟨q,0,none⟩)]∧Below w.heap.size w w'∧w'.heap.size=w.heap.size+1:=by
 go_enter Tryz.func73,Tryz.ntmps73
 go_wp2_with fail;go_ret
 exact⟨rfl,blk_new w _ _,below_box _,by simp⟩
theorem ownsRow_mono {w:World} {base base':Nat} {e:TypeId} {size:Nat} {v:Value} {n:Nat} {xs:List Value} (h:w.ownsRow base e size v n xs) (hb:base'≤base):w.ownsRow base' e size v n xs:=by
 rcases h.2 with h0 | ⟨g,cap,cur,e0,hg,h2⟩
 · exact⟨h.1,.inl h0⟩
 · exact⟨h.1,.inr ⟨g,cap,cur,e0,Nat.le_trans hb hg,h2⟩⟩
def RetVs (l1 l2:List Int) (w:World) (e:Ending) (w':World):Prop:=
 ∃ A1 n1 c1 A2 n2 c2,e=.returned (.tuple #[.slice A1 n1 c1,.slice A2 n2 c2])∧w'.ownsRow w.heap.size 3 1 (.slice A1 n1 c1) n1 (l1.map (Value.int .i64))∧w'.ownsRow w.heap.size 3 1 (.slice A2 n2 c2) n2 (l2.map (Value.int .i64))∧(∀ a b:Addr,A1=some a→A2=some b→a.block≠b.block)∧Below w.heap.size w w'
theorem ListAt.set_same {w:World} {B q c:Nat} {l:List Int} {A:Option Addr} (h:ListAt w B q l A c) {q':Nat} (hq:q'<B) (v:Value) (hv:q'=q→v=.slice A l.length c):ListAt (w.setCell ⟨q',0,none⟩ v) B q l A c:=by
 refine⟨?_,ownsRow_setCell_below h.2 (by show q'<B; exact hq) _⟩
 by_cases e:q'=q
 · subst e
   rw[hv rfl];exact h.1.set_ 0 _
 · exact h.1.other e 0 v
theorem vars_any (t:TyD) (A:Option Addr) (m cp:Nat) (w:World) (hl:TysV w w.heap.size A m cp t.l) (hn1:(varsT t).length≤1099511627776) (hn2:(multsT t).length≤1099511627776):
 Calls Tryz.prog 30 #[.agg #[.int .u8 t.k,.int .i64 t.n,.int .i64 t.v,.int .u8 t.c,.slice A m cp]] w (RetVs (varsT t) (multsT t) w):=by
 obtain⟨W1,hW1⟩:∃ W,w.alloc (Obj.cells #[.int .u8 t.k,.int .i64 t.n,.int .i64 t.v,.int .u8 t.c,.slice A m cp] 27)=W:=⟨_,rfl⟩;have hb1:=below_box (w:=w) (Obj.cells #[.int .u8 t.k,.int .i64 t.n,.int .i64 t.v,.int .u8 t.c,.slice A m cp] 27);have hz:=blk_new w #[.int .u8 t.k,.int .i64 t.n,.int .i64 t.v,.int .u8 t.c,.slice A m cp] 27
 have hs1:W1.heap.size=w.heap.size+1:=by rw[← hW1]; simp
 rw[hW1] at hb1 hz;obtain⟨W2,hW2⟩:∃ W,W1.alloc (Obj.cells #[.slice none 0 0] 30)=W:=⟨_,rfl⟩;have hb2:=below_box (w:=W1) (Obj.cells #[.slice none 0 0] 30);have hx:=blk_new W1 #[.slice none 0 0] 30
 have hs2:W2.heap.size=w.heap.size+1+1:=by rw[← hW2]; simp[hs1]
 rw[hW2] at hb2 hx;obtain⟨W3,hW3⟩:∃ W,W2.alloc (Obj.cells #[.slice none 0 0] 30)=W:=⟨_,rfl⟩;have hb3:=below_box (w:=W2) (Obj.cells #[.slice none 0 0] 30);have hy:=blk_new W2 #[.slice none 0 0] 30
 have hs3:W3.heap.size=w.heap.size+1+1+1:=by rw[← hW3]; simp[hs2]
 rw[hW3] at hb3 hy;have hbel:=(hb1.trans (hb2.mono hb1.size)).trans (hb3.mono (by omega));have hz3:=(hz.below hb2 (by omega)).below hb3 (by omega);have hx3:=hx.below hb3 (by omega);rw[hs1] at hx3;rw[hs2] at hy;have hl3:=hl.below hbel
 have hWs:((w.alloc (Obj.cells #[.int .u8 t.k,.int .i64 t.n,.int .i64 t.v,.int .u8 t.c,.slice A m cp] 27)).alloc (Obj.cells #[.slice none 0 0] 30)).alloc (Obj.cells #[.slice none 0 0] 30)=W3:=by rw[hW1,hW2,hW3]
 have e0:=hz3.cell 0;have e1:=hz3.cell 1;have e2:=hz3.cell 2;have e3:=hz3.cell 3;have e4:=hz3.cell 4;have gz:=hz3.lt;have HWs:=qq hWs;have Hz:=qq hz3;have Hbel:=qq hbel;have Hx:=qq hx3;have Hy:=qq hy;have Hl:=qq hl3;have Hs3:=qq hs3;have Hle:Hid (w.heap.size≤W3.heap.size):=qq hbel.size;have Hn1:Hid ((addAll [] (allV t)).length≤1099511627776):=qq hn1;have Hn2:Hid ((addAll [] (allM t)).length≤1099511627776):=qq hn2;clear hn1 hn2;clear hb1 hz hs1 hb2 hx hs2 hb3 hy hs3 hbel hz3 hx3 hl3 hl hWs hW1 hW2 hW3 W1 W2
 go_enter Tryz.func30,Tryz.ntmps30
 go_wp2_with fail;rw[HWs.out];have hbS:Below W3.heap.size W3 W3.drew:=Below.drew (Below.refl _ _);have hsz:W3.drew.heap.size=w.heap.size+1+1+1:=Hs3.out;have st0:=trivial
 go_region_held3 (fun w'=>w'.cell? ⟨w.heap.size,0,none⟩=some (.int .u8 t.k)∧w'.cell? ⟨w.heap.size,1,none⟩=some (.int .i64 t.n)∧w'.cell? ⟨w.heap.size,2,none⟩=some (.int .i64 t.v)∧w'.cell? ⟨w.heap.size,3,none⟩=some (.int .u8 t.c)∧w'.cell? ⟨w.heap.size,4,none⟩=some (.slice A m cp))
  (first | go_keep | exact⟨(hbS.cell (p:=⟨w.heap.size,0,none⟩) gz).trans e0,(hbS.cell (p:=⟨w.heap.size,1,none⟩) gz).trans e1,(hbS.cell (p:=⟨w.heap.size,2,none⟩) gz).trans e2,(hbS.cell (p:=⟨w.heap.size,3,none⟩) gz).trans e3,(hbS.cell (p:=⟨w.heap.size,4,none⟩) gz).trans e4⟩ | exact⟨y0,y1,y2,y3,y4⟩)
  ((first
    | (go_at_call 73; clear st0; have st1:=trivial; refine(vars1_any (w.heap.size+1) _).mono ?_; rintro e wa ⟨rfl,hna,hba,hsa⟩; rw[hsz] at hna hsa ⊢; clear hsz; replace hbS:=hbS.trans (hba.mono hbS.size); have Hna:=qq hna; have Hsa:=qq hsa; clear hba hna hsa)
    | (go_at_call 73; clear st1; have st2:=trivial; refine(vars1_any (w.heap.size+1+1) _).mono ?_; rintro e wb ⟨rfl,hnb,hbb,hsb⟩; rw[Hsa.out] at hnb hsb ⊢; have hna:=Hna.out.below hbb Hna.out.lt; replace hbS:=hbS.trans (hbb.mono hbS.size); have Hnb:=qq hnb; have Hsb:=qq hsb; clear Hna; have Hna:=qq hna; clear hbb hnb hsb hna Hsa)
    | (go_at_call 76; clear st2; have st3:=trivial; have hv:Vs w.heap.size [] [] wb:=⟨none,0,none,0,Hna.out,Hnb.out,⟨Hx.out.below hbS Hx.out.lt,World.ownsRow_nil _ _ _ _⟩,⟨Hy.out.below hbS Hy.out.lt,World.ownsRow_nil _ _ _ _⟩,(fun a b h=>by cases h),by rw[Hsb.out]; exact Nat.le_refl _⟩; refine(walk_any w.heap.size W3 t A m cp Hl.out wb [] [] (hbS.mono Hle.out) hv Hn1.out Hn2.out).mono ?_; rintro e wc ⟨rfl,hvs,hvo⟩; have hz9:=(Hz.out.below hbS Hz.out.lt).vout hvo (by omega) (by omega) (by decide); have y0:=hz9.cell 0; have y1:=hz9.cell 1; have y2:=hz9.cell 2; have y3:=hz9.cell 3; have y4:=hz9.cell 4; have Hvs:=qq hvs; have Hvo:=qq hvo; have HbS:=qq hbS; clear hz9 hv hvs hvo hbS)))
 obtain⟨A1,c1,A2,c2,h1,h2,h3,h4,h5,h6⟩:=Hvs.out;have hl1:addAll [] (allV t)=varsT t:=rfl;have hl2:addAll [] (allM t)=multsT t:=rfl;rw[hl1] at h3;rw[hl2] at h4;clear hl1 hl2;obtain⟨L1,hL1⟩:∃ L,varsT t=L:=⟨_,rfl⟩;obtain⟨L2,hL2⟩:∃ L,multsT t=L:=⟨_,rfl⟩;rw[hL1] at h3;rw[hL2] at h4;have k3:=(h3.set_same (q':=w.heap.size+1) (by omega) (.slice A1 L1.length c1) (fun _=>rfl)).set_same (q':=w.heap.size+1+1) (by omega) (.slice A2 L2.length c2) (fun e=>absurd e (by omega));have k4:=(h4.set_same (q':=w.heap.size+1) (by omega) (.slice A1 L1.length c1) (fun e=>absurd e (by omega))).set_same (q':=w.heap.size+1+1) (by omega) (.slice A2 L2.length c2) (fun _=>rfl);have x1:=h3.1.cell 0;have x2:=h4.1.cell 0;have f1:=h3.1.frozen 0;have f2:=h4.1.frozen 0
 have hle1:w.heap.size≤w.heap.size+1:=by omega
 have hle2:w.heap.size≤w.heap.size+1+1:=by omega
 have hne:w.heap.size+1≠w.heap.size+1+1:=by omega
 have hb:=(((Hbel.out.trans ((HbS.out.mono Hle.out).trans Hvo.out.1)).setCell (p:=⟨w.heap.size+1,0,none⟩) hle1 (.slice A1 L1.length c1)).setCell (p:=⟨w.heap.size+1+1,0,none⟩) hle2 (.slice A2 L2.length c2));have f2':(wc.setCell ⟨w.heap.size+1,0,none⟩ (.slice A1 L1.length c1)).frozen? ⟨w.heap.size+1+1,0,none⟩=false:=(h4.set_same (q':=w.heap.size+1) (by omega) (.slice A1 L1.length c1) (fun e=>absurd e (by omega))).1.frozen 0;have y1:=k3.1.cell 0;have y2:=k4.1.cell 0
 have HR:Hid (RetVs (varsT t) (multsT t) w (.returned (.tuple #[.slice A1 L1.length c1,.slice A2 L2.length c2])) ((wc.setCell ⟨w.heap.size+1,0,none⟩ (.slice A1 L1.length c1)).setCell ⟨w.heap.size+1+1,0,none⟩ (.slice A2 L2.length c2))):=by
  rw[hL1,hL2];exact qq ⟨A1,L1.length,c1,A2,L2.length,c2,rfl,ownsRow_mono k3.2 (by omega),ownsRow_mono k4.2 (by omega),h5,hb⟩
 clear h1 h2 h3 h4 h5 h6 hL1 hL2 k3 k4 hb Hvs Hvo HbS;go_wp2_with fail;exact bodyPost_ret (v:=.tuple #[.slice A1 L1.length c1,.slice A2 L2.length c2]) (by simp[results,Tryz.results30,go_sem,y1,y2]) rfl HR.out
def ren (f g:Int→Int) (t:TyD):TyD:=turnT (fun n=>some (plainV (f n))) (fun v=>(g v,0)) t
theorem ren_eq (f g:Int→Int) (t:TyD):ren f g t=if t.k=1 then plainV (f t.n) else .mk t.k t.n (if t.k=7∧t.c=0 then g t.v else t.v) (if t.k=7∧t.c=0 then 0 else t.c) (t.l.map (ren f g)):=by
 unfold ren;rw[turnT_eq];rfl
theorem turn_plain (fv:Int→Option TyD) (fm:Int→Int × Int) (n:Int):turnT fv fm (plainV n)=(fv n).getD (plainV n):=by
 rw[turnT_eq,if_pos (show(plainV n).k=1 from rfl)]
 rfl
theorem turn_ren (fv:Int→Option TyD) (fm:Int→Int × Int) (f g:Int→Int) (t:TyD):turnT fv fm (ren f g t)=turnT (fun n=>some ((fv (f n)).getD (plainV (f n)))) (fun v=>fm (g v)) t:=by
 unfold ren;rw[turn_turn]
 have e:(fun n=>match (fun n=>some (plainV (f n))) n with
  | some u=>some (turnT fv fm u)
  | none=>fv n)=fun n=>some ((fv (f n)).getD (plainV (f n))):=by
  funext n
  show some (turnT fv fm (plainV (f n)))=_;rw[turn_plain]
 exact congrArg (fun F=>turnT F (fun v=>fm (g v)) t) e
theorem ren_ren (f g f' g':Int→Int) (t:TyD):ren f' g' (ren f g t)=ren (fun n=>f' (f n)) (fun v=>g' (g v)) t:=by
 show turnT _ _ (ren f g t)=_;rw[turn_ren];rfl
theorem ren_congr {f g f' g':Int→Int} {t:TyD} (ht:mayT t=true) (hf:∀ n∈allV t,f n=f' n) (hg:∀ v∈allM t,g v=g' v):ren f g t=ren f' g' t:=
 turn_congr ht (fun n hn=>by rw[hf n hn]) fun v hv=>by rw[hg v hv]
theorem ren_nodes (f g:Int→Int) {t:TyD} (ht:mayT t=true):nodes (ren f g t)=nodes t:=by
 revert ht
 induction t using ty_ind with
 | h t ih=>
   intro ht;have fa:=may_facts ht;rw[ren_eq]
   by_cases hk:t.k=1
   · rw[if_pos hk,nodes_eq t,may_leaf ht (by omega)]; rfl
   · rw[if_neg hk,nodes_eq t,nodes_eq (.mk _ _ _ _ _)]
     have:=nodesL_map_congr (f:=ren f g) (g:=id) (l:=t.l) (fun x hx=>ih x hx (fa.2.2.2.2.2.2 x hx));rw[List.map_id] at this;show 1+nodes.nodesL (t.l.map (ren f g))=_;rw[this]
theorem allV_ren (f g:Int→Int) {t:TyD} (ht:mayT t=true):allV (ren f g t)=(allV t).map f:=by
 revert ht
 induction t using ty_ind with
 | h t ih=>
   intro ht;have fa:=may_facts ht;rw[ren_eq,allV_eq t]
   by_cases hk:t.k=1
   · rw[if_pos hk,if_pos hk,may_leaf ht (by omega)]; rfl
   · rw[if_neg hk,if_neg hk,allV_eq (.mk _ _ _ _ _),if_neg (by exact hk),List.nil_append,List.nil_append]
     show(t.l.map (ren f g)).flatMap allV=_;rw[List.flatMap_map,List.map_flatMap]
     have key:∀ l:List TyD,(∀ x∈l,x∈t.l)→l.flatMap (fun x=>allV (ren f g x))=l.flatMap fun x=>(allV x).map f:=by
      intro l
      induction l with
      | nil=>intro _; rfl
      | cons x l ihl=>
        intro hl;rw[List.flatMap_cons,List.flatMap_cons,ih x (hl x (by simp)) (fa.2.2.2.2.2.2 x (hl x (by simp))),ihl fun y hy=>hl y (List.mem_cons_of_mem _ hy)]
     exact key t.l fun _ h=>h
theorem allM_ren (f g:Int→Int) {t:TyD} (ht:mayT t=true):allM (ren f g t)=(allM t).map g:=by
 revert ht
 induction t using ty_ind with
 | h t ih=>
   intro ht;have fa:=may_facts ht
   by_cases hk:t.k=1
   · rw[ren_eq,if_pos hk,allM_not (t:=t) (by omega),may_leaf ht (by omega),allM_not (t:=plainV (f t.n)) (by show(1:Int)≠7; decide)]; rfl
   · by_cases h7:t.k=7
     · obtain⟨a,b,hl⟩:=may_fun ht h7
       have ha:=ih a (by rw[hl]; simp) (fa.2.2.2.2.2.2 a (by rw[hl]; simp))
       have hb:=ih b (by rw[hl]; simp) (fa.2.2.2.2.2.2 b (by rw[hl]; simp))
       rw[ren_eq,if_neg hk,allM_fun h7 hl,hl,allM_fun (t:=.mk t.k t.n (if t.k=7∧t.c=0 then g t.v else t.v) (if t.k=7∧t.c=0 then 0 else t.c) (List.map (ren f g) [a,b])) (a:=ren f g a) (b:=ren f g b) h7 rfl,ha,hb];show _++(if (if t.k=7∧t.c=0 then 0 else t.c)=0 then [if t.k=7∧t.c=0 then g t.v else t.v] else [])++_=_
       by_cases hc:t.c=0
       · simp[h7,hc]
       · simp[h7,hc]
     · rw[allM_not h7,ren_eq,if_neg hk,allM_not (t:=.mk t.k t.n _ _ _) h7]
       show(t.l.map (ren f g)).flatMap allM=_;rw[List.flatMap_map,List.map_flatMap]
       have key:∀ l:List TyD,(∀ x∈l,x∈t.l)→l.flatMap (fun x=>allM (ren f g x))=l.flatMap fun x=>(allM x).map g:=by
        intro l
        induction l with
        | nil=>intro _; rfl
        | cons x l ihl=>
          intro hl;rw[List.flatMap_cons,List.flatMap_cons,ih x (hl x (by simp)) (fa.2.2.2.2.2.2 x (hl x (by simp))),ihl fun y hy=>hl y (List.mem_cons_of_mem _ hy)]
       exact key t.l fun _ h=>h
theorem mem_vars {t:TyD} {n:Int}:n∈varsT t↔n∈allV t:=by unfold varsT; rw[addAll_mem]; simp
theorem mem_mults {t:TyD} {n:Int}:n∈multsT t↔n∈allM t:=by unfold multsT; rw[addAll_mem]; simp
theorem vars_nodup (t:TyD):(varsT t).Nodup:=addAll_nodup List.nodup_nil
theorem mults_nodup (t:TyD):(multsT t).Nodup:=addAll_nodup List.nodup_nil
theorem varsT_ren {f g:Int→Int} {t:TyD} (ht:mayT t=true) (hf:∀ a∈allV t,∀ b∈allV t,f a=f b→a=b):varsT (ren f g t)=(varsT t).map f:=by
 unfold varsT;rw[allV_ren f g ht];exact addAll_map (h:=f) (S:=fun n=>n∈allV t) (fun a b ha hb=>hf a ha b hb) (allV t) [] (fun _ h=>h) (by simp)
theorem multsT_ren {f g:Int→Int} {t:TyD} (ht:mayT t=true) (hg:∀ a∈allM t,∀ b∈allM t,g a=g b→a=b):multsT (ren f g t)=(multsT t).map g:=by
 unfold multsT;rw[allM_ren f g ht];exact addAll_map (h:=g) (S:=fun n=>n∈allM t) (fun a b ha hb=>hg a ha b hb) (allM t) [] (fun _ h=>h) (by simp)
def canT (t:TyD):TyD:=ren (idxN (varsT t)) (idxN (multsT t)) t
theorem idx_v {t:TyD}:∀ a∈allV t,∀ b∈allV t,idxN (varsT t) a=idxN (varsT t) b→a=b:=fun a ha b hb=>idxN_inj (mem_vars.2 ha) (mem_vars.2 hb)
theorem idx_m {t:TyD}:∀ a∈allM t,∀ b∈allM t,idxN (multsT t) a=idxN (multsT t) b→a=b:=fun a ha b hb=>idxN_inj (mem_mults.2 ha) (mem_mults.2 hb)
theorem canT_vars {t:TyD} (ht:mayT t=true):varsT (canT t)=(List.range (varsT t).length).map (fun i:Nat=>(i:Int)):=by
 unfold canT;rw[varsT_ren ht idx_v,idx_range (vars_nodup t)]
theorem canT_mults {t:TyD} (ht:mayT t=true):multsT (canT t)=(List.range (multsT t).length).map (fun i:Nat=>(i:Int)):=by
 unfold canT;rw[multsT_ren ht idx_m,idx_range (mults_nodup t)]
theorem canT_ren {f g:Int→Int} {t:TyD} (ht:mayT t=true) (hf:∀ a∈allV t,∀ b∈allV t,f a=f b→a=b) (hg:∀ a∈allM t,∀ b∈allM t,g a=g b→a=b):canT (ren f g t)=canT t:=by
 show ren _ _ (ren f g t)=_;rw[ren_ren,varsT_ren ht hf,multsT_ren ht hg];refine ren_congr ht (fun n hn=>?_) fun v hv=>?_
 · exact idxN_map (S:=fun n=>n∈allV t) (fun a b ha hb=>hf a ha b hb) (fun x hx=>mem_vars.1 hx) (mem_vars.2 hn) (vars_nodup t)
 · exact idxN_map (S:=fun n=>n∈allM t) (fun a b ha hb=>hg a ha b hb) (fun x hx=>mem_mults.1 hx) (mem_mults.2 hv) (mults_nodup t)
theorem canT_canT {t:TyD} (ht:mayT t=true):canT (canT t)=canT t:=canT_ren ht idx_v idx_m
theorem few_nat:∀ (N:Nat) (l:List Nat),l.Nodup→(∀ x∈l,x<N)→l.length≤N:=by
 intro N
 induction N with
 | zero=>
   intro l _ h
   cases l with
   | nil=>simp
   | cons x l=>exact absurd (h x (by simp)) (by omega)
 | succ N ih=>
   intro l hd h
   by_cases hm:N∈l
   · have h1:=ih (l.erase N) (hd.erase N) (fun x hx=>by
      have h2:=(hd.mem_erase_iff).1 hx;have:=h x h2.2;have:=h2.1
      omega)
     rw[List.length_erase_of_mem hm] at h1;omega
   · have:=ih l hd (fun x hx=>by
      have:=h x hx
      have:x≠N:=fun e=>hm (by rw[← e]; exact hx)
      omega)
     omega
theorem few_int {N:Nat} {l:List Int} (hd:l.Nodup) (h:∀ x∈l,0≤x∧x<(N:Int)):l.length≤N:=by
 have h1:=few_nat N (l.map Int.toNat) (by
  unfold List.Nodup at hd ⊢;rw[List.pairwise_map]
  exact hd.imp_of_mem fun ha hb hne e=>hne (by have:=h _ ha; have:=h _ hb; omega)) (fun x hx=>by
   obtain⟨y,hy,rfl⟩:=List.mem_map.1 hx;have:=h y hy
   omega)
 simpa using h1
theorem vars_few {t:TyD} (ht:mayT t=true):(varsT t).length≤1048576:=few_int (vars_nodup t) fun x hx=>allV_nonneg ht x (mem_vars.1 hx)
theorem mults_few {t:TyD} (ht:mayT t=true):(multsT t).length≤1048576:=few_int (mults_nodup t) fun x hx=>allM_nonneg ht x (mem_mults.1 hx)
theorem idxN_rng {l:List Int} {n:Int} (h:n∈l):0≤idxN l n∧idxN l n<l.length∧∃ h:(idxN l n).toNat<l.length,l[(idxN l n).toNat]=n:=by
 obtain⟨i,hi,e,e2⟩:=idxN_mem h;rw[e]
 exact⟨by omega,by omega,by simpa using hi,by simpa using e2⟩
def bk (s:Int) (n:Int):Int:=(n+s) % 1048576
theorem ren_may {f g:Int→Int} {t:TyD} (ht:mayT t=true) (hf:∀ n∈allV t,0≤f n∧f n<1048576) (hg:∀ v∈allM t,0≤g v∧g v<1048576):mayT (ren f g t)=true:=by
 refine turn_may ht (fun n hn u hu=>?_) (fun v hv=>?_)
 · injection hu with hu
   subst hu;have:=hf n hn
   exact may_mk (by decide) (by decide) this.1 (by have:mostI 1=1048576:=rfl; omega) (fun _=>rfl) (by simp) (.inl ⟨rfl,rfl⟩) (by simp)
 · have:=hg v hv
   simp[isB,oneB];omega
theorem ren_size (f g:Int→Int) {t:TyD} (ht:mayT t=true):sizeW (ren f g t)=sizeW t:=by unfold sizeW; rw[ren_nodes f g ht]
theorem ren_mayTE {f g:Int→Int} {t:TyD} (ht:mayTE t=0) (hf:∀ n∈allV t,0≤f n∧f n<1048576) (hg:∀ v∈allM t,0≤g v∧g v<1048576):mayTE (ren f g t)=0:=by
 obtain⟨h1,h2⟩:=mayTE_facts ht;unfold mayTE;rw[ren_size f g h1,if_neg (by omega),if_pos (ren_may h1 hf hg)]
theorem canT_mayTE {t:TyD} (ht:mayTE t=0):mayTE (canT t)=0:=by
 have h1:=(mayTE_facts ht).1;have h3:=vars_few h1;have h4:=mults_few h1
 exact ren_mayTE ht (fun n hn=>by have:=idxN_rng (mem_vars.2 hn); omega) fun v hv=>by have:=idxN_rng (mem_mults.2 hv); omega
theorem canon1_any (p1:Nat) (A:Option Addr) (m c:Nat) (l:List Int) (i:Int) (w:World) (hp:w.cell? ⟨p1,0,none⟩=some (.slice A m c)) (hr:RdI .i64 w w.heap.size A m c l):
 Calls Tryz.prog 105 (#[.int .i64 i]++#[.pointer (some ⟨p1,0,none⟩)]) w (VPost (fun n=>some (plainV (idxN l n))) i w):=by
 have hbx:=below_box (w:=w) (Obj.cells #[.int .u8 0,.int .i64 0,.int .i64 0,.int .u8 0,.slice none 0 0] 27);have hy:=blk_new w #[.int .u8 0,.int .i64 0,.int .i64 0,.int .u8 0,.slice none 0 0] 27;have hp1:=(hbx.cell (p:=⟨p1,0,none⟩) (block_lt_of_cell hp)).trans hp;have hq:=indexI_any A m c l i _ _ (hr.below hbx);obtain⟨x,hx⟩:∃ x,idxN l i=x:=⟨_,rfl⟩;rw[hx] at hq;have Hq:=qq hq;have Hx:=qq hx;have Hbx:=qq hbx;have s0:=hy.frozen 0;have s1:=hy.frozen 1;have s2:=hy.frozen 2;have s3:=hy.frozen 3;have s4:=hy.frozen 4;have r0:=hy.cell 0;have r1:=hy.cell 1;have r2:=hy.cell 2;have r3:=hy.cell 3;have r4:=hy.cell 4;have Hy:=qq hy;clear hbx hy hp hr hq hx
 go_enter Tryz.func105,Tryz.ntmps105
 go_wp2_with fail
 refine Hq.out.mono ?_; rintro e w3 ⟨rfl,rfl⟩
 go_wp2_with fail;have hs9:=blk_new w #[.int .u8 1,.int .i64 x,.int .i64 0,.int .u8 0,.slice none 0 0] 27;have d0':=hs9.cell 0;have d1':=hs9.cell 1;have d2':=hs9.cell 2;have d3':=hs9.cell 3;have d4':=hs9.cell 4
 exact bodyPost_ret (v:=.tuple #[.agg #[.int .u8 1,.int .i64 x,.int .i64 0,.int .u8 0,.slice none 0 0],.bool true]) (by simp[results,Tryz.results105,go_sem,d0',d1',d2',d3',d4']) rfl ⟨plainV x,none,0,0,true,rfl,TysS.nil,by show some (plainV (idxN l i))=_; rw[Hx.out]; rfl,below_box _⟩
theorem canon2_any (p1:Nat) (A:Option Addr) (m c:Nat) (l:List Int) (i:Int) (w:World) (hp:w.cell? ⟨p1,0,none⟩=some (.slice A m c)) (hr:RdI .i64 w w.heap.size A m c l):
 Calls Tryz.prog 107 (#[.int .i64 i]++#[.pointer (some ⟨p1,0,none⟩)]) w fun e w'=>e=.returned (.agg #[.int .i64 ((fun v=>(idxN l v,(0:Int))) i).1,.int .u8 ((fun v=>(idxN l v,(0:Int))) i).2])∧Below w.heap.size w w':=by
 have hbx:=below_box (w:=w) (Obj.cells #[.int .i64 0,.int .u8 0] 24);have hy:=blk_new w #[.int .i64 0,.int .u8 0] 24;have hp1:=(hbx.cell (p:=⟨p1,0,none⟩) (block_lt_of_cell hp)).trans hp;have hq:=indexI_any A m c l i _ _ (hr.below hbx);show Calls _ _ _ _ fun e w'=>e=.returned (.agg #[.int .i64 (idxN l i),.int .u8 0])∧Below w.heap.size w w';obtain⟨x,hx⟩:∃ x,idxN l i=x:=⟨_,rfl⟩;rw[hx] at hq ⊢;have Hq:=qq hq;have Hbx:=qq hbx;have s0:=hy.frozen 0;have s1:=hy.frozen 1;have r0:=hy.cell 0;have r1:=hy.cell 1;have Hy:=qq hy;clear hbx hy hp hr hq hx
 go_enter Tryz.func107,Tryz.ntmps107
 go_wp2_with fail
 refine Hq.out.mono ?_; rintro e w3 ⟨rfl,rfl⟩
 go_wp2_with fail;have hs9:=blk_new w #[.int .i64 x,.int .u8 0] 24;have d0':=hs9.cell 0;have d1':=hs9.cell 1;exact bodyPost_ret (v:=.agg #[.int .i64 x,.int .u8 0]) (by simp[results,Tryz.results107,go_sem,d0',d1']) rfl ⟨rfl,below_box _⟩
def RetCan (u:TyD) (l1 l2:List Int) (w:World) (e:Ending) (w':World):Prop:=
 ∃ A m c A1 n1 c1 A2 n2 c2,e=.returned (.tuple #[.agg #[.int .u8 u.k,.int .i64 u.n,.int .i64 u.v,.int .u8 u.c,.slice A m c],.slice A1 n1 c1,.slice A2 n2 c2])∧TysV w' w'.heap.size A m c u.l∧RdI .i64 w' w'.heap.size A1 n1 c1 l1∧RdI .i64 w' w'.heap.size A2 n2 c2 l2∧Below w.heap.size w w'
theorem RdI.fresh {k:IntKind} {w w':World} {A:Option Addr} {n c:Nat} {us:List Int} (h:RdI k w w.heap.size A n c us) (hb:Below w.heap.size w w'):RdI k w' w'.heap.size A n c us:=(h.below hb).more hb.size
theorem set_to {w:World} {a b:Addr} {v u:Value} (h:w.cell? b=some u) (hv:a=b→v=u):(w.setCell a v).cell? b=some u:=by
 by_cases e:a=b
 · subst e
   rw[hv rfl]
   exact World.cell?_setCell_same' w a u (by rw[h]; rfl)
 · rw[World.cell?_setCell_other _ _ _ _ e]
   exact h
section
variable {s:Nat} {W:World} {x0 x1 x2 x3 x4 y z:Value}
theorem keep_x (h:W.cell? ⟨s,0,none⟩=some x0∧W.cell? ⟨s,1,none⟩=some x1∧W.cell? ⟨s,2,none⟩=some x2∧W.cell? ⟨s,3,none⟩=some x3∧W.cell? ⟨s,4,none⟩=some x4∧W.cell? ⟨s+1+1,0,none⟩=some y∧W.cell? ⟨s+1+1+1,0,none⟩=some z):
 (W.setCell ⟨s+1+1,0,none⟩ y).cell? ⟨s,0,none⟩=some x0∧(W.setCell ⟨s+1+1,0,none⟩ y).cell? ⟨s,1,none⟩=some x1∧(W.setCell ⟨s+1+1,0,none⟩ y).cell? ⟨s,2,none⟩=some x2∧(W.setCell ⟨s+1+1,0,none⟩ y).cell? ⟨s,3,none⟩=some x3∧(W.setCell ⟨s+1+1,0,none⟩ y).cell? ⟨s,4,none⟩=some x4∧(W.setCell ⟨s+1+1,0,none⟩ y).cell? ⟨s+1+1,0,none⟩=some y∧(W.setCell ⟨s+1+1,0,none⟩ y).cell? ⟨s+1+1+1,0,none⟩=some z:=by
 obtain⟨h0,h1,h2,h3,h4,h5,h6⟩:=h
 refine⟨set_to h0 ?_,set_to h1 ?_,set_to h2 ?_,set_to h3 ?_,set_to h4 ?_,set_to h5 ?_,set_to h6 ?_⟩ <;> (intro e; first | rfl | (injection e with e1 e2; exfalso; omega))
theorem keep_o {v0 v1 v2 v3 v4:Value} (h:W.cell? ⟨s,0,none⟩=some x0∧W.cell? ⟨s,1,none⟩=some x1∧W.cell? ⟨s,2,none⟩=some x2∧W.cell? ⟨s,3,none⟩=some x3∧W.cell? ⟨s,4,none⟩=some x4∧W.cell? ⟨s+1+1,0,none⟩=some y∧W.cell? ⟨s+1+1+1,0,none⟩=some z):
 let W':=((((W.setCell ⟨s+1,0,none⟩ v0).setCell ⟨s+1,1,none⟩ v1).setCell ⟨s+1,2,none⟩ v2).setCell ⟨s+1,3,none⟩ v3).setCell ⟨s+1,4,none⟩ v4
 W'.cell? ⟨s,0,none⟩=some x0∧W'.cell? ⟨s,1,none⟩=some x1∧W'.cell? ⟨s,2,none⟩=some x2∧W'.cell? ⟨s,3,none⟩=some x3∧W'.cell? ⟨s,4,none⟩=some x4∧W'.cell? ⟨s+1+1,0,none⟩=some y∧W'.cell? ⟨s+1+1+1,0,none⟩=some z:=by
 obtain⟨h0,h1,h2,h3,h4,h5,h6⟩:=h
 have c:∀ (W:World) (i:Nat) (v:Value) (b o:Nat),b≠s+1→(W.setCell ⟨s+1,i,none⟩ v).cell? ⟨b,o,none⟩=W.cell? ⟨b,o,none⟩:=fun W i v b o hb=>World.cell?_setCell_other _ _ _ _ (fun e=>hb (by injection e with e1 e2; exact e1.symm))
 refine⟨?_,?_,?_,?_,?_,?_,?_⟩
 all_goals (rw[c _ _ _ _ _ (by omega),c _ _ _ _ _ (by omega),c _ _ _ _ _ (by omega),c _ _ _ _ _ (by omega),c _ _ _ _ _ (by omega)]; assumption)
theorem keep_q (h:W.cell? ⟨s,0,none⟩=some x0∧W.cell? ⟨s,1,none⟩=some x1∧W.cell? ⟨s,2,none⟩=some x2∧W.cell? ⟨s,3,none⟩=some x3∧W.cell? ⟨s,4,none⟩=some x4∧W.cell? ⟨s+1+1,0,none⟩=some y∧W.cell? ⟨s+1+1+1,0,none⟩=some z):
 (W.setCell ⟨s+1+1+1,0,none⟩ z).cell? ⟨s,0,none⟩=some x0∧(W.setCell ⟨s+1+1+1,0,none⟩ z).cell? ⟨s,1,none⟩=some x1∧(W.setCell ⟨s+1+1+1,0,none⟩ z).cell? ⟨s,2,none⟩=some x2∧(W.setCell ⟨s+1+1+1,0,none⟩ z).cell? ⟨s,3,none⟩=some x3∧(W.setCell ⟨s+1+1+1,0,none⟩ z).cell? ⟨s,4,none⟩=some x4∧(W.setCell ⟨s+1+1+1,0,none⟩ z).cell? ⟨s+1+1,0,none⟩=some y∧(W.setCell ⟨s+1+1+1,0,none⟩ z).cell? ⟨s+1+1+1,0,none⟩=some z:=by
 obtain⟨h0,h1,h2,h3,h4,h5,h6⟩:=h
 refine⟨set_to h0 ?_,set_to h1 ?_,set_to h2 ?_,set_to h3 ?_,set_to h4 ?_,set_to h5 ?_,set_to h6 ?_⟩ <;> (intro e; first | rfl | (injection e with e1 e2; exfalso; omega))
end
theorem canon_any (t:TyD) (hm:mayT t=true) (A:Option Addr) (m cp:Nat) (w:World) (hl:TysV w w.heap.size A m cp t.l):
 Calls Tryz.prog 45 #[.agg #[.int .u8 t.k,.int .i64 t.n,.int .i64 t.v,.int .u8 t.c,.slice A m cp]] w (RetCan (canT t) (varsT t) (multsT t) w):=by
 obtain⟨W,hW⟩:∃ W,(((w.alloc (Obj.cells #[.int .u8 t.k,.int .i64 t.n,.int .i64 t.v,.int .u8 t.c,.slice A m cp] 27)).alloc (Obj.cells #[.int .u8 0,.int .i64 0,.int .i64 0,.int .u8 0,.slice none 0 0] 27)).alloc (Obj.cells #[.slice none 0 0] 30)).alloc (Obj.cells #[.slice none 0 0] 30)=W:=⟨_,rfl⟩
 have hb:Below w.heap.size w W:=by rw[← hW]; exact(((Below.refl _ _).alloc (Nat.le_refl _) _).alloc (by simp) _ |>.alloc (by simp; omega) _).alloc (by simp; omega) _
 have hsz:W.heap.size=w.heap.size+1+1+1+1:=by rw[← hW]; simp
 have hz:Blk W w.heap.size 27 #[.int .u8 t.k,.int .i64 t.n,.int .i64 t.v,.int .u8 t.c,.slice A m cp]:=by
  rw[← hW]; exact(((blk_new w _ _).alloc _).alloc _).alloc _
 have hy:Blk W (w.heap.size+1) 27 #[.int .u8 0,.int .i64 0,.int .i64 0,.int .u8 0,.slice none 0 0]:=by
  rw[← hW]; have:=((blk_new (w.alloc (Obj.cells #[.int .u8 t.k,.int .i64 t.n,.int .i64 t.v,.int .u8 t.c,.slice A m cp] 27)) #[.int .u8 0,.int .i64 0,.int .i64 0,.int .u8 0,.slice none 0 0] 27).alloc (Obj.cells #[.slice none 0 0] 30)).alloc (Obj.cells #[.slice none 0 0] 30)
  rwa [World.size_alloc] at this
 have hx:Blk W (w.heap.size+1+1) 30 #[.slice none 0 0]:=by
  rw[← hW]; have:=(blk_new ((w.alloc (Obj.cells #[.int .u8 t.k,.int .i64 t.n,.int .i64 t.v,.int .u8 t.c,.slice A m cp] 27)).alloc (Obj.cells #[.int .u8 0,.int .i64 0,.int .i64 0,.int .u8 0,.slice none 0 0] 27)) #[.slice none 0 0] 30).alloc (Obj.cells #[.slice none 0 0] 30)
  rwa [World.size_alloc,World.size_alloc] at this
 have hq:Blk W (w.heap.size+1+1+1) 30 #[.slice none 0 0]:=by
  rw[← hW]; have:=blk_new (((w.alloc (Obj.cells #[.int .u8 t.k,.int .i64 t.n,.int .i64 t.v,.int .u8 t.c,.slice A m cp] 27)).alloc (Obj.cells #[.int .u8 0,.int .i64 0,.int .i64 0,.int .u8 0,.slice none 0 0] 27)).alloc (Obj.cells #[.slice none 0 0] 30)) #[.slice none 0 0] 30
  rwa [World.size_alloc,World.size_alloc,World.size_alloc] at this
 have hl0:=hl.below hb
 have hv:=vars_any t A m cp W (hl0.more hb.size) (by have:=vars_few hm; omega) (by have:=mults_few hm; omega)
 have hlv:RetVs (varsT t) (multsT t) W=RetVs (varsT t) (multsT t) W:=rfl;obtain⟨L1,hL1⟩:∃ L,varsT t=L:=⟨_,rfl⟩;obtain⟨L2,hL2⟩:∃ L,multsT t=L:=⟨_,rfl⟩
 have hC:canT t=turnT (fun n=>some (plainV (idxN L1 n))) (fun v=>(idxN L2 v,0)) t:=by rw[← hL1,← hL2]; rfl
 rw[hL1,hL2] at hv ⊢;have e0:=hz.cell 0;have e1:=hz.cell 1;have e2:=hz.cell 2;have e3:=hz.cell 3;have e4:=hz.cell 4;have HW:=qq hW;have Hb:=qq hb;have Hsz:=qq hsz;have Hz:=qq hz;have Hy:=qq hy;have Hx:=qq hx;have Hq:=qq hq;have HL:=qq hl0;have Hv:=qq hv;have HC:=qq hC;have HM:=qq hm;clear hW hb hsz hz hy hx hq hl0 hl hv hC hL1 hL2 hlv hm
 go_enter Tryz.func45,Tryz.ntmps45
 go_wp2_with fail;rw[HW.out];go_wp2_with fail
 refine Hv.out.mono ?_; rintro e w1 ⟨A1,n1,c1,A2,n2,c2,rfl,ho1,ho2,hne,hb1⟩
 have hx1:=Hx.out.below hb1 Hx.out.lt;have hq1:=Hq.out.below hb1 Hq.out.lt;have x0:=hx1.cell 0;have x1:=hx1.frozen 0;have q0:=hq1.cell 0;have q1:=(hq1.other (g':=w.heap.size+1+1) (by omega) 0 (.slice A1 n1 c1)).frozen 0;have q0':=(hq1.other (g':=w.heap.size+1+1) (by omega) 0 (.slice A1 n1 c1)).cell 0;have hz1:=((Hz.out.below hb1 Hz.out.lt).other (g':=w.heap.size+1+1) (by omega) 0 (.slice A1 n1 c1)).other (g':=w.heap.size+1+1+1) (by omega) 0 (.slice A2 n2 c2);have hy1:=((Hy.out.below hb1 Hy.out.lt).other (g':=w.heap.size+1+1) (by omega) 0 (.slice A1 n1 c1)).other (g':=w.heap.size+1+1+1) (by omega) 0 (.slice A2 n2 c2);have hx2:Blk ((w1.setCell ⟨w.heap.size+1+1,0,none⟩ (.slice A1 n1 c1)).setCell ⟨w.heap.size+1+1+1,0,none⟩ (.slice A2 n2 c2)) (w.heap.size+1+1) 30 #[.slice A1 n1 c1]:=(hx1.set_ 0 (.slice A1 n1 c1)).other (g':=w.heap.size+1+1+1) (by omega) 0 (.slice A2 n2 c2);have hq2:Blk ((w1.setCell ⟨w.heap.size+1+1,0,none⟩ (.slice A1 n1 c1)).setCell ⟨w.heap.size+1+1+1,0,none⟩ (.slice A2 n2 c2)) (w.heap.size+1+1+1) 30 #[.slice A2 n2 c2]:=(hq1.other (g':=w.heap.size+1+1) (by omega) 0 (.slice A1 n1 c1)).set_ 0 (.slice A2 n2 c2)
 have hle1:w.heap.size≤w.heap.size+1+1:=by omega
 have hle2:w.heap.size≤w.heap.size+1+1+1:=by omega
 have hb2:=((Hb.out.trans (hb1.mono Hb.out.size)).setCell (p:=⟨w.heap.size+1+1,0,none⟩) hle1 (.slice A1 n1 c1)).setCell (p:=⟨w.heap.size+1+1+1,0,none⟩) hle2 (.slice A2 n2 c2);have hs2:=Hsz.out
 have o1:=(ownsRow_setCell_below (a:=⟨w.heap.size+1+1+1,0,none⟩) (ownsRow_setCell_below (a:=⟨w.heap.size+1+1,0,none⟩) ho1 (by show w.heap.size+1+1<W.heap.size; omega) (.slice A1 n1 c1)) (by show w.heap.size+1+1+1<W.heap.size; omega) (.slice A2 n2 c2))
 have o2:=(ownsRow_setCell_below (a:=⟨w.heap.size+1+1+1,0,none⟩) (ownsRow_setCell_below (a:=⟨w.heap.size+1+1,0,none⟩) ho2 (by show w.heap.size+1+1<W.heap.size; omega) (.slice A1 n1 c1)) (by show w.heap.size+1+1+1<W.heap.size; omega) (.slice A2 n2 c2))
 have r1:=RdI.of_own o1;have r2:=RdI.of_own o2;have O1:=qq o1;have O2:=qq o2
 have hl1:TysV ((w1.setCell ⟨w.heap.size+1+1,0,none⟩ (.slice A1 n1 c1)).setCell ⟨w.heap.size+1+1+1,0,none⟩ (.slice A2 n2 c2)) w.heap.size A m cp t.l:=(HL.out.below (hb1.mono Hb.out.size)).keep fun p hp=>by
  rw[World.cell?_setCell_other _ _ _ _ (fun e=>by rw[← e] at hp; simp at hp; omega),World.cell?_setCell_other _ _ _ _ (fun e=>by rw[← e] at hp; simp at hp; omega)]
 have Hz1:=qq hz1;have Hy1:=qq hy1;have Hx2:=qq hx2;have Hq2:=qq hq2;have Hb2:=qq hb2;have R1:=qq r1;have R2:=qq r2;have HL1:=qq hl1;clear o1 o2 hx1 hq1 hz1 hy1 hx2 hq2 hb2 r1 r2 hl1 hb1 ho1 ho2 hne Hx Hq Hz Hy Hv HL hs2 e0 e1 e2 e3 e4;go_wp2_with fail;generalize (w1.setCell ⟨w.heap.size+1+1,0,none⟩ (.slice A1 n1 c1)).setCell ⟨w.heap.size+1+1+1,0,none⟩ (.slice A2 n2 c2)=w2 at Hz1 Hy1 Hx2 Hq2 Hb2 R1 R2 O1 O2 HL1 ⊢;clear x0 x1 q0 q1 q0';have e0:=Hz1.out.cell 0;have e1:=Hz1.out.cell 1;have e2:=Hz1.out.cell 2;have e3:=Hz1.out.cell 3;have e4:=Hz1.out.cell 4;have x0:=Hx2.out.cell 0;have q0:=Hq2.out.cell 0;have hbS:Below w2.heap.size w2 w2.drew:=Below.drew (Below.refl _ _);have hs2:w.heap.size+1+1+1<w2.heap.size:=Hq2.out.lt;have hd:Below w2.heap.size w2 w2.drew:=hbS
 have hq:=turnG (fun n=>some (plainV (idxN L1 n))) (fun v=>(idxN L2 v,0)) 105 107 #[.pointer (some ⟨w.heap.size+1+1,0,none⟩)] #[.pointer (some ⟨w.heap.size+1+1+1,0,none⟩)] (fun _ _=>rfl) (fun _ _=>rfl) (nodes t) t (Nat.le_refl _) HM.out A m cp w2.drew ((HL1.out.more (by omega)).fresh hd)
  (fun n w' h0 hb=>canon1_any _ A1 n1 c1 L1 n w' ((((Hx2.out.below hd Hx2.out.lt).below hb (Nat.lt_of_lt_of_le Hx2.out.lt hd.size)).cell 0)) ((R1.out.fresh hd).fresh hb))
  (fun n w' h0 hb=>canon2_any _ A2 n2 c2 L2 n w' ((((Hq2.out.below hd Hq2.out.lt).below hb (Nat.lt_of_lt_of_le Hq2.out.lt hd.size)).cell 0)) ((R2.out.fresh hd).fresh hb))
 rw[← HC.out] at hq;obtain⟨u,hu⟩:∃ u,canT t=u:=⟨_,rfl⟩;rw[hu] at hq ⊢;have Hq:=qq hq;have Hu:=qq hu;clear hd hq hu
 go_region_held3 (fun w'=>w'.cell? ⟨w.heap.size,0,none⟩=some (.int .u8 t.k)∧w'.cell? ⟨w.heap.size,1,none⟩=some (.int .i64 t.n)∧w'.cell? ⟨w.heap.size,2,none⟩=some (.int .i64 t.v)∧w'.cell? ⟨w.heap.size,3,none⟩=some (.int .u8 t.c)∧w'.cell? ⟨w.heap.size,4,none⟩=some (.slice A m cp)∧w'.cell? ⟨w.heap.size+1+1,0,none⟩=some (.slice A1 n1 c1)∧w'.cell? ⟨w.heap.size+1+1+1,0,none⟩=some (.slice A2 n2 c2))
  (first | (go_keep; done) | with_reducible exact k0 | with_reducible exact k7 | with_reducible exact k8)
  ((first
    | (go_at_call 64; refine Hq.out.mono ?_; rintro e wt ⟨A5,n5,c5,rfl,ht5,hb5⟩; replace hbS:=hbS.trans (hb5.mono hbS.size); have Ht5:=qq ht5; have hzt:=Hz1.out.below hbS Hz1.out.lt; have z0:=hzt.cell 0; have z1:=hzt.cell 1; have z2:=hzt.cell 2; have z3:=hzt.cell 3; have z4:=hzt.cell 4; have Hyt:=qq (Hy1.out.below hbS Hy1.out.lt); have HbS:=qq hbS; have hxt:=Hx2.out.below hbS Hx2.out.lt; have hqt:=Hq2.out.below hbS Hq2.out.lt; have hyt:=Hy1.out.below hbS Hy1.out.lt; have fx:=hxt.frozen 0; have fq:=hqt.frozen 0; have fy0:=hyt.frozen 0; have fy1:=hyt.frozen 1; have fy2:=hyt.frozen 2; have fy3:=hyt.frozen 3; have fy4:=hyt.frozen 4; have cx:=hxt.cell 0; have cq:=hqt.cell 0; have cy0:=hyt.cell 0; have cy1:=hyt.cell 1; have cy2:=hyt.cell 2; have cy3:=hyt.cell 3; have cy4:=hyt.cell 4; have k0:wt.cell? ⟨w.heap.size,0,none⟩=some (.int .u8 t.k)∧wt.cell? ⟨w.heap.size,1,none⟩=some (.int .i64 t.n)∧wt.cell? ⟨w.heap.size,2,none⟩=some (.int .i64 t.v)∧wt.cell? ⟨w.heap.size,3,none⟩=some (.int .u8 t.c)∧wt.cell? ⟨w.heap.size,4,none⟩=some (.slice A m cp)∧wt.cell? ⟨w.heap.size+1+1,0,none⟩=some (.slice A1 n1 c1)∧wt.cell? ⟨w.heap.size+1+1+1,0,none⟩=some (.slice A2 n2 c2):=⟨z0,z1,z2,z3,z4,cx,cq⟩; have k7:=keep_x (keep_o (v0:=.int .u8 u.k) (v1:=.int .i64 u.n) (v2:=.int .i64 u.v) (v3:=.int .u8 u.c) (v4:=.slice A5 n5 c5) k0); have k8:=keep_q k7; clear ht5 hb5 hxt hqt hyt hzt hbS)))
 all_goals
  have hg1:w.heap.size≤w.heap.size+1:=by omega
  have hWs:W.heap.size=w.heap.size+1+1+1+1:=Hsz.out;have hbt:=Hb2.out.trans (HbS.out.mono Hb2.out.size);have p1:=ownsRow_beyond O1.out HbS.out;have p2:=ownsRow_beyond O2.out HbS.out;have hxt:=Hx2.out.below HbS.out Hx2.out.lt;have hqt:=Hq2.out.below HbS.out Hq2.out.lt;have hs9:=((((Hyt.out.set_ 0 (.int .u8 (u.k))).set_ 1 (.int .i64 (u.n))).set_ 2 (.int .i64 (u.v))).set_ 3 (.int .u8 (u.c))).set_ 4 (.slice A5 n5 c5);have hb9:=((((hbt.setCell (p:=⟨w.heap.size+1,0,none⟩) hg1 (.int .u8 (u.k))).setCell (p:=⟨w.heap.size+1,1,none⟩) hg1 (.int .i64 (u.n))).setCell (p:=⟨w.heap.size+1,2,none⟩) hg1 (.int .i64 (u.v))).setCell (p:=⟨w.heap.size+1,3,none⟩) hg1 (.int .u8 (u.c))).setCell (p:=⟨w.heap.size+1,4,none⟩) hg1 (.slice A5 n5 c5);generalize hW9:((((((wt).setCell ⟨w.heap.size+1,0,none⟩ (.int .u8 (u.k))).setCell ⟨w.heap.size+1,1,none⟩ (.int .i64 (u.n))).setCell ⟨w.heap.size+1,2,none⟩ (.int .i64 (u.v))).setCell ⟨w.heap.size+1,3,none⟩ (.int .u8 (u.c))).setCell ⟨w.heap.size+1,4,none⟩ (.slice A5 n5 c5))=W9 at hs9 hb9 ⊢;replace hs9:Blk W9 (w.heap.size+1) 27 #[.int .u8 (u.k),.int .i64 (u.n),.int .i64 (u.v),.int .u8 (u.c),.slice A5 n5 c5]:=hs9;have d0':W9.cell? ⟨w.heap.size+1,0,none⟩=some (.int .u8 (u.k)):=hs9.cell 0;have d1':W9.cell? ⟨w.heap.size+1,1,none⟩=some (.int .i64 (u.n)):=hs9.cell 1;have d2':W9.cell? ⟨w.heap.size+1,2,none⟩=some (.int .i64 (u.v)):=hs9.cell 2;have d3':W9.cell? ⟨w.heap.size+1,3,none⟩=some (.int .u8 (u.c)):=hs9.cell 3;have d4':W9.cell? ⟨w.heap.size+1,4,none⟩=some (.slice A5 n5 c5):=hs9.cell 4
  have hx9:=hxt.other (g':=w.heap.size+1) (by omega) 0 (.int .u8 u.k) |>.other (g':=w.heap.size+1) (by omega) 1 (.int .i64 u.n) |>.other (g':=w.heap.size+1) (by omega) 2 (.int .i64 u.v) |>.other (g':=w.heap.size+1) (by omega) 3 (.int .u8 u.c) |>.other (g':=w.heap.size+1) (by omega) 4 (.slice A5 n5 c5)
  have hq9:=hqt.other (g':=w.heap.size+1) (by omega) 0 (.int .u8 u.k) |>.other (g':=w.heap.size+1) (by omega) 1 (.int .i64 u.n) |>.other (g':=w.heap.size+1) (by omega) 2 (.int .i64 u.v) |>.other (g':=w.heap.size+1) (by omega) 3 (.int .u8 u.c) |>.other (g':=w.heap.size+1) (by omega) 4 (.slice A5 n5 c5)
  have hlt:∀ (W':World) (i:Nat) (v:Value) (e:TypeId) (sz:Nat) (v2:Value) (n:Nat) (xs:List Value),W'.ownsRow W.heap.size e sz v2 n xs→(W'.setCell ⟨w.heap.size+1,i,none⟩ v).ownsRow W.heap.size e sz v2 n xs:=fun W' i v e sz v2 n xs h=>ownsRow_setCell_below h (by show w.heap.size+1<W.heap.size; omega) v
  have p19:=hlt _ 4 (.slice A5 n5 c5) _ _ _ _ _ (hlt _ 3 (.int .u8 u.c) _ _ _ _ _ (hlt _ 2 (.int .i64 u.v) _ _ _ _ _ (hlt _ 1 (.int .i64 u.n) _ _ _ _ _ (hlt _ 0 (.int .u8 u.k) _ _ _ _ _ p1))));have p29:=hlt _ 4 (.slice A5 n5 c5) _ _ _ _ _ (hlt _ 3 (.int .u8 u.c) _ _ _ _ _ (hlt _ 2 (.int .i64 u.v) _ _ _ _ _ (hlt _ 1 (.int .i64 u.n) _ _ _ _ _ (hlt _ 0 (.int .u8 u.k) _ _ _ _ _ p2))))
  have hc:∀ (W':World) (i:Nat) (v:Value) (p:Addr),w2.drew.heap.size≤p.block→(W'.setCell ⟨w.heap.size+1,i,none⟩ v).cell? p=W'.cell? p:=fun W' i v p hp=>World.cell?_setCell_other _ _ _ _ (fun e=>by rw[← e] at hp; simp at hp; omega)
  have hT9:TysS W9 (fun b=>w2.drew.heap.size≤b∧b<W9.heap.size) A5 n5 c5 u.l:=by
   rw[← hW9]
   refine Ht5.out.keep (fun b hb=>⟨hb.1,by simpa using hb.2⟩) fun p hp=>?_
   rw[hc _ _ _ _ hp.1,hc _ _ _ _ hp.1,hc _ _ _ _ hp.1,hc _ _ _ _ hp.1,hc _ _ _ _ hp.1]
  rw[hW9] at hx9 hq9 p19 p29;have hx10:Blk ((W9.setCell ⟨w.heap.size+1+1,0,none⟩ (.slice A1 n1 c1)).setCell ⟨w.heap.size+1+1+1,0,none⟩ (.slice A2 n2 c2)) (w.heap.size+1+1) 30 #[.slice A1 n1 c1]:=(hx9.set_ 0 (.slice A1 n1 c1)).other (g':=w.heap.size+1+1+1) (by omega) 0 (.slice A2 n2 c2);have hq10:Blk ((W9.setCell ⟨w.heap.size+1+1,0,none⟩ (.slice A1 n1 c1)).setCell ⟨w.heap.size+1+1+1,0,none⟩ (.slice A2 n2 c2)) (w.heap.size+1+1+1) 30 #[.slice A2 n2 c2]:=(hq9.other (g':=w.heap.size+1+1) (by omega) 0 (.slice A1 n1 c1)).set_ 0 (.slice A2 n2 c2);have hs10:=(hs9.other (g':=w.heap.size+1+1) (by omega) 0 (.slice A1 n1 c1)).other (g':=w.heap.size+1+1+1) (by omega) 0 (.slice A2 n2 c2);have hb10:=(hb9.setCell (p:=⟨w.heap.size+1+1,0,none⟩) hle1 (.slice A1 n1 c1)).setCell (p:=⟨w.heap.size+1+1+1,0,none⟩) hle2 (.slice A2 n2 c2)
  have p10:=RdI.of_own (ownsRow_setCell_below (a:=⟨w.heap.size+1+1+1,0,none⟩) (ownsRow_setCell_below (a:=⟨w.heap.size+1+1,0,none⟩) p19 (by show w.heap.size+1+1<W.heap.size; omega) (.slice A1 n1 c1)) (by show w.heap.size+1+1+1<W.heap.size; omega) (.slice A2 n2 c2))
  have p20:=RdI.of_own (ownsRow_setCell_below (a:=⟨w.heap.size+1+1+1,0,none⟩) (ownsRow_setCell_below (a:=⟨w.heap.size+1+1,0,none⟩) p29 (by show w.heap.size+1+1<W.heap.size; omega) (.slice A1 n1 c1)) (by show w.heap.size+1+1+1<W.heap.size; omega) (.slice A2 n2 c2))
  have hT10:TysV ((W9.setCell ⟨w.heap.size+1+1,0,none⟩ (.slice A1 n1 c1)).setCell ⟨w.heap.size+1+1+1,0,none⟩ (.slice A2 n2 c2)) ((W9.setCell ⟨w.heap.size+1+1,0,none⟩ (.slice A1 n1 c1)).setCell ⟨w.heap.size+1+1+1,0,none⟩ (.slice A2 n2 c2)).heap.size A5 n5 c5 u.l:=by
   refine TysS.lt (S:=fun b=>w2.drew.heap.size≤b∧b<W9.heap.size) (hT9.keep (fun b hb=>hb) fun p hp=>?_) (fun b hb=>by simpa using hb.2)
   have hp1:=hp.1
   rw[World.cell?_setCell_other _ _ _ _ (fun e=>by rw[← e] at hp1; simp at hp1; omega),World.cell?_setCell_other _ _ _ _ (fun e=>by rw[← e] at hp1; simp at hp1; omega)]
  generalize (W9.setCell ⟨w.heap.size+1+1,0,none⟩ (.slice A1 n1 c1)).setCell ⟨w.heap.size+1+1+1,0,none⟩ (.slice A2 n2 c2)=W10 at hx10 hq10 hs10 hb10 p10 p20 hT10 ⊢;have t0:=hs10.cell 0;have t1:=hs10.cell 1;have t2:=hs10.cell 2;have t3:=hs10.cell 3;have t4:=hs10.cell 4;have t5:=hx10.cell 0;have t6:=hq10.cell 0;have HR:Hid (RetCan u L1 L2 w (.returned (.tuple #[.agg #[.int .u8 u.k,.int .i64 u.n,.int .i64 u.v,.int .u8 u.c,.slice A5 n5 c5],.slice A1 n1 c1,.slice A2 n2 c2])) W10):=qq ⟨A5,n5,c5,A1,n1,c1,A2,n2,c2,rfl,hT10,p10,p20,hb10⟩;clear d0' d1' d2' d3' d4' hx9 hq9 hlt p19 p29 hc hT9 hx10 hq10 hs10 hb10 p10 p20 hT10 hs9 hb9 hW9 p1 p2 hxt hqt hbt k0 k7 k8 z0 z1 z2 z3 z4 cx cq cy0 cy1 cy2 cy3 cy4 fx fq fy0 fy1 fy2 fy3 fy4;go_wp2_with fail
  exact bodyPost_ret (v:=.tuple #[.agg #[.int .u8 u.k,.int .i64 u.n,.int .i64 u.v,.int .u8 u.c,.slice A5 n5 c5],.slice A1 n1 c1,.slice A2 n2 c2]) (by simp[results,Tryz.results45,go_sem,t0,t1,t2,t3,t4,t5,t6]) rfl (by rw[Hu.out]; exact HR.out)
def BT (w:World) (g:Nat) (t:TyD) (A:Option Addr) (m cp:Nat):Prop:=Blk w g 27 #[.int .u8 t.k,.int .i64 t.n,.int .i64 t.v,.int .u8 t.c,.slice A m cp]∧TysV w w.heap.size A m cp t.l
section
variable {w w':World} {g:Nat} {t:TyD} {A:Option Addr} {m cp n c:Nat} {l:List Int}
theorem BT.fresh (h:BT w g t A m cp) (hb:Below w.heap.size w w'):BT w' g t A m cp:=⟨h.1.below hb h.1.lt,TysV.fresh h.2 hb⟩
theorem BT.lt (h:BT w g t A m cp):g<w.heap.size:=h.1.lt
theorem BT.new (h:TysV w w.heap.size A m cp t.l):BT (w.alloc (Obj.cells #[.int .u8 t.k,.int .i64 t.n,.int .i64 t.v,.int .u8 t.c,.slice A m cp] 27)) w.heap.size t A m cp:=⟨blk_new w _ _,TysV.fresh h (below_box _)⟩
end
end Go.Proofs.YtdmakpmbknindaaGreatDoor
