import Derived.Test.YtdmakpmbknindaaGreatDoorM24
import Derived.BigQuiet
import Derived.Deep.QuietTactic
namespace Go.Proofs.YtdmakpmbknindaaGreatDoor
set_option linter.unusedVariables false
set_option linter.unusedSimpArgs false
open Go.RowKit
theorem ty_ind {P:TyD→Prop} (h:∀ t,(∀ x∈t.l,P x)→P t) (t:TyD):P t:=by
 have:∀ (N:Nat) (t:TyD),nodes t≤N→P t:=by
  intro N
  induction N with
  | zero=>intro t hN; rw[nodes_eq t] at hN; omega
  | succ N ih=>exact fun t hN=>h t fun x hx=>ih x (by have:=nodes_mem hx; rw[nodes_eq t] at hN; omega)
 exact this _ t (Nat.le_refl _)
def allV:TyD→List Int
 | .mk k n v c l=>(if k=1 then [n] else [])++go l
where go:List TyD→List Int
 | []=>[]
 | t :: r=>allV t++go r
theorem allV_go (l:List TyD):allV.go l=l.flatMap allV:=by
 induction l with
 | nil=>rfl
 | cons t r ih=>rw[allV.go,List.flatMap_cons,ih]
theorem allV_eq (t:TyD):allV t=(if t.k=1 then [t.n] else [])++t.l.flatMap allV:=by
 cases t; rw[allV,allV_go]; rfl
def allM:TyD→List Int
 | .mk k n v c l=>go (decide (k=7)&&decide (c=0)) v 0 l
where go (f:Bool) (v:Int):Nat→List TyD→List Int
 | _,[]=>[]
 | i,t :: r=>((if f&&decide (i=1) then [v] else [])++allM t)++go f v (i+1) r
theorem allM_eq (t:TyD):allM t=allM.go (decide (t.k=7)&&decide (t.c=0)) t.v 0 t.l:=by
 cases t; rw[allM]; rfl
theorem allM_plain (v:Int):∀ (i:Nat) (l:List TyD),allM.go false v i l=l.flatMap allM
 | _,[]=>by rw[allM.go]; rfl
 | i,t :: r=>by rw[allM.go,allM_plain v (i+1) r,List.flatMap_cons]; rfl
theorem allM_snoc (f:Bool) (v:Int):∀ (i:Nat) (a:List TyD) (t:TyD),allM.go f v i (a++[t])=allM.go f v i a++((if f&&decide (i+a.length=1) then [v] else [])++allM t)
 | i,[],t=>by simp[allM.go]
 | i,x :: a,t=>by
   rw[List.cons_append,allM.go,allM_snoc f v (i+1) a t,allM.go,List.length_cons,show i+1+a.length=i+(a.length+1) from by omega]
   simp only[List.append_assoc]
def addN (l:List Int) (n:Int):List Int:=if l.contains n then l else l++[n]
def addAll (l xs:List Int):List Int:=xs.foldl addN l
def varsT (t:TyD):List Int:=addAll [] (allV t)
def multsT (t:TyD):List Int:=addAll [] (allM t)
theorem addAll_append (l a b:List Int):addAll l (a++b)=addAll (addAll l a) b:=by unfold addAll; rw[List.foldl_append]
theorem addN_mem {l:List Int} {n x:Int}:x∈addN l n↔x∈l∨x=n:=by
 unfold addN
 split
 · rename_i h
   rw[List.contains_iff_mem] at h
   constructor
   · exact .inl
   · rintro(h2 | rfl)
     · exact h2
     · exact h
 · simp
theorem addAll_mem {xs:List Int}:∀ {l:List Int} {x:Int},x∈addAll l xs↔x∈l∨x∈xs:=by
 induction xs with
 | nil=>intro l x; simp[addAll]
 | cons a xs ih=>
   intro l x;show x∈addAll (addN l a) xs↔_;rw[ih,addN_mem,qk,or_assoc]
theorem addN_nodup {l:List Int} {n:Int} (h:l.Nodup):(addN l n).Nodup:=by
 unfold addN
 split
 · exact h
 · rename_i h2
   rw[List.contains_iff_mem] at h2;rw[List.nodup_append]
   exact⟨h,by simp,fun a ha b hb=>by rw[List.mem_singleton] at hb; subst hb; rintro rfl; exact h2 ha⟩
theorem addAll_nodup {xs:List Int}:∀ {l:List Int},l.Nodup→(addAll l xs).Nodup:=by
 induction xs with
 | nil=>intro l h; exact h
 | cons a xs ih=>intro l h; exact ih (addN_nodup h)
theorem addN_len (l:List Int) (n:Int):(addN l n).length≤l.length+1:=by unfold addN; split <;> simp
theorem addAll_map {h:Int→Int} {S:Int→Prop} (hinj:∀ a b,S a→S b→h a=h b→a=b):∀ (xs l:List Int),(∀ x∈xs,S x)→(∀ x∈l,S x)→addAll (l.map h) (xs.map h)=(addAll l xs).map h:=by
 intro xs
 induction xs with
 | nil=>intro l _ _; rfl
 | cons a xs ih=>
   intro l hx hl;have ha:=hx a (by simp)
   have e:addN (l.map h) (h a)=(addN l a).map h:=by
    unfold addN
    by_cases hm:a∈l
    · rw[if_pos (List.contains_iff_mem.2 hm),if_pos (List.contains_iff_mem.2 (List.mem_map.2 ⟨a,hm,rfl⟩))]
    · rw[if_neg (fun h=>hm (List.contains_iff_mem.1 h)),if_neg,List.map_append]; rfl
      intro h2;obtain⟨b,hb,e⟩:=List.mem_map.1 (List.contains_iff_mem.1 h2)
      exact hm (by rw[← hinj b a (hl b hb) ha e]; exact hb)
   show addAll (addN (l.map h) (h a)) (xs.map h)=(addAll (addN l a) xs).map h;rw[e];refine ih (addN l a) (fun x hx'=>hx x (List.mem_cons_of_mem _ hx')) fun x hx'=>?_
   rcases addN_mem.1 hx' with h | rfl
   · exact hl x h
   · exact ha
def idxN (l:List Int) (n:Int):Int:=match l.findIdx? (· == n) with
 | some i=>i
 | none => -1
theorem idxN_some {l:List Int} {i:Nat} (h:i<l.length) (hnd:l.Nodup):idxN l l[i]=i:=by
 have:l.findIdx? (· == l[i])=some i:=List.findIdx?_eq_some_iff_getElem.2 ⟨h,by simp,fun j hj=>by
  simp only[beq_iff_eq,Bool.not_eq_true,beq_eq_false_iff_ne,ne_eq];intro e;have:=(List.getElem_inj hnd).1 e
  omega⟩
 unfold idxN;rw[this]
theorem idxN_mem {l:List Int} {n:Int} (h:n∈l):∃ i,∃ hi:i<l.length,idxN l n=i∧l[i]=n:=by
 unfold idxN
 cases e:l.findIdx? (· == n) with
 | none=>
   rw[List.findIdx?_eq_none_iff] at e;have:=e n h;simp at this
 | some i=>
   obtain⟨hi,hp,_⟩:=List.findIdx?_eq_some_iff_getElem.1 e
   exact⟨i,hi,rfl,by simpa using hp⟩
theorem idxN_inj {l:List Int} {a b:Int} (ha:a∈l) (hb:b∈l) (h:idxN l a=idxN l b):a=b:=by
 obtain⟨i,hi,e1,e2⟩:=idxN_mem ha;obtain⟨j,hj,e3,e4⟩:=idxN_mem hb;rw[e1,e3] at h
 obtain rfl:i=j:=by omega
 rw[← e2,e4]
theorem idx_range {l:List Int} (hnd:l.Nodup):l.map (idxN l)=(List.range l.length).map (fun i:Nat=>(i:Int)):=by
 refine List.ext_getElem (by simp) fun i h1 h2=>?_;simp only[List.length_map] at h1;rw[List.getElem_map,List.getElem_map,idxN_some h1 hnd,List.getElem_range]
section
variable {fv fv':Int→Option TyD} {fm fm':Int→Int × Int}
def plainV (n:Int):TyD:=.mk 1 n 0 0 []
theorem may_var {t:TyD} (h:mayT t=true) (hk:t.k=1):t=plainV t.n:=by
 have p:=may_plain h (by omega);exact ty_ext hk rfl p.1 p.2 (may_leaf h (by omega))
theorem turnT_mk (fv:Int→Option TyD) (fm:Int→Int × Int) (k n v c:Int) (l:List TyD):turnT fv fm (.mk k n v c l)=if k=1 then (fv n).getD (.mk k n v c l) else .mk k n (if k=7∧c=0 then (fm v).1 else v) (if k=7∧c=0 then (fm v).2 else c) (l.map (turnT fv fm)):=turnT_eq fv fm (.mk k n v c l)
theorem turn_turn (fv fv':Int→Option TyD) (fm fm':Int→Int × Int) (t:TyD):turnT fv' fm' (turnT fv fm t)=turnT (fun n=>match fv n with
 | some u=>some (turnT fv' fm' u)
 | none=>fv' n) (fun v=>if (fm v).2=0 then fm' (fm v).1 else fm v) t:=by
 induction t using ty_ind with
 | h t ih=>
   obtain⟨k,n,v,c,l⟩:=t;simp only[TyD.l] at ih;rw[turnT_mk fv fm k n v c l,turnT_mk _ _ k n v c l]
   by_cases hk:k=1
   · rw[if_pos hk,if_pos hk]
     cases h:fv n with
     | some u=>rfl
     | none=>
       show turnT fv' fm' (.mk k n v c l)=(fv' n).getD (.mk k n v c l);rw[turnT_mk,if_pos hk]
   · rw[if_neg hk,if_neg hk,turnT_mk,if_neg hk,List.map_map]
     have hl:l.map (turnT fv' fm' ∘ turnT fv fm)=l.map (turnT (fun n=>match fv n with
   | some u=>some (turnT fv' fm' u)
   | none=>fv' n) (fun v=>if (fm v).2=0 then fm' (fm v).1 else fm v)):=List.map_congr_left fun x hx=>ih x hx
     rw[hl]
     by_cases h7:k=7
     · by_cases hc:c=0
       · by_cases hz:(fm v).2=0
         · simp[h7,hc,hz]
         · simp[h7,hc,hz]
       · simp[h7,hc]
     · simp[h7]
theorem allV_kid {t x:TyD} (hx:x∈t.l) {n:Int} (hn:n∈allV x):n∈allV t:=by
 rw[allV_eq];exact List.mem_append.2 (.inr (List.mem_flatMap.2 ⟨x,hx,hn⟩))
theorem allM_fun {t a b:TyD} (hk:t.k=7) (hl:t.l=[a,b]):allM t=allM a++(if t.c=0 then [t.v] else [])++allM b:=by
 rw[allM_eq,hl,hk];simp only[allM.go,decide_true,Bool.true_and]
 by_cases hc:t.c=0 <;> simp[hc]
theorem allM_not {t:TyD} (hk:t.k≠7):allM t=t.l.flatMap allM:=by
 rw[allM_eq,decide_eq_false hk,Bool.false_and,allM_plain]
theorem allM_kid {t x:TyD} (ht:mayT t=true) (hx:x∈t.l) {n:Int} (hn:n∈allM x):n∈allM t:=by
 by_cases hk:t.k=7
 · obtain⟨a,b,hl⟩:=may_fun ht hk
   rw[allM_fun hk hl];rw[hl] at hx;simp only[qk,List.not_mem_nil,or_false] at hx
   rcases hx with rfl | rfl
   · simp[hn]
   · simp[hn]
 · rw[allM_not hk]
   exact List.mem_flatMap.2 ⟨x,hx,hn⟩
theorem allM_own {t:TyD} (ht:mayT t=true) (hk:t.k=7) (hc:t.c=0):t.v∈allM t:=by
 obtain⟨a,b,hl⟩:=may_fun ht hk;rw[allM_fun hk hl,if_pos hc];simp
theorem allM_nonneg {t:TyD} (ht:mayT t=true):∀ v∈allM t,0≤v∧v<1048576:=by
 revert ht
 induction t using ty_ind with
 | h t ih=>
   intro ht v hv;have f:=may_facts ht
   by_cases hk:t.k=7
   · obtain⟨a,b,hl⟩:=may_fun ht hk
     rw[allM_fun hk hl] at hv;simp only[List.mem_append] at hv
     rcases hv with (hv | hv) | hv
     · exact ih a (by rw[hl]; simp) (f.2.2.2.2.2.2 a (by rw[hl]; simp)) v hv
     · split at hv
       · rename_i hc
         rw[List.mem_singleton] at hv;subst hv;have:=may_mu ht;unfold isB oneB at this;rw[hc] at this
         simpa using this
       · simp at hv
     · exact ih b (by rw[hl]; simp) (f.2.2.2.2.2.2 b (by rw[hl]; simp)) v hv
   · rw[allM_not hk] at hv
     obtain⟨x,hx,hv⟩:=List.mem_flatMap.1 hv;exact ih x hx (f.2.2.2.2.2.2 x hx) v hv
theorem allV_nonneg {t:TyD} (ht:mayT t=true):∀ v∈allV t,0≤v∧v<1048576:=by
 revert ht
 induction t using ty_ind with
 | h t ih=>
   intro ht v hv;have f:=may_facts ht;rw[allV_eq] at hv
   rcases List.mem_append.1 hv with hv | hv
   · split at hv
     · rename_i hk
       rw[List.mem_singleton] at hv;subst hv;have:=f.2.2.2.1;rw[hk] at this;exact⟨f.2.2.1,this⟩
     · simp at hv
   · obtain⟨x,hx,hv⟩:=List.mem_flatMap.1 hv
     exact ih x hx (f.2.2.2.2.2.2 x hx) v hv
theorem turn_congr {t:TyD} (ht:mayT t=true) (hv:∀ n∈allV t,(fv n).getD (plainV n)=(fv' n).getD (plainV n)) (hm:∀ v∈allM t,fm v=fm' v):turnT fv fm t=turnT fv' fm' t:=by
 revert ht hv hm
 induction t using ty_ind with
 | h t ih=>
   intro ht hv hm;rw[turnT_eq fv fm,turnT_eq fv' fm']
   by_cases hk:t.k=1
   · rw[if_pos hk,if_pos hk]
     have:=hv t.n (by rw[allV_eq,if_pos hk]; simp)
     rw[← may_var ht hk] at this;exact this
   · rw[if_neg hk,if_neg hk]
     have f:=may_facts ht;have hl:t.l.map (turnT fv fm)=t.l.map (turnT fv' fm'):=List.map_congr_left fun x hx=>ih x hx (f.2.2.2.2.2.2 x hx) (fun n hn=>hv n (allV_kid hx hn)) (fun v hv=>hm v (allM_kid ht hx hv));rw[hl]
     by_cases h:t.k=7∧t.c=0
     · rw[if_pos h,if_pos h,if_pos h,if_pos h,hm t.v (allM_own ht h.1 h.2)]
     · rw[if_neg h,if_neg h,if_neg h,if_neg h]
theorem may_mk {k n v c:Int} {l:List TyD} (h1:1≤k) (h2:k≤8) (h3:0≤n) (h4:n<mostI k) (h5:0≤kidsI k→(l.length:Int)=kidsI k) (h6:(l.length:Int)≤4) (h7:(v=0∧c=0)∨(k=7∧isB c v=true)) (h8:∀ x∈l,mayT x=true):mayT (.mk k n v c l)=true:=by
 rw[mayT_eq,Bool.and_eq_true];refine⟨?_,List.all_eq_true.2 h8⟩;unfold isN;simp only[Bool.and_eq_true,Bool.or_eq_true,Bool.not_eq_true',Bool.and_eq_false_iff,Bool.not_eq_false',decide_eq_true_eq,decide_eq_false_iff_not];refine⟨⟨⟨⟨⟨⟨h1,h2⟩,h3⟩,h4⟩,?_⟩,h6⟩,h7⟩
 by_cases h:0≤kidsI k
 · exact .inr (h5 h)
 · exact .inl h
theorem turn_may {t:TyD} (ht:mayT t=true) (hv:∀ n∈allV t,∀ u,fv n=some u→mayT u=true) (hm:∀ v∈allM t,isB (fm v).2 (fm v).1=true):mayT (turnT fv fm t)=true:=by
 revert ht hv hm
 induction t using ty_ind with
 | h t ih=>
   intro ht hv hm;have f:=may_facts ht;rw[turnT_eq fv fm]
   by_cases hk:t.k=1
   · rw[if_pos hk]
     cases e:fv t.n with
     | none=>exact ht
     | some u=>exact hv t.n (by rw[allV_eq,if_pos hk]; simp) u e
   · rw[if_neg hk]
     have hlen:=mayT_len ht
     refine may_mk f.1 f.2.1 f.2.2.1 f.2.2.2.1 (by rw[List.length_map]; exact f.2.2.2.2.1) (by rw[List.length_map]; omega) ?_ ?_
     · by_cases h:t.k=7∧t.c=0
       · rw[if_pos h,if_pos h]
         exact .inr ⟨h.1,hm t.v (allM_own ht h.1 h.2)⟩
       · rw[if_neg h,if_neg h]
         exact f.2.2.2.2.2.1
     · intro y hy
       obtain⟨x,hx,rfl⟩:=List.mem_map.1 hy;exact ih x hx (f.2.2.2.2.2.2 x hx) (fun n hn=>hv n (allV_kid hx hn)) (fun v hv=>hm v (allM_kid ht hx hv))
theorem nodesL_map_congr {f g:TyD→TyD}:∀ {l:List TyD},(∀ x∈l,nodes (f x)=nodes (g x))→nodes.nodesL (l.map f)=nodes.nodesL (l.map g)
 | [],_=>rfl
 | x :: l,h=>by
   rw[List.map_cons,List.map_cons,nodes.nodesL,nodes.nodesL,h x (by simp),nodesL_map_congr fun y hy=>h y (List.mem_cons_of_mem _ hy)]
theorem grown_nodes {sz:List Int} {t:TyD} (h0:∀ n∈allV t,0≤n) (h:∀ n∈allV t,(if n<sz.length then sz.getD n.toNat 0 else 1)=(((fv n).map nodes).getD 1:Nat)) (ht:mayT t=true):grownN sz t=nodes (turnT fv fm t):=by
 revert ht h0 h
 induction t using ty_ind with
 | h t ih=>
   intro h0 h ht;have f:=may_facts ht;rw[grownN_eq,turnT_eq]
   by_cases hk:t.k=1
   · have h2:=h t.n (by rw[allV_eq,if_pos hk]; simp)
     rw[if_pos hk];have hl:=may_leaf ht (by omega)
     have n1:nodes t=1:=by rw[nodes_eq,hl]; rfl
     by_cases hn:t.n<sz.length
     · rw[if_pos ⟨hk,hn⟩]
       rw[if_pos hn] at h2;rw[h2]
       cases fv t.n with
       | none=>rw[Option.getD_none,n1]; rfl
       | some u=>rfl
     · rw[if_neg (fun e=>hn e.2)]
       rw[if_neg hn] at h2;rw[hl]
       cases e:fv t.n with
       | none=>rw[Option.getD_none,n1]; rfl
       | some u=>rw[e] at h2; exact h2
   · rw[if_neg (fun e=>hk e.1),if_neg hk,nodes_eq]
     have key:∀ l:List TyD,(∀ x∈l,x∈t.l)→grownN.grownL sz l=nodes.nodesL (l.map (turnT fv fm)):=by
      intro l
      induction l with
      | nil=>intro _; rfl
      | cons x l ihl=>
        intro hl;have hx:=hl x (by simp);rw[grownN.grownL,List.map_cons,nodes.nodesL,ihl (fun y hy=>hl y (List.mem_cons_of_mem _ hy)),ih x hx (fun n hn=>h0 n (allV_kid hx hn)) (fun n hn=>h n (allV_kid hx hn)) (f.2.2.2.2.2.2 x hx)]
        push_cast
        rfl
     rw[key t.l (fun _ h=>h)];show(1:Int)+_=((1+_:Nat):Int)
     push_cast
     rfl
end
theorem below_drewN {B:Nat} {w:World} (k:Nat):Below B w (w.drewN k):=⟨rfl,rfl,rfl,Nat.le_refl _,fun _ _=>rfl⟩
set_option maxRecDepth 100000 in
set_option maxHeartbeats 2000000 in
theorem put_arr {w0:World} {b:Nat} {nm:Value} {ws:List ByteArray} (n v c:Int) (L:List TyD) (A:Option Addr) (m cp:Nat) (hl:TysV w0 w0.heap.size A m cp L)
 (hp:∀ x∈L,∀ A m cp,TysV w0 w0.heap.size A m cp x.l→PutAt w0 b nm ws x A m cp):PutAt w0 b nm ws (.mk 6 n v c L) A m cp:=by
 intro w l hbel hw hlen;show Calls Tryz.prog 132 #[.pointer (some ⟨b,0,none⟩),.agg #[.int .u8 6,.int .i64 n,.int .i64 v,.int .u8 c,.slice A m cp]] w _;have hbx:=below_box (w:=w) (Obj.cells #[.int .u8 6,.int .i64 n,.int .i64 v,.int .u8 c,.slice A m cp] 27);have hz:=blk_new w #[.int .u8 6,.int .i64 n,.int .i64 v,.int .u8 c,.slice A m cp] 27;have hw1:=hw.alloc (Obj.cells #[.int .u8 6,.int .i64 n,.int .i64 v,.int .u8 c,.slice A m cp] 27)
 have hne:some w.heap.size≠some b:=by have:=hw.lt; simp; omega
 have hzl:=hz.lt;obtain⟨W,hW⟩:∃ W,w.alloc (Obj.cells #[.int .u8 6,.int .i64 n,.int .i64 v,.int .u8 c,.slice A m cp] 27)=W:=⟨_,rfl⟩;rw[hW] at hbx hz hw1 hzl;have hbel1:=hbel.trans (hbx.mono hbel.size);have HW:=qq hW;have Hw1:=qq hw1;have Hbx:=qq hbx;have Hz:=qq hz;have Hlen:=qq hlen;have hB:=hbel.size;have hB1:=hbel1.size;have Hb1:=qq hbel1;clear hW hw1 hbx hbel1 hbel hw hlen;obtain⟨H,hH⟩:∃ H,txHead ws 6 n=H:=⟨_,rfl⟩
 have htx:txB ws (.mk 6 n v c L)=H++txB.dataL ws L:=by
  rw[txB_eq,← hH]; rfl
 rw[htx] at Hlen ⊢;have hlm:=hl.len;have m63:m≤9223372036854775807:=Nat.le_trans hl.2.1 hl.2.2.1;have HL:=qq hl;have Hp:=qq hp
 have hHl:l.length+H.length≤140737488355328:=by have h:=Hlen.out; rw[List.length_append] at h; omega
 have HH:=qq hH;clear hl hp htx hH;have hbs:(⟨#[65,114,114]⟩:ByteArray).data.toList=H:=HH.out
 have hwS:=wrS ⟨#[65,114,114]⟩ Hw1.out (by rw[hbs]; exact hHl) hB1
 rw[hbs] at hwS;have HwS:=qq hwS;have z0:=Hz.out.cell 0;clear hwS hbs
 go_enter Tryz.func132,Tryz.ntmps132
 go_wp2_with fail;rw[HW.out];go_wp2_with fail;refine HwS.out.mono ?_;rintro e w4 ⟨rfl,hq⟩;have Hq0:=qq hq;clear hq z0 HwS;have hzr:=Hz.out.others Hq0.out.2.2 hne (by decide);have z4:=hzr.cell 4;clear hzr;go_wp2_with fail;clear z4
 go_loopg [51] m (fun g i wr=>∃ k:Nat,k≤m∧g=m - k∧i=.int .i64 k∧WrOut w0.heap.size b nm (Lib.byteCells (l++(H++txB.dataL ws (L.take k)))) W wr)
 case atStart=>exact⟨0,Nat.zero_le _,rfl,rfl,by rw[List.take_zero,show txB.dataL ws []=[] from by rw[txB.dataL],List.append_nil]; exact Hq0.out⟩
 case round=>
  obtain⟨k,hk,rfl,rfl,hq⟩:=hrel
  by_cases hkm:k<m
  · have d0:decide (k<m)=true:=by simpa using hkm
    have hk':k<L.length:=by rw[hlm]; exact hkm
    have hbw:=Hb1.out.trans hq.2.1;obtain⟨bb,off,rfl,hbb,hc⟩:=HL.out.at_ (by omega);obtain⟨e0',e1',e2',e3',Ax,mx,cx,e4',hx⟩:=tyAt_iff.1 (hc k hk');have hcW:∀ j,wr.cell? ⟨bb,j,none⟩=w0.cell? ⟨bb,j,none⟩:=fun j=>hbw.cell (p:=⟨bb,j,none⟩) hbb;have e0:=(hcW _).trans e0';have e1:=(hcW _).trans e1';have e2:=(hcW _).trans e2';have e3:=(hcW _).trans e3';have e4:=(hcW _).trans e4';have hst:=dataL_step ws L k hk';have hple:=dataL_le ws L (k+1);have hpx:=Hp.out L[k] (List.getElem_mem hk') Ax mx cx hx;have hlx:=hx.len;obtain⟨x,hxk⟩:∃ x,L[k]=x:=⟨_,rfl⟩;rw[hxk] at e0 e1 e2 e3 hx hst hpx hlx;rw[hst] at hple;obtain⟨S,hS⟩:∃ S,txB.dataL ws (L.take k)=S:=⟨_,rfl⟩;rw[hS] at hst hple hq;have hbA:=below_box (w:=wr) (Obj.cells #[.int .u8 x.k,.int .i64 x.n,.int .i64 x.v,.int .u8 x.c,.slice Ax mx cx] 27);have hnb:=blk_new wr #[.int .u8 x.k,.int .i64 x.n,.int .i64 x.v,.int .u8 x.c,.slice Ax mx cx] 27
    have hne2:some wr.heap.size≠some b:=by have:=hq.is.lt; simp; omega
    have hl1:=Hlen.out;rw[List.length_append] at hl1
    have h32:=wrB (32:UInt8) (hq.is.below hbA) (by simp only[List.length_append,List.length_cons] at hple hl1 ⊢; omega) (Nat.le_trans hbw.size hbA.size)
    have k1:(0:Int)≤(k:Int):=by omega
    have k2:(k:Int)<m:=by omega
    have htin:txIn x=(x.k==7 || (decide (x.k≥6)&&decide (0<mx))):=by
     unfold txIn;rw[hlx]
    obtain⟨r7,hr7⟩:∃ r,(x.k==7)=r:=⟨_,rfl⟩;obtain⟨r6,hr6⟩:∃ r,decide (x.k≥6)=r:=⟨_,rfl⟩;rw[hr7,hr6] at htin;have H32:=qq h32;have HbA:=qq hbA;have Hbw:=qq hbw;have Hnb:=qq hnb;have Hne2:=qq hne2;have Hpx:=qq hpx;have Hq:=qq hq;have Hst:=qq hst;clear e0' e1' e2' e3' e4' hcW hc hbA hx hbw hnb hne2 hq h32 hpx hst hxk hS;go_wp2_with fail;refine H32.out.mono ?_;rintro e w5 ⟨rfl,h5⟩;have hn5:=Hnb.out.others h5.2.2 Hne2.out (by decide);have y0:=hn5.cell 0;have y1:=hn5.cell 1;have y2:=hn5.cell 2;have y3:=hn5.cell 3;have y4:=hn5.cell 4;have h6:=h5.behind HbA.out Hbw.out.size;have H6:=qq h6;clear h5 h6 hn5 H32 e0 e1 e2 e3 e4
    cases r7 with
    | true=>
      have HIn:Hid (txIn x=true):=qq htin;clear htin
      have hin:=in_any Hpx.out true w5 (l++(H++S)++[32]) (Hbw.out.trans H6.out.2.1) H6.out.is (by simp only[List.length_append,List.length_cons,List.length_nil] at hple ⊢; rw[HIn.out] at hple; omega)
      have Hin:=qq hin;clear hin;go_wp2_with fail;refine Hin.out.mono ?_;rintro e w7 ⟨rfl,h7⟩;have H7:=qq h7;clear h7;go_wp2_with fail;go_roundg (m - (k+1))
      case measure=>omega
      case rel=>
       refine⟨k+1,by omega,rfl,by go_num,?_⟩
       have h8:=Hq.out.trans (H6.out.trans H7.out);rw[Hst.out,HIn.out]
       have e9:l++(H++S)++[32]++txPar true (txB ws x)=l++(H++(S++32 :: txPar true (txB ws x))):=by simp
       rw[e9] at h8;exact h8
    | false=>
      cases r6 with
      | false=>
        have HIn:Hid (txIn x=false):=qq htin;clear htin
        have hin:=in_any Hpx.out false w5 (l++(H++S)++[32]) (Hbw.out.trans H6.out.2.1) H6.out.is (by simp only[List.length_append,List.length_cons,List.length_nil] at hple ⊢; rw[HIn.out] at hple; omega)
        have Hin:=qq hin;clear hin;go_wp2_with fail;refine Hin.out.mono ?_;rintro e w7 ⟨rfl,h7⟩;have H7:=qq h7;clear h7;go_wp2_with fail;go_roundg (m - (k+1))
        case measure=>omega
        case rel=>
         refine⟨k+1,by omega,rfl,by go_num,?_⟩
         have h8:=Hq.out.trans (H6.out.trans H7.out);rw[Hst.out,HIn.out]
         have e9:l++(H++S)++[32]++txPar false (txB ws x)=l++(H++(S++32 :: txPar false (txB ws x))):=by simp
         rw[e9] at h8;exact h8
      | true=>
        have HIn:Hid (txIn x=decide (0<mx)):=qq htin;clear htin
        have hin:=in_any Hpx.out (decide (0<mx)) w5 (l++(H++S)++[32]) (Hbw.out.trans H6.out.2.1) H6.out.is (by simp only[List.length_append,List.length_cons,List.length_nil] at hple ⊢; rw[HIn.out] at hple; omega)
        have Hin:=qq hin;clear hin;go_wp2_with fail;refine Hin.out.mono ?_;rintro e w7 ⟨rfl,h7⟩;have H7:=qq h7;clear h7;go_wp2_with fail;go_roundg (m - (k+1))
        case measure=>omega
        case rel=>
         refine⟨k+1,by omega,rfl,by go_num,?_⟩
         have h8:=Hq.out.trans (H6.out.trans H7.out);rw[Hst.out,HIn.out]
         have e9:l++(H++S)++[32]++txPar (decide (0<mx)) (txB ws x)=l++(H++(S++32 :: txPar (decide (0<mx)) (txB ws x))):=by simp
         rw[e9] at h8;exact h8
  · have d0:decide (k<m)=false:=by simpa using hkm
    have hall:L.take k=L:=List.take_of_length_le (by omega);rw[hall] at hq;have Hq:=qq hq;clear hq;go_wp2_with fail
    go_end0
    exact⟨rfl,Hq.out.behind Hbx.out hB⟩
set_option maxRecDepth 100000 in
set_option maxHeartbeats 2000000 in
theorem put_num {w0:World} {b:Nat} {nm:Value} {ws:List ByteArray} (n v c:Int) (L:List TyD) (A:Option Addr) (m cp:Nat) (An:Option Addr) (nn cn:Nat) (ht:Tab w0) (h0:0≤n) (h1:n<1048576) (hnm:nm=.slice An nn cn) (hnn:NmV w0 w0.heap.size An nn cn ws) (hbig:¬ n<nn) (hl:TysV w0 w0.heap.size A m cp L)
 (hp:∀ x∈L,∀ A m cp,TysV w0 w0.heap.size A m cp x.l→PutAt w0 b nm ws x A m cp):PutAt w0 b nm ws (.mk 8 n v c L) A m cp:=by
 intro w l hbel hw hlen;show Calls Tryz.prog 132 #[.pointer (some ⟨b,0,none⟩),.agg #[.int .u8 8,.int .i64 n,.int .i64 v,.int .u8 c,.slice A m cp]] w _;have hbx:=below_box (w:=w) (Obj.cells #[.int .u8 8,.int .i64 n,.int .i64 v,.int .u8 c,.slice A m cp] 27);have hz:=blk_new w #[.int .u8 8,.int .i64 n,.int .i64 v,.int .u8 c,.slice A m cp] 27;have hw1:=hw.alloc (Obj.cells #[.int .u8 8,.int .i64 n,.int .i64 v,.int .u8 c,.slice A m cp] 27)
 have hne:some w.heap.size≠some b:=by have:=hw.lt; simp; omega
 have hzl:=hz.lt;obtain⟨W,hW⟩:∃ W,w.alloc (Obj.cells #[.int .u8 8,.int .i64 n,.int .i64 v,.int .u8 c,.slice A m cp] 27)=W:=⟨_,rfl⟩;rw[hW] at hbx hz hw1 hzl;have hbel1:=hbel.trans (hbx.mono hbel.size);have HW:=qq hW;have Hw1:=qq hw1;have Hbx:=qq hbx;have Hz:=qq hz;have Hlen:=qq hlen;have hB:=hbel.size;have hB1:=hbel1.size;have Hb1:=qq hbel1;clear hW hw1 hbx hbel1 hbel hw hlen;obtain⟨H,hH⟩:∃ H,txHead ws 8 n=H:=⟨_,rfl⟩
 have htx:txB ws (.mk 8 n v c L)=H++txB.dataL ws L:=by
  rw[txB_eq,← hH]; rfl
 rw[htx] at Hlen ⊢;have hlm:=hl.len;have m63:m≤9223372036854775807:=Nat.le_trans hl.2.1 hl.2.2.1;have HL:=qq hl;have Hp:=qq hp
 have hHl:l.length+H.length≤140737488355328:=by have h:=Hlen.out; rw[List.length_append] at h; omega
 have HH:=qq hH;clear hl hp htx hH;have hnl:(numT n).size≤21:=numT_size _ (by omega) (by omega)
 have hbs:((⟨#[35]⟩:ByteArray)++numT n).data.toList=H:=by
  rw[← HH.out];unfold txHead
  rw[if_neg (by decide),if_neg (by rw[hnn.len]; exact hbig)]
  simp[numT]
 have hn63:nn≤9223372036854775807:=Nat.le_trans hnn.2.1 hnn.2.2;have hi:=itoa_any n (by omega) (by omega) W (ht.below Hb1.out);have Hi:=qq hi
 have d0:decide (n≥0)=true:=by simpa using h0
 have d1:decide (n<nn)=false:=by simpa using hbig
 have z0:=Hz.out.cell 0;have z1:=Hz.out.cell 1;have Hbs:=qq hbs;have Hnm:=qq hnm;clear hi hbs hnn ht hnm hbig
 go_enter Tryz.func132,Tryz.ntmps132
 go_wp2_with fail;rw[HW.out];go_wp2_with fail;refine Hi.out.mono ?_;rintro e w1 ⟨rfl,hb1⟩;have hz1:=Hz.out.below hb1 Hz.out.lt;have hw9:=Hw1.out.below hb1;have c2:=hw9.cell2;rw[Hnm.out] at c2;have z1:=hz1.cell 1;go_wp2_with fail
 go_quiet (fail)
 have hwS:=wrS (w:=w1.drewN nq) ((⟨#[35]⟩:ByteArray)++numT n) hw9 (by rw[Hbs.out]; exact hHl) (Nat.le_trans hB1 hb1.size)
 rw[Hbs.out] at hwS;have HwS:=qq hwS;clear hwS;go_wp2_with fail;refine HwS.out.mono ?_;rintro e w4 ⟨rfl,hq⟩;have hq9:WrOut w0.heap.size b nm (Lib.byteCells (l++H)) W w4:=hq.behind (w1:=w1.drewN nq) (hb1.trans (below_drewN nq)) hB1;have Hq0:=qq hq9;clear hq hq9 z0 z1 HwS hz1 hw9 c2 hb1;have hzr:=Hz.out.others Hq0.out.2.2 hne (by decide);have z4:=hzr.cell 4;clear hzr;go_wp2_with fail;clear z4
 go_loopg [51] m (fun g i wr=>∃ k:Nat,k≤m∧g=m - k∧i=.int .i64 k∧WrOut w0.heap.size b nm (Lib.byteCells (l++(H++txB.dataL ws (L.take k)))) W wr)
 case atStart=>exact⟨0,Nat.zero_le _,rfl,rfl,by rw[List.take_zero,show txB.dataL ws []=[] from by rw[txB.dataL],List.append_nil]; exact Hq0.out⟩
 case round=>
  obtain⟨k,hk,rfl,rfl,hq⟩:=hrel
  by_cases hkm:k<m
  · have d0:decide (k<m)=true:=by simpa using hkm
    have hk':k<L.length:=by rw[hlm]; exact hkm
    have hbw:=Hb1.out.trans hq.2.1;obtain⟨bb,off,rfl,hbb,hc⟩:=HL.out.at_ (by omega);obtain⟨e0',e1',e2',e3',Ax,mx,cx,e4',hx⟩:=tyAt_iff.1 (hc k hk');have hcW:∀ j,wr.cell? ⟨bb,j,none⟩=w0.cell? ⟨bb,j,none⟩:=fun j=>hbw.cell (p:=⟨bb,j,none⟩) hbb;have e0:=(hcW _).trans e0';have e1:=(hcW _).trans e1';have e2:=(hcW _).trans e2';have e3:=(hcW _).trans e3';have e4:=(hcW _).trans e4';have hst:=dataL_step ws L k hk';have hple:=dataL_le ws L (k+1);have hpx:=Hp.out L[k] (List.getElem_mem hk') Ax mx cx hx;have hlx:=hx.len;obtain⟨x,hxk⟩:∃ x,L[k]=x:=⟨_,rfl⟩;rw[hxk] at e0 e1 e2 e3 hx hst hpx hlx;rw[hst] at hple;obtain⟨S,hS⟩:∃ S,txB.dataL ws (L.take k)=S:=⟨_,rfl⟩;rw[hS] at hst hple hq;have hbA:=below_box (w:=wr) (Obj.cells #[.int .u8 x.k,.int .i64 x.n,.int .i64 x.v,.int .u8 x.c,.slice Ax mx cx] 27);have hnb:=blk_new wr #[.int .u8 x.k,.int .i64 x.n,.int .i64 x.v,.int .u8 x.c,.slice Ax mx cx] 27
    have hne2:some wr.heap.size≠some b:=by have:=hq.is.lt; simp; omega
    have hl1:=Hlen.out;rw[List.length_append] at hl1
    have h32:=wrB (32:UInt8) (hq.is.below hbA) (by simp only[List.length_append,List.length_cons] at hple hl1 ⊢; omega) (Nat.le_trans hbw.size hbA.size)
    have k1:(0:Int)≤(k:Int):=by omega
    have k2:(k:Int)<m:=by omega
    have htin:txIn x=(x.k==7 || (decide (x.k≥6)&&decide (0<mx))):=by
     unfold txIn;rw[hlx]
    obtain⟨r7,hr7⟩:∃ r,(x.k==7)=r:=⟨_,rfl⟩;obtain⟨r6,hr6⟩:∃ r,decide (x.k≥6)=r:=⟨_,rfl⟩;rw[hr7,hr6] at htin;have H32:=qq h32;have HbA:=qq hbA;have Hbw:=qq hbw;have Hnb:=qq hnb;have Hne2:=qq hne2;have Hpx:=qq hpx;have Hq:=qq hq;have Hst:=qq hst;clear e0' e1' e2' e3' e4' hcW hc hbA hx hbw hnb hne2 hq h32 hpx hst hxk hS;go_wp2_with fail;refine H32.out.mono ?_;rintro e w5 ⟨rfl,h5⟩;have hn5:=Hnb.out.others h5.2.2 Hne2.out (by decide);have y0:=hn5.cell 0;have y1:=hn5.cell 1;have y2:=hn5.cell 2;have y3:=hn5.cell 3;have y4:=hn5.cell 4;have h6:=h5.behind HbA.out Hbw.out.size;have H6:=qq h6;clear h5 h6 hn5 H32 e0 e1 e2 e3 e4
    cases r7 with
    | true=>
      have HIn:Hid (txIn x=true):=qq htin;clear htin
      have hin:=in_any Hpx.out true w5 (l++(H++S)++[32]) (Hbw.out.trans H6.out.2.1) H6.out.is (by simp only[List.length_append,List.length_cons,List.length_nil] at hple ⊢; rw[HIn.out] at hple; omega)
      have Hin:=qq hin;clear hin;go_wp2_with fail;refine Hin.out.mono ?_;rintro e w7 ⟨rfl,h7⟩;have H7:=qq h7;clear h7;go_wp2_with fail;go_roundg (m - (k+1))
      case measure=>omega
      case rel=>
       refine⟨k+1,by omega,rfl,by go_num,?_⟩
       have h8:=Hq.out.trans (H6.out.trans H7.out);rw[Hst.out,HIn.out]
       have e9:l++(H++S)++[32]++txPar true (txB ws x)=l++(H++(S++32 :: txPar true (txB ws x))):=by simp
       rw[e9] at h8;exact h8
    | false=>
      cases r6 with
      | false=>
        have HIn:Hid (txIn x=false):=qq htin;clear htin
        have hin:=in_any Hpx.out false w5 (l++(H++S)++[32]) (Hbw.out.trans H6.out.2.1) H6.out.is (by simp only[List.length_append,List.length_cons,List.length_nil] at hple ⊢; rw[HIn.out] at hple; omega)
        have Hin:=qq hin;clear hin;go_wp2_with fail;refine Hin.out.mono ?_;rintro e w7 ⟨rfl,h7⟩;have H7:=qq h7;clear h7;go_wp2_with fail;go_roundg (m - (k+1))
        case measure=>omega
        case rel=>
         refine⟨k+1,by omega,rfl,by go_num,?_⟩
         have h8:=Hq.out.trans (H6.out.trans H7.out);rw[Hst.out,HIn.out]
         have e9:l++(H++S)++[32]++txPar false (txB ws x)=l++(H++(S++32 :: txPar false (txB ws x))):=by simp
         rw[e9] at h8;exact h8
      | true=>
        have HIn:Hid (txIn x=decide (0<mx)):=qq htin;clear htin
        have hin:=in_any Hpx.out (decide (0<mx)) w5 (l++(H++S)++[32]) (Hbw.out.trans H6.out.2.1) H6.out.is (by simp only[List.length_append,List.length_cons,List.length_nil] at hple ⊢; rw[HIn.out] at hple; omega)
        have Hin:=qq hin;clear hin;go_wp2_with fail;refine Hin.out.mono ?_;rintro e w7 ⟨rfl,h7⟩;have H7:=qq h7;clear h7;go_wp2_with fail;go_roundg (m - (k+1))
        case measure=>omega
        case rel=>
         refine⟨k+1,by omega,rfl,by go_num,?_⟩
         have h8:=Hq.out.trans (H6.out.trans H7.out);rw[Hst.out,HIn.out]
         have e9:l++(H++S)++[32]++txPar (decide (0<mx)) (txB ws x)=l++(H++(S++32 :: txPar (decide (0<mx)) (txB ws x))):=by simp
         rw[e9] at h8;exact h8
  · have d0:decide (k<m)=false:=by simpa using hkm
    have hall:L.take k=L:=List.take_of_length_le (by omega);rw[hall] at hq;have Hq:=qq hq;clear hq;go_wp2_with fail
    go_end0
    exact⟨rfl,Hq.out.behind Hbx.out hB⟩
theorem getD_at {ws:List ByteArray} {k:Nat} (h:k<ws.length):txHead ws 8 (k:Int)=(ws.getD k ByteArray.empty).data.toList:=by
 unfold txHead;rw[if_neg (by decide),if_pos (by omega)];rfl
set_option maxRecDepth 100000 in
set_option maxHeartbeats 2000000 in
theorem put_name {w0:World} {b:Nat} {nm:Value} {ws:List ByteArray} (nk:Nat) (v c:Int) (L:List TyD) (A:Option Addr) (m cp:Nat) (An:Option Addr) (nn cn:Nat) (ht:Tab w0) (h1:(nk:Int)<1048576) (hnm:nm=.slice An nn cn) (hnn:NmV w0 w0.heap.size An nn cn ws) (hbig:nk<nn) (hl:TysV w0 w0.heap.size A m cp L)
 (hp:∀ x∈L,∀ A m cp,TysV w0 w0.heap.size A m cp x.l→PutAt w0 b nm ws x A m cp):PutAt w0 b nm ws (.mk 8 nk v c L) A m cp:=by
 obtain⟨n,hn⟩:∃ n:Int,(nk:Int)=n:=⟨_,rfl⟩;rw[hn];intro w l hbel hw hlen;show Calls Tryz.prog 132 #[.pointer (some ⟨b,0,none⟩),.agg #[.int .u8 8,.int .i64 n,.int .i64 v,.int .u8 c,.slice A m cp]] w _;have hbx:=below_box (w:=w) (Obj.cells #[.int .u8 8,.int .i64 n,.int .i64 v,.int .u8 c,.slice A m cp] 27);have hz:=blk_new w #[.int .u8 8,.int .i64 n,.int .i64 v,.int .u8 c,.slice A m cp] 27;have hw1:=hw.alloc (Obj.cells #[.int .u8 8,.int .i64 n,.int .i64 v,.int .u8 c,.slice A m cp] 27)
 have hne:some w.heap.size≠some b:=by have:=hw.lt; simp; omega
 have hzl:=hz.lt;obtain⟨W,hW⟩:∃ W,w.alloc (Obj.cells #[.int .u8 8,.int .i64 n,.int .i64 v,.int .u8 c,.slice A m cp] 27)=W:=⟨_,rfl⟩;rw[hW] at hbx hz hw1 hzl;have hbel1:=hbel.trans (hbx.mono hbel.size);have HW:=qq hW;have Hw1:=qq hw1;have Hbx:=qq hbx;have Hz:=qq hz;have Hlen:=qq hlen;have hB:=hbel.size;have hB1:=hbel1.size;have Hb1:=qq hbel1;clear hW hw1 hbx hbel1 hbel hw hlen;obtain⟨H,hH⟩:∃ H,txHead ws 8 n=H:=⟨_,rfl⟩
 have htx:txB ws (.mk 8 n v c L)=H++txB.dataL ws L:=by
  rw[txB_eq,← hH]; rfl
 rw[htx] at Hlen ⊢;have hlm:=hl.len;have m63:m≤9223372036854775807:=Nat.le_trans hl.2.1 hl.2.2.1;have HL:=qq hl;have Hp:=qq hp
 have hHl:l.length+H.length≤140737488355328:=by have h:=Hlen.out; rw[List.length_append] at h; omega
 have HH:=qq hH;clear hl hp htx hH;subst hn;have hnl:(numT nk).size≤21:=numT_size _ (by omega) (by omega)
 have hbs:(ws.getD nk ByteArray.empty).data.toList=H:=by
  rw[← HH.out,getD_at (by rw[hnn.len]; exact hbig)]
 have hn63:nn≤9223372036854775807:=Nat.le_trans hnn.2.1 hnn.2.2;have hi:=itoa_any nk (by omega) (by omega) W (ht.below Hb1.out);have Hi:=qq hi
 have d0:decide ((nk:Int)≥0)=true:=by simp
 have d1:decide (nk<nn)=true:=by simpa using hbig
 have k1:(0:Int)≤nk:=by omega
 have k2:(nk:Int)<nn:=by omega
 have z0:=Hz.out.cell 0;have z1:=Hz.out.cell 1;have Hbs:=qq hbs;have Hnm:=qq hnm;have Hnn:=qq hnn
 have hlt:nk<ws.length:=by rw[hnn.len]; exact hbig
 obtain⟨bn,offn,rfl,hcn⟩:=(hnn.below Hb1.out).cells (by omega);clear hi hbs hnn ht hnm hbig hcn
 go_enter Tryz.func132,Tryz.ntmps132
 go_wp2_with fail;rw[HW.out];go_wp2_with fail;refine Hi.out.mono ?_;rintro e w1 ⟨rfl,hb1⟩;have hz1:=Hz.out.below hb1 Hz.out.lt;have hw9:=Hw1.out.below hb1;have c2:=hw9.cell2;rw[Hnm.out] at c2;have z1:=hz1.cell 1;obtain⟨bn',offn',ee,hcn⟩:=(Hnn.out.below (Hb1.out.trans (hb1.mono hB1))).cells (by omega)
 injection ee with ee
 injection ee with ee1 ee2
 subst ee1; subst ee2
 have x0:=hcn nk hlt;obtain⟨N,hN⟩:∃ N,ws.getD nk ByteArray.empty=N:=⟨_,rfl⟩;rw[hN] at x0 Hbs;clear hcn hN;go_wp2_with fail
 go_quiet (fail)
 go_wp2_with fail
 go_quiet (fail)
 go_wp2_with fail;refine(wrS (B:=w0.heap.size) (b:=b) (nm:=nm) (l:=l) N ?h1 ?h2 ?h3).mono ?_
 case h1=>exact hw9
 case h2=>rw[Hbs.out]; exact hHl
 case h3=>exact Nat.le_trans hB1 hb1.size
 rintro e w4 ⟨rfl,hq⟩;rw[Hbs.out] at hq;have hq9:WrOut w0.heap.size b nm (Lib.byteCells (l++H)) W w4:=hq.behind (hb1.trans (below_drewN _)) hB1;have Hq0:=qq hq9;clear hq hq9 z0 z1 hz1 hw9 c2 hb1;have hzr:=Hz.out.others Hq0.out.2.2 hne (by decide);have z4:=hzr.cell 4;clear hzr;go_wp2_with fail;clear z4
 go_loopg [51] m (fun g i wr=>∃ k:Nat,k≤m∧g=m - k∧i=.int .i64 k∧WrOut w0.heap.size b nm (Lib.byteCells (l++(H++txB.dataL ws (L.take k)))) W wr)
 case atStart=>exact⟨0,Nat.zero_le _,rfl,rfl,by rw[List.take_zero,show txB.dataL ws []=[] from by rw[txB.dataL],List.append_nil]; exact Hq0.out⟩
 case round=>
  obtain⟨k,hk,rfl,rfl,hq⟩:=hrel
  by_cases hkm:k<m
  · have d0:decide (k<m)=true:=by simpa using hkm
    have hk':k<L.length:=by rw[hlm]; exact hkm
    have hbw:=Hb1.out.trans hq.2.1;obtain⟨bb,off,rfl,hbb,hc⟩:=HL.out.at_ (by omega);obtain⟨e0',e1',e2',e3',Ax,mx,cx,e4',hx⟩:=tyAt_iff.1 (hc k hk');have hcW:∀ j,wr.cell? ⟨bb,j,none⟩=w0.cell? ⟨bb,j,none⟩:=fun j=>hbw.cell (p:=⟨bb,j,none⟩) hbb;have e0:=(hcW _).trans e0';have e1:=(hcW _).trans e1';have e2:=(hcW _).trans e2';have e3:=(hcW _).trans e3';have e4:=(hcW _).trans e4';have hst:=dataL_step ws L k hk';have hple:=dataL_le ws L (k+1);have hpx:=Hp.out L[k] (List.getElem_mem hk') Ax mx cx hx;have hlx:=hx.len;obtain⟨x,hxk⟩:∃ x,L[k]=x:=⟨_,rfl⟩;rw[hxk] at e0 e1 e2 e3 hx hst hpx hlx;rw[hst] at hple;obtain⟨S,hS⟩:∃ S,txB.dataL ws (L.take k)=S:=⟨_,rfl⟩;rw[hS] at hst hple hq;have hbA:=below_box (w:=wr) (Obj.cells #[.int .u8 x.k,.int .i64 x.n,.int .i64 x.v,.int .u8 x.c,.slice Ax mx cx] 27);have hnb:=blk_new wr #[.int .u8 x.k,.int .i64 x.n,.int .i64 x.v,.int .u8 x.c,.slice Ax mx cx] 27
    have hne2:some wr.heap.size≠some b:=by have:=hq.is.lt; simp; omega
    have hl1:=Hlen.out;rw[List.length_append] at hl1
    have h32:=wrB (32:UInt8) (hq.is.below hbA) (by simp only[List.length_append,List.length_cons] at hple hl1 ⊢; omega) (Nat.le_trans hbw.size hbA.size)
    have k1:(0:Int)≤(k:Int):=by omega
    have k2:(k:Int)<m:=by omega
    have htin:txIn x=(x.k==7 || (decide (x.k≥6)&&decide (0<mx))):=by
     unfold txIn;rw[hlx]
    obtain⟨r7,hr7⟩:∃ r,(x.k==7)=r:=⟨_,rfl⟩;obtain⟨r6,hr6⟩:∃ r,decide (x.k≥6)=r:=⟨_,rfl⟩;rw[hr7,hr6] at htin;have H32:=qq h32;have HbA:=qq hbA;have Hbw:=qq hbw;have Hnb:=qq hnb;have Hne2:=qq hne2;have Hpx:=qq hpx;have Hq:=qq hq;have Hst:=qq hst;clear e0' e1' e2' e3' e4' hcW hc hbA hx hbw hnb hne2 hq h32 hpx hst hxk hS;go_wp2_with fail;refine H32.out.mono ?_;rintro e w5 ⟨rfl,h5⟩;have hn5:=Hnb.out.others h5.2.2 Hne2.out (by decide);have y0:=hn5.cell 0;have y1:=hn5.cell 1;have y2:=hn5.cell 2;have y3:=hn5.cell 3;have y4:=hn5.cell 4;have h6:=h5.behind HbA.out Hbw.out.size;have H6:=qq h6;clear h5 h6 hn5 H32 e0 e1 e2 e3 e4
    cases r7 with
    | true=>
      have HIn:Hid (txIn x=true):=qq htin;clear htin
      have hin:=in_any Hpx.out true w5 (l++(H++S)++[32]) (Hbw.out.trans H6.out.2.1) H6.out.is (by simp only[List.length_append,List.length_cons,List.length_nil] at hple ⊢; rw[HIn.out] at hple; omega)
      have Hin:=qq hin;clear hin;go_wp2_with fail;refine Hin.out.mono ?_;rintro e w7 ⟨rfl,h7⟩;have H7:=qq h7;clear h7;go_wp2_with fail;go_roundg (m - (k+1))
      case measure=>omega
      case rel=>
       refine⟨k+1,by omega,rfl,by go_num,?_⟩
       have h8:=Hq.out.trans (H6.out.trans H7.out);rw[Hst.out,HIn.out]
       have e9:l++(H++S)++[32]++txPar true (txB ws x)=l++(H++(S++32 :: txPar true (txB ws x))):=by simp
       rw[e9] at h8;exact h8
    | false=>
      cases r6 with
      | false=>
        have HIn:Hid (txIn x=false):=qq htin;clear htin
        have hin:=in_any Hpx.out false w5 (l++(H++S)++[32]) (Hbw.out.trans H6.out.2.1) H6.out.is (by simp only[List.length_append,List.length_cons,List.length_nil] at hple ⊢; rw[HIn.out] at hple; omega)
        have Hin:=qq hin;clear hin;go_wp2_with fail;refine Hin.out.mono ?_;rintro e w7 ⟨rfl,h7⟩;have H7:=qq h7;clear h7;go_wp2_with fail;go_roundg (m - (k+1))
        case measure=>omega
        case rel=>
         refine⟨k+1,by omega,rfl,by go_num,?_⟩
         have h8:=Hq.out.trans (H6.out.trans H7.out);rw[Hst.out,HIn.out]
         have e9:l++(H++S)++[32]++txPar false (txB ws x)=l++(H++(S++32 :: txPar false (txB ws x))):=by simp
         rw[e9] at h8;exact h8
      | true=>
        have HIn:Hid (txIn x=decide (0<mx)):=qq htin;clear htin
        have hin:=in_any Hpx.out (decide (0<mx)) w5 (l++(H++S)++[32]) (Hbw.out.trans H6.out.2.1) H6.out.is (by simp only[List.length_append,List.length_cons,List.length_nil] at hple ⊢; rw[HIn.out] at hple; omega)
        have Hin:=qq hin;clear hin;go_wp2_with fail;refine Hin.out.mono ?_;rintro e w7 ⟨rfl,h7⟩;have H7:=qq h7;clear h7;go_wp2_with fail;go_roundg (m - (k+1))
        case measure=>omega
        case rel=>
         refine⟨k+1,by omega,rfl,by go_num,?_⟩
         have h8:=Hq.out.trans (H6.out.trans H7.out);rw[Hst.out,HIn.out]
         have e9:l++(H++S)++[32]++txPar (decide (0<mx)) (txB ws x)=l++(H++(S++32 :: txPar (decide (0<mx)) (txB ws x))):=by simp
         rw[e9] at h8;exact h8
  · have d0:decide (k<m)=false:=by simpa using hkm
    have hall:L.take k=L:=List.take_of_length_le (by omega);rw[hall] at hq;have Hq:=qq hq;clear hq;go_wp2_with fail
    go_end0
    exact⟨rfl,Hq.out.behind Hbx.out hB⟩
theorem put_go {w0:World} {b:Nat} {nm:Value} {ws:List ByteArray} (ht:Tab w0) (An:Option Addr) (nn cn:Nat) (hnm:nm=.slice An nn cn) (hnn:NmV w0 w0.heap.size An nn cn ws):
 ∀ t:TyD,mayT t=true→∀ (A:Option Addr) (m cp:Nat),TysV w0 w0.heap.size A m cp t.l→PutAt w0 b nm ws t A m cp:=by
 intro t
 induction t using ty_ind with
 | h t ih=>
   intro hm A m cp hl;have f:=may_facts hm;have hp:∀ x∈t.l,∀ A m cp,TysV w0 w0.heap.size A m cp x.l→PutAt w0 b nm ws x A m cp:=fun x hx=>ih x hx (f.2.2.2.2.2.2 x hx);obtain⟨k,n,v,c,L⟩:=t
   have hk:k=1∨k=2∨k=3∨k=4∨k=5∨k=6∨k=7∨k=8:=by
    have h1:1≤k:=f.1;have h2:k≤8:=f.2.1;omega
   have hr:0≤n∧n<1048576:=mayT_range hm
   rcases hk with rfl | rfl | rfl | rfl | rfl | rfl | rfl | rfl
   · exact put_var n v c L A m cp ht hr.1 hr.2
   · exact put_word2 n v c L A m cp
   · exact put_word3 n v c L A m cp
   · exact put_word4 n v c L A m cp
   · exact put_word5 n v c L A m cp
   · exact put_arr n v c L A m cp hl hp
   · obtain⟨x0,x1,e⟩:=may_fun hm rfl
     have e:L=[x0,x1]:=e;subst e;exact put_fun n v c x0 x1 A m cp ht (may_mu hm) hl hp
   · by_cases h:n<nn
     · obtain⟨nk,rfl⟩:=Int.eq_ofNat_of_zero_le hr.1
       exact put_name nk v c L A m cp An nn cn ht hr.2 hnm hnn (by omega) hl hp
     · exact put_num n v c L A m cp An nn cn ht hr.1 hr.2 hnm hnn h hl hp
end Go.Proofs.YtdmakpmbknindaaGreatDoor
