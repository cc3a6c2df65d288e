import Derived.Test.YtgpeijkjmkocgaaDoorM1
import Derived.Deep.MidRow
set_option linter.unusedVariables false
set_option linter.unusedSimpArgs false
set_option maxHeartbeats 4000000
namespace Go.Proofs.YtgpeijkjmkocgaaDoor
open Go.RowKit
section
variable {P:Program} {ops:Array Oper} {Q:Exit→Act→World→Prop}
def waitsAt (ops:Array Oper) (i k:Nat):Bool:=match ops[i]? with
 | some o=>o.after.any fun e=>Region.binds .any e&&e.on==k
 | none=>false
def edgesDown (ops:Array Oper):Bool:=(List.range ops.size).all fun i=>match ops[i]? with
 | some o=>o.after.all fun e=>!Region.binds .any e || decide (e.on<i)
 | none=>true
theorem edgesDown_spec (h:edgesDown ops=true) {i:Nat} {o:Oper} (ho:ops[i]?=some o):∀ e∈o.after,Region.binds .any e=true→e.on<i:=by
 have hlt:i<ops.size:=(Array.getElem?_eq_some_iff.1 ho).1;have h1:=List.all_eq_true.1 h i (List.mem_range.2 hlt);rw[ho] at h1;intro e he hb;have:=Array.all_eq_true'.1 h1 e he;rw[hb] at this
 simpa using this
theorem wpAny_inv (J:(Nat→Bool)→Act→World→Prop) (hed:edgesDown ops=true)
  (hstep:∀ i f a w,i<ops.size→J f a w→f i=false→(∀ k,waitsAt ops i k=true→f k=true)→wpOp P ops Q i (J (fun j=>j==i || f j)) a w)
  (hdone:∀ f a w,J f a w→(∀ i,i<ops.size→f i=true)→Q .normal a w):
  ∀ (n:Nat) (l:Array Bool) (a:Act) (w:World),l.size=ops.size→l.toList.countP (fun b=>!b)≤n→J (fun j=>l.getD j false) a w→wpAny P .any ops Q n l a w:=by
 have hall:∀ (l:Array Bool),l.size=ops.size→Region.ready .any ops l=[]→∀ i,i<ops.size→l.getD i false=true:=by
  intro l hl h0 i
  induction i using Nat.strongRecOn with
  | ind i ih=>
    intro hi
    cases hq:l.getD i false with
    | true=>rfl
    | false=>
      exfalso
      have hm:i∈Region.ready .any ops l:=mem_ready.2 ⟨by
       rw[Array.getD_eq_getD_getElem?,Array.getElem?_eq_getElem (by omega)] at hq ⊢
       exact hq,ops[i],Array.getElem?_eq_getElem hi,fun e he hb=>ih e.on (edgesDown_spec hed (Array.getElem?_eq_getElem hi) e he hb) (Nat.lt_trans (edgesDown_spec hed (Array.getElem?_eq_getElem hi) e he hb) hi)⟩
      rw[h0] at hm
      cases hm
 intro n
 induction n with
 | zero=>
   intro l a w hl hc hJ
   have h1:∀ i,i<ops.size→l.getD i false=true:=fun i hi=>by
    have h2:=List.countP_eq_zero.1 (Nat.le_zero.1 hc) l[i] (by simp);rw[Array.getD_eq_getD_getElem?,Array.getElem?_eq_getElem (by omega)]
    simpa using h2
   refine⟨List.eq_nil_iff_forall_not_mem.2 fun i hi=>?_,hdone _ _ _ hJ h1⟩;obtain⟨q,o,ho,_⟩:=mem_ready.1 hi;have hlt:i<ops.size:=(Array.getElem?_eq_some_iff.1 ho).1;have h3:=h1 i hlt;rw[Array.getD_eq_getD_getElem?,Array.getElem?_eq_getElem (by omega)] at q h3;simp only[Option.getD_some] at q h3;rw[q] at h3
   cases h3
 | succ n ih=>
   intro l a w hl hc hJ;refine⟨fun h0=>hdone _ _ _ hJ (hall l hl h0),fun i hi=>?_⟩;obtain⟨q,o,ho,hd⟩:=mem_ready.1 hi;have hlt:i<ops.size:=(Array.getElem?_eq_some_iff.1 ho).1
   have hil:i<l.size:=by omega
   have hfi:l.getD i false=false:=by
    rw[Array.getD_eq_getD_getElem?,Array.getElem?_eq_getElem hil] at q ⊢;exact q
   refine wpOp_mono (fun a' w' h'=>ih (l.setIfInBounds i true) a' w' (by simpa using hl) ?_ ?_) (hstep i _ a w hlt hJ hfi fun k hk=>?_)
   · have hli:l.toList[i]'(by simpa using hil)=false:=by
      rw[Array.getD_eq_getD_getElem?,Array.getElem?_eq_getElem hil] at hfi
      simpa using hfi
     have hpos:0<l.toList.countP (fun b=>!b):=List.countP_pos_iff.2 ⟨false,by rw[← hli]; exact List.getElem_mem _,rfl⟩
     rw[Array.toList_setIfInBounds,List.countP_set (by simpa using hil),hli];simp only[Bool.not_false,Bool.not_true,if_true,Bool.false_eq_true,if_false];omega
   · have:(fun j=>(l.setIfInBounds i true).getD j false)=fun j=>j==i || l.getD j false:=by
      funext j
      by_cases e:i=j
      · subst e
        rw[Array.getD_eq_getD_getElem?];simp[hil]
      · rw[getD_set_ne false e]
        simp[show ¬ j=i from fun h=>e h.symm]
     rw[this];exact h'
   · unfold waitsAt at hk
     rw[ho] at hk;obtain⟨e,he,hq⟩:=Array.any_eq_true'.1 hk;simp only[Bool.and_eq_true,beq_iff_eq] at hq;rw[← hq.2];exact hd e he hq.1
theorem wp_region_inv (J:(Nat→Bool)→Act→World→Prop) {id:Nat} {a:Act} {w:World} (hm:P.follows .mixedOrders=true) (hed:edgesDown ops=true) (h0:J (fun _=>false) a w.drew)
  (hstep:∀ i f a w,i<ops.size→J f a w→f i=false→(∀ k,waitsAt ops i k=true→f k=true)→wpOp P ops Q i (J (fun j=>j==i || f j)) a w)
  (hdone:∀ f a w,J f a w→(∀ i,i<ops.size→f i=true)→Q .normal a w):(Code.region id ops true).wp P Q a w:=by
 refine wp_region_any hm (wpAny_inv J hed hstep hdone ops.size _ a w.drew (by simp) ?_ ?_)
 · refine Nat.le_trans List.countP_le_length ?_
   simp
 · have:(fun j=>(Array.replicate ops.size false).getD j false)=fun _=>false:=by
    funext j
    rw[Array.getD_eq_getD_getElem?]
    by_cases h:j<ops.size
    · simp[h]
    · simp[h]
   rw[this];exact h0
end
def SlotJ (D:List Nat) (f:Nat→Bool) (V:Nat→Value) (a:Act):Prop:=∀ i d,D[i]?=some d→f i=true→a.tmps[d]?=some (V i)
def FixJ (l:List (Nat × Value)) (n:Nat) (a:Act):Prop:=a.tmps.size=n∧a.defers=[]∧∀ p∈l,a.tmps[p.1]?=some p.2
theorem FixJ.put {l:List (Nat × Value)} {n:Nat} {a:Act} (h:FixJ l n a) (d:Nat) (v:Value) (hd:(l.all fun p=>p.1 != d)=true):FixJ l n (a.put (some d) v):=by
 refine⟨by simp[Act.put,h.1],h.2.1,fun p hp=>?_⟩
 have hne:p.1≠d:=by simpa using List.all_eq_true.1 hd p hp
 rw[← h.2.2 p hp];simp[Act.put,Array.getElem?_setIfInBounds_ne (Ne.symm hne)]
theorem FixJ.none {l:List (Nat × Value)} {n:Nat} {a:Act} (h:FixJ l n a) (v:Value):FixJ l n (a.put none v):=h
theorem SlotJ.none {D:List Nat} {f:Nat→Bool} {V V':Nat→Value} {a:Act} (h:SlotJ D f V a) (i:Nat) (v:Value) (hi:D.length≤i) (hV:∀ k,f k=true→V' k=V k):SlotJ D (fun j=>j==i || f j) V' (a.put none v):=by
 intro k d hk hf;have hkl:k<D.length:=(List.getElem?_eq_some_iff.1 hk).1
 have hf':f k=true:=by
  rcases Bool.or_eq_true _ _ ▸ hf with e | e
  · have:k=i:=by simpa using e
    omega
  · exact e
 rw[hV k hf'];exact h k d hk hf'
theorem SlotJ.put {D:List Nat} {f:Nat→Bool} {V V':Nat→Value} {a:Act} {n:Nat} (h:SlotJ D f V a) (hs:a.tmps.size=n) (hnd:D.Nodup) (i d:Nat) (v:Value) (hi:D[i]?=some d) (hd:d<n) (hv:V' i=v) (hV:∀ k,k≠i→f k=true→V' k=V k):SlotJ D (fun j=>j==i || f j) V' (a.put (some d) v):=by
 intro k e hk hf
 by_cases hki:k=i
 · subst hki
   rw[hi] at hk;obtain rfl:=Option.some.inj hk;rw[hv];simp[Act.put,hs,hd]
 · have hf':f k=true:=by simpa[hki] using hf
   have hne:e≠d:=fun q=>by
    subst q;obtain⟨h1,h2⟩:=List.getElem?_eq_some_iff.1 hk;obtain⟨h3,h4⟩:=List.getElem?_eq_some_iff.1 hi;exact hki ((List.getElem_inj hnd).1 (h2.trans h4.symm))
   rw[hV k hki hf',← h k e hk hf'];simp[Act.put,Array.getElem?_setIfInBounds_ne (Ne.symm hne)]
structure Bxs (B:Nat) (w:World) (T:TypeId) (I:Nat→Bool) (f:Nat→Bool) (bl:Nat→Nat) (ct:Nat→Array Value):Prop where
 blk:∀ i,I i=true→f i=true→B≤bl i∧Blk w (bl i) T (ct i)
 sep:∀ i j,I i=true→I j=true→f i=true→f j=true→bl i=bl j→i=j
section
variable {B:Nat} {w w':World} {T:TypeId} {I f f':Nat→Bool} {bl bl':Nat→Nat} {ct ct':Nat→Array Value}
theorem Bxs.below (h:Bxs B w T I f bl ct) (hb:Below w.heap.size w w'):Bxs B w' T I f bl ct:=
 ⟨fun i hi hf=>⟨(h.blk i hi hf).1,(h.blk i hi hf).2.below hb (h.blk i hi hf).2.lt⟩,h.sep⟩
theorem Bxs.on (h:Bxs B w T I f bl ct) (i:Nat) (hi:I i=false) (hc:∀ k,I k=true→f k=true→ct' k=ct k):Bxs B w T I (fun j=>j==i || f j) bl ct':=by
 have hf:∀ k,I k=true→(k==i || f k)=true→f k=true:=fun k hk h1=>by
  rcases Bool.or_eq_true _ _ ▸ h1 with e | e
  · have:k=i:=by simpa using e
    rw[this,hi] at hk
    cases hk
  · exact e
 exact⟨fun k hk h1=>by rw[hc k hk (hf k hk h1)]; exact h.blk k hk (hf k hk h1),fun k j hk hj h1 h2=>h.sep k j hk hj (hf k hk h1) (hf j hj h2)⟩
theorem Bxs.new (h:Bxs B w T I f bl ct) (i:Nat) (hB:B≤w.heap.size) (cs:Array Value) (hc:ct' i=cs) (hct:∀ k,k≠i→I k=true→f k=true→ct' k=ct k) (hi:bl' i=w.heap.size) (hbl:∀ k,k≠i→bl' k=bl k):Bxs B (w.alloc (Obj.cells cs T)) T I (fun j=>j==i || f j) bl' ct':=by
 have hb:=below_box (w:=w) (Obj.cells cs T)
 have hf:∀ k,k≠i→(k==i || f k)=true→f k=true:=fun k hk h1=>by simpa[hk] using h1
 refine⟨fun k hk h1=>?_,fun k j hk hj h1 h2 e=>?_⟩
 · by_cases q:k=i
   · subst q
     rw[hi,hc];exact⟨hB,blk_new w cs T⟩
   · rw[hbl k q,hct k q hk (hf k q h1)]
     have:=h.blk k hk (hf k q h1);exact⟨this.1,this.2.below hb this.2.lt⟩
 · by_cases q:k=i
   · by_cases q2:j=i
     · rw[q,q2]
     · subst q
       rw[hi,hbl j q2] at e;have:=(h.blk j hj (hf j q2 h2)).2.lt;omega
   · by_cases q2:j=i
     · subst q2
       rw[hi,hbl k q] at e;have:=(h.blk k hk (hf k q h1)).2.lt;omega
     · rw[hbl k q,hbl j q2] at e
       exact h.sep k j hk hj (hf k q h1) (hf j q2 h2) e
theorem Bxs.set (h:Bxs B w T I f bl ct) (i:Nat) (hi:I i=true) (hf:f i=true) (hk:Blk w' (bl i) T (ct' i)) (hb:∀ b,b≠bl i→w'.heap[b]?=w.heap[b]?) (hct:∀ k,k≠i→I k=true→f k=true→ct' k=ct k):Bxs B w' T I f bl ct':=by
 refine⟨fun k hk' h1=>?_,h.sep⟩
 by_cases q:k=i
 · subst q
   exact⟨(h.blk _ hi hf).1,hk⟩
 · rw[hct k q hk' h1]
   have h2:=h.blk k hk' h1;exact⟨h2.1,(hb _ fun e=>q (h.sep k i hk' hi h1 hf e)).trans h2.2⟩
end
section
variable {P:Program} {ops:Array Oper} {Q:Exit→Act→World→Prop} {S:World→Prop} {tl:Nat}
theorem wpAnyT_inv (J:(Nat→Bool)→Act→World→Prop) (hed:edgesDown ops=true)
  (hstep:∀ i f a w,i<ops.size→J f a w→f i=false→(∀ k,waitsAt ops i k=true→f k=true)→wpOp P ops Q i (fun a' w'=>S w'∧J (fun j=>j==i || f j) a' w') a w)
  (hdone:∀ f a w,J f a w→(∀ i,i<ops.size→f i=true)→Q .normal a w):
  ∀ (n:Nat) (l:Array Bool) (a:Act) (w:World),l.size=ops.size→l.toList.countP (fun b=>!b)≤n→J (fun j=>l.getD j false) a w→wpAnyT P .any ops Q S tl n l a w:=by
 have hall:∀ (l:Array Bool),l.size=ops.size→Region.ready .any ops l=[]→∀ i,i<ops.size→l.getD i false=true:=by
  intro l hl h0 i
  induction i using Nat.strongRecOn with
  | ind i ih=>
    intro hi
    cases hq:l.getD i false with
    | true=>rfl
    | false=>
      exfalso
      have hm:i∈Region.ready .any ops l:=mem_ready.2 ⟨by
       rw[Array.getD_eq_getD_getElem?,Array.getElem?_eq_getElem (by omega)] at hq ⊢
       exact hq,ops[i],Array.getElem?_eq_getElem hi,fun e he hb=>ih e.on (edgesDown_spec hed (Array.getElem?_eq_getElem hi) e he hb) (Nat.lt_trans (edgesDown_spec hed (Array.getElem?_eq_getElem hi) e he hb) hi)⟩
      rw[h0] at hm
      cases hm
 intro n
 induction n with
 | zero=>
   intro l a w hl hc hJ
   have h1:∀ i,i<ops.size→l.getD i false=true:=fun i hi=>by
    have h2:=List.countP_eq_zero.1 (Nat.le_zero.1 hc) l[i] (by simp);rw[Array.getD_eq_getD_getElem?,Array.getElem?_eq_getElem (by omega)]
    simpa using h2
   refine⟨List.eq_nil_iff_forall_not_mem.2 fun i hi=>?_,hdone _ _ _ hJ h1⟩;obtain⟨q,o,ho,_⟩:=mem_ready.1 hi;have hlt:i<ops.size:=(Array.getElem?_eq_some_iff.1 ho).1;have h3:=h1 i hlt;rw[Array.getD_eq_getD_getElem?,Array.getElem?_eq_getElem (by omega)] at q h3;simp only[Option.getD_some] at q h3;rw[q] at h3
   cases h3
 | succ n ih=>
   intro l a w hl hc hJ;refine⟨fun h0=>hdone _ _ _ hJ (hall l hl h0),fun i hi=>?_⟩;obtain⟨q,o,ho,hd⟩:=mem_ready.1 hi;have hlt:i<ops.size:=(Array.getElem?_eq_some_iff.1 ho).1
   have hil:i<l.size:=by omega
   have hfi:l.getD i false=false:=by
    rw[Array.getD_eq_getD_getElem?,Array.getElem?_eq_getElem hil] at q ⊢;exact q
   refine wpOp_mono (fun a' w' h'=>⟨fun _=>h'.1,ih (l.setIfInBounds i true) a' w' (by simpa using hl) ?_ ?_⟩) (hstep i _ a w hlt hJ hfi fun k hk=>?_)
   · have hli:l.toList[i]'(by simpa using hil)=false:=by
      rw[Array.getD_eq_getD_getElem?,Array.getElem?_eq_getElem hil] at hfi
      simpa using hfi
     have hpos:0<l.toList.countP (fun b=>!b):=List.countP_pos_iff.2 ⟨false,by rw[← hli]; exact List.getElem_mem _,rfl⟩
     rw[Array.toList_setIfInBounds,List.countP_set (by simpa using hil),hli];simp only[Bool.not_false,Bool.not_true,if_true,Bool.false_eq_true,if_false];omega
   · have:(fun j=>(l.setIfInBounds i true).getD j false)=fun j=>j==i || l.getD j false:=by
      funext j
      by_cases e:i=j
      · subst e
        rw[Array.getD_eq_getD_getElem?];simp[hil]
      · rw[getD_set_ne false e]
        simp[show ¬ j=i from fun h=>e h.symm]
     rw[this];exact h'.2
   · unfold waitsAt at hk
     rw[ho] at hk;obtain⟨e,he,hq⟩:=Array.any_eq_true'.1 hk;simp only[Bool.and_eq_true,beq_iff_eq] at hq;rw[← hq.2];exact hd e he hq.1
end
def putL (a:Act):List (Bool × Nat × Value)→Act
 | []=>a
 | (b,d,v) :: r=>if b then (putL a r).put (some d) v else putL a r
theorem putL_size (a:Act):∀ l,(putL a l).tmps.size=a.tmps.size
 | []=>rfl
 | (b,d,v) :: r=>by
   unfold putL
   split
   · simp[Act.put,putL_size a r]
   · exact putL_size a r
theorem put_comm (a:Act) {d e:Nat} (h:d≠e) (u v:Value):(a.put (some d) u).put (some e) v=(a.put (some e) v).put (some d) u:=by
 simp only[Act.put];rw[Array.setIfInBounds_comm _ _ h]
theorem putL_flip (a:Act) (d:Nat) (v v':Value) (r:List (Bool × Nat × Value)):∀ l:List (Bool × Nat × Value),(∀ p∈l,p.2.1≠d)→putL a (l++(true,d,v) :: r)=(putL a (l++(false,d,v') :: r)).put (some d) v
 | [],_=>by simp[putL]
 | (b,e,u) :: l,h=>by
   have ih:=putL_flip a d v v' r l fun p hp=>h p (List.mem_cons_of_mem _ hp);have hne:e≠d:=h _ List.mem_cons_self
   cases b with
   | false=>simpa[putL] using ih
   | true=>
     simp only[List.cons_append,putL,if_true];rw[ih,put_comm _ (Ne.symm hne)]
theorem putL_get (a:Act) (t:Nat):∀ l:List (Bool × Nat × Value),(∀ p∈l,p.2.1≠t)→(putL a l).tmps.getD t undef=a.tmps.getD t undef
 | [],_=>rfl
 | (b,e,u) :: l,h=>by
   have ih:=putL_get a t l fun p hp=>h p (List.mem_cons_of_mem _ hp);have hne:e≠t:=h _ List.mem_cons_self;unfold putL
   split
   · simp only[Act.put]
     rw[← ih,Array.getD_eq_getD_getElem?,Array.getD_eq_getD_getElem?,Array.getElem?_setIfInBounds_ne hne]
   · exact ih
theorem putL_at (a:Act) (d:Nat) (v:Value) (r:List (Bool × Nat × Value)) (hd:d<a.tmps.size):∀ l:List (Bool × Nat × Value),(∀ p∈l,p.2.1≠d)→(putL a (l++(true,d,v) :: r)).tmps.getD d undef=v
 | [],_=>by
   simp only[List.nil_append,putL,if_true,Act.put]
   rw[Array.getD_eq_getD_getElem?,Array.getElem?_setIfInBounds_self_of_lt (by rw[putL_size]; exact hd)]
   rfl
 | (b,e,u) :: l,h=>by
   have ih:=putL_at a d v r hd l fun p hp=>h p (List.mem_cons_of_mem _ hp);have hne:e≠d:=h _ List.mem_cons_self;simp only[List.cons_append];unfold putL
   split
   · simp only[Act.put]
     rw[Array.getD_eq_getD_getElem?,Array.getElem?_setIfInBounds_ne hne,← Array.getD_eq_getD_getElem?];exact ih
   · exact ih
section
variable {P:Program} {ops:Array Oper} {Q:Exit→Act→World→Prop} {S:World→Prop} {tl:Nat}
theorem wpOp_plain {i:Nat} {o:Oper} {K:Act→World→Prop} {a:Act} {w:World} (ho:ops[i]?=some o) (hg:o.guard=none) (h:o.wp P a w K Q):wpOp P ops Q i K a w:=by
 have hw:Region.wanted o (yielded ops a.tmps)=true:=by simp[Region.wanted,hg]
 unfold wpOp;simp only[ho];rw[if_pos hw];exact .inl h
structure Opr (ops:Array Oper) (i:Nat) (op:Op) (dst:Option Nat):Prop where
 has:∃ o,ops[i]?=some o∧o.op=op∧o.dst=dst∧o.guard=none
theorem Opr.val {i:Nat} {op:Op} {dst:Option Nat} (h:Opr ops i op dst) {K:Act→World→Prop} {a:Act} {w:World} (x:Operand) (v:Value) (he:op=.move x∨op=.assign x) (hx:a.eval x=v) (hK:K (a.put dst v) w):wpOp P ops Q i K a w:=by
 obtain⟨o,ho,h1,h2,h3⟩:=h.has;refine wpOp_plain ho h3 ?_
 subst h1; subst h2; subst hx
 unfold Oper.wp execOp
 rcases he with he | he <;> (simp only[he]; exact hK)
theorem Opr.extract {i:Nat} {dst:Option Nat} {x:Operand} {k:Nat} (h:Opr ops i (.extract x k) dst) {K:Act→World→Prop} {a:Act} {w:World} (vs:Array Value) (v:Value) (hx:a.eval x=.tuple vs) (hv:vs[k]?=some v) (hK:K (a.put dst v) w):wpOp P ops Q i K a w:=by
 obtain⟨o,ho,h1,h2,h3⟩:=h.has;refine wpOp_plain ho h3 ?_;subst h2;unfold Oper.wp execOp;simp only[h1,hx,Instr.extract,hv];exact hK
theorem Opr.alloc {i:Nat} {dst:Option Nat} {T:TypeId} (h:Opr ops i (.alloc T) dst) {K:Act→World→Prop} {a:Act} {w:World} (z:Array Value) (hal:(Instr.alloc T true (.tuple #[])).run P w=.ok (.pointer (some ⟨w.heap.size,0,none⟩)) (w.alloc (.cells z T)))
  (hK:K (a.put dst (.pointer (some ⟨w.heap.size,0,none⟩))) (w.alloc (.cells z T))):wpOp P ops Q i K a w:=by
 obtain⟨o,ho,h1,h2,h3⟩:=h.has;refine wpOp_plain ho h3 ?_;subst h2;unfold Oper.wp execOp;simp only[h1,Sem.run_bind,hal,Result.andThen_ok,Sem.run_pure];exact hK
theorem Opr.store {i:Nat} {T:TypeId} {p x:Operand} (h:Opr ops i (.store T p x) none) {K:Act→World→Prop} {a:Act} {w:World} (b:Nat) (old us:Array Value) (hp:a.eval p=.pointer (some ⟨b,0,none⟩)) (hx:a.eval x=.agg us) (hk:Blk w b T old) (hs:us.size=old.size)
  (hi:(P.info? T).map (·.size)=some us.size) (h1:us.all (·.oneCell')=true) (hK:K a (w.setCells b 0 us.toList)):wpOp P ops Q i K a w:=by
 obtain⟨o,ho,e1,e2,e3⟩:=h.has;refine wpOp_plain ho e3 ?_;refine Go.wp_store_mid T p x e1 b 0 us hp hx (fun j hj=>?_) hi h1 ?_
 · rw[Nat.zero_add]
   exact⟨by rw[hk.cell j,Array.getElem?_eq_getElem (by omega)]; rfl,hk.frozen j⟩
 · rw[e2]
   exact hK
theorem Opr.call {i:Nat} {dst:Option Nat} {cl:Call} (h:Opr ops i (.call cl) dst) {F:FuncId} {args:Array Value} {K:Act→World→Prop} {a:Act} {w:World} (hc:cl.callee=.value (.func F)) (hF:∀ a w,Sem.run P (callFunc F a) w=.ok (.enter F a) w) (ha:cl.args.map a.eval=args)
  {Post:Ending→World→Prop} (hcall:Calls P F args w Post) (hK:∀ e w',Post e w'→∃ v,e=.returned v∧K (a.put dst v) w'):wpOp P ops Q i K a w:=by
 obtain⟨o,ho,e1,e2,e3⟩:=h.has;refine wpOp_plain ho e3 ?_;subst e2;unfold Oper.wp execOp;simp only[e1,resolve,hc,Deferred.ofValue,Sem.run_bind,Sem.run_pure,Result.andThen_ok,invoke,hF,ha]
 rw[show a.eval (Operand.func F)=.func (.func F) #[] #[] from rfl]
 simp only[Sem.run_pure,Result.andThen_ok,hF,Array.append_empty,Array.empty_append];rw[Oper.upon_enter];refine hcall.mono fun e w' h'=>?_;obtain⟨v,rfl,hk⟩:=hK e w' h';exact hk
theorem setCells_size {b:Nat}:∀ (vs:List Value) (o:Nat) (w:World),(w.setCells b o vs).heap.size=w.heap.size
 | [],_,_=>rfl
 | v :: vs,o,w=>by rw[World.setCells,setCells_size vs]; simp
theorem sC_block {b i:Nat} (h:i≠b):∀ (vs:List Value) (o:Nat) (w:World),(w.setCells b o vs).heap[i]?=w.heap[i]?
 | [],_,_=>rfl
 | v :: vs,o,w=>(sC_block h vs (o+1) (w.setCell ⟨b,o,none⟩ v)).trans (Below.heap_setCell _ _ _ _ h)
theorem sC_below {B b:Nat} {w0:World} (hb:B≤b):∀ (vs:List Value) (o:Nat) (w:World),Below B w0 w→Below B w0 (w.setCells b o vs)
 | [],_,_,h=>h
 | v :: vs,o,w,h=>sC_below hb vs (o+1) _ (h.setCell (p:=⟨b,o,none⟩) hb v)
def setAll (cs:Array Value):Nat→List Value→Array Value
 | _,[]=>cs
 | o,v :: vs=>setAll (cs.setIfInBounds o v) (o+1) vs
theorem blk_setAll {b:Nat} {T:TypeId}:∀ (vs:List Value) (o:Nat) (w:World) (cs:Array Value),Blk w b T cs→Blk (w.setCells b o vs) b T (setAll cs o vs)
 | [],_,_,_,h=>h
 | v :: vs,o,w,cs,h=>blk_setAll vs (o+1) _ _ (h.set_ o v)
theorem setAll_size:∀ (vs:List Value) (o:Nat) (cs:Array Value),(setAll cs o vs).size=cs.size
 | [],_,_=>rfl
 | v :: vs,o,cs=>by rw[setAll,setAll_size vs]; simp
theorem setAll_get:∀ (vs:List Value) (o:Nat) (cs:Array Value) (i:Nat),i<cs.size→(setAll cs o vs)[i]?=if o≤i∧i<o+vs.length then vs[i - o]? else cs[i]?
 | [],o,cs,i,hi=>by rw[setAll,if_neg (by rw[List.length_nil]; omega)]
 | v :: vs,o,cs,i,hi=>by
   rw[setAll,setAll_get vs (o+1) _ i (by simpa using hi)]
   by_cases h:i=o
   · subst h
     rw[if_neg (by omega),if_pos (by simp),Array.getElem?_setIfInBounds_self_of_lt hi];simp
   · by_cases h2:o+1≤i∧i<o+1+vs.length
     · rw[if_pos h2,if_pos (by simp; omega),show i - o=(i - (o+1))+1 from by omega,qa]
     · rw[if_neg h2,if_neg (by simp; omega),Array.getElem?_setIfInBounds_ne (fun e=>h e.symm)]
theorem blk_setCells {w:World} {b:Nat} {T:TypeId} {old us:Array Value} (h:Blk w b T old) (hs:us.size=old.size):Blk (w.setCells b 0 us.toList) b T us:=by
 have h2:=blk_setAll us.toList 0 w old h
 have e:setAll old 0 us.toList=us:=by
  refine Array.ext_getElem? fun i=>?_
  rcases Nat.lt_or_ge i old.size with hi | hi
  · rw[setAll_get _ _ _ _ hi,if_pos (by simp; omega)]
    simp
  · rw[Array.getElem?_eq_none (by rw[setAll_size]; exact hi),Array.getElem?_eq_none (by omega)]
 rw[e] at h2;exact h2
def JC (sc sm s0 s1 sx sy:Nat) (T0 T1:TypeId) (z0 z1:Array Value) (Post:(Nat→Prop)→Array Value→Array Value→World→Prop) (a0:Act) (W:World) (b0 b1 b2 b3 b4 b5 b6 b7:Bool) (a:Act) (w:World):Prop:=
 ∃ (R:Nat→Prop) (u0 u1:Array Value) (x y:Nat),
  a=putL a0 [(b0,sc,.tuple #[.agg u0,.agg u1]),(b1,sm,.tuple #[.agg u0,.agg u1]),(b2,s0,.agg u0),(b3,s1,.agg u1),(b4,sx,.pointer (some ⟨x,0,none⟩)),(b5,sy,.pointer (some ⟨y,0,none⟩))]∧Below W.heap.size W w ∧
  (b0=true→Post R u0 u1 w∧u0.size=z0.size∧u1.size=z1.size∧u0.all (·.oneCell')=true∧u1.all (·.oneCell')=true∧∀ b,R b→W.heap.size≤b∧b<w.heap.size∧(b4=true→b≠x)∧(b5=true→b≠y)) ∧
  (b4=true→W.heap.size≤x∧Blk w x T0 (if b6 then u0 else z0))∧(b5=true→W.heap.size≤y∧Blk w y T1 (if b7 then u1 else z1))∧(b4=true→b5=true→x≠y) ∧
  (b1=true→b0=true)∧(b2=true→b1=true)∧(b3=true→b1=true)∧(b6=true→b2=true∧b4=true)∧(b7=true→b3=true∧b5=true)
theorem wpAnyT_call2 {c sc sm s0 s1 sx sy:Nat} {cl:Call} {F:FuncId} {T0 T1:TypeId} (z0 z1:Array Value) (args:Array Value) {a0:Act} {W:World} {fuel:Nat} {l:Array Bool} {o1:Op}
  (hsz:ops.size=c+8) (hed:edgesDown ops=true)
  (k0:Opr ops c (.call cl) (some sc)) (hcl:cl.callee=.value (.func F)) (hF:∀ a w,Sem.run P (callFunc F a) w=.ok (.enter F a) w)
  (hav:cl.args.map a0.eval=args) (hav2:cl.args.all (fun o=>match o with | .tmp t=>t != sc&&t != sm&&t != s0&&t != s1&&t != sx&&t != sy | _=>true)=true)
  (k1:Opr ops (c+1) o1 (some sm)) (ho1:o1=.move (.tmp sc)∨o1=.assign (.tmp sc))
  (k2:Opr ops (c+2) (.extract (.tmp sm) 0) (some s0)) (k3:Opr ops (c+3) (.extract (.tmp sm) 1) (some s1))
  (k4:Opr ops (c+4) (.alloc T0) (some sx)) (k5:Opr ops (c+5) (.alloc T1) (some sy))
  (k6:Opr ops (c+6) (.store T0 (.tmp sx) (.tmp s0)) none) (k7:Opr ops (c+7) (.store T1 (.tmp sy) (.tmp s1)) none)
  (w1:waitsAt ops (c+1) c=true) (w2:waitsAt ops (c+2) (c+1)=true) (w3:waitsAt ops (c+3) (c+1)=true) (w6:(waitsAt ops (c+6) (c+2)&&waitsAt ops (c+6) (c+4))=true) (w7:(waitsAt ops (c+7) (c+3)&&waitsAt ops (c+7) (c+5))=true)
  (hnd:[sc,sm,s0,s1,sx,sy].Nodup) (hlt:([sc,sm,s0,s1,sx,sy].all fun d=>decide (d<a0.tmps.size))=true)
  (hal0:∀ w,(Instr.alloc T0 true (.tuple #[])).run P w=.ok (.pointer (some ⟨w.heap.size,0,none⟩)) (w.alloc (.cells z0 T0))) (hal1:∀ w,(Instr.alloc T1 true (.tuple #[])).run P w=.ok (.pointer (some ⟨w.heap.size,0,none⟩)) (w.alloc (.cells z1 T1)))
  (hi0:(P.info? T0).map (·.size)=some z0.size) (hi1:(P.info? T1).map (·.size)=some z1.size)
  (Post:(Nat→Prop)→Array Value→Array Value→World→Prop)
  (hstab:∀ R u0 u1 w w',Post R u0 u1 w→(∀ b,R b→b<w.heap.size)→(∀ b,R b→w'.heap[b]?=w.heap[b]?)→w.heap.size≤w'.heap.size→Below W.heap.size W w'→Post R u0 u1 w')
  (hcall:∀ w,Below W.heap.size W w→Calls P F args w fun e w'=>∃ R u0 u1,e=.returned (.tuple #[.agg u0,.agg u1])∧u0.size=z0.size∧u1.size=z1.size∧u0.all (·.oneCell')=true∧u1.all (·.oneCell')=true∧(∀ b,R b→w.heap.size≤b∧b<w'.heap.size)∧Post R u0 u1 w'∧Below w.heap.size w w')
  (hS:∀ w,Below W.heap.size W w→S w) (hl:l.size=ops.size) (hf:∀ i,i<ops.size→l.getD i false=decide (i<c)) (hfuel:l.toList.countP (fun b=>!b)≤fuel)
  (hdone:∀ R u0 u1 x y w,x≠y→W.heap.size≤x→W.heap.size≤y→Blk w x T0 u0→Blk w y T1 u1→Below W.heap.size W w→Post R u0 u1 w→(∀ b,R b→W.heap.size≤b∧b<w.heap.size∧b≠x∧b≠y) →
    Q .normal ((((((a0.put (some sy) (.pointer (some ⟨y,0,none⟩))).put (some sx) (.pointer (some ⟨x,0,none⟩))).put (some s1) (.agg u1)).put (some s0) (.agg u0)).put (some sm) (.tuple #[.agg u0,.agg u1])).put (some sc) (.tuple #[.agg u0,.agg u1])) w):
  wpAnyT P .any ops Q S tl fuel l a0 W:=by
 simp only[List.nodup_cons,qk,List.not_mem_nil,or_false,not_or] at hnd;simp only[List.all_cons,List.all_nil,Bool.and_true,Bool.and_eq_true,decide_eq_true_eq] at hlt;obtain⟨⟨n01,n02,n03,n04,n05⟩,⟨n12,n13,n14,n15⟩,⟨n23,n24,n25⟩,⟨n34,n35⟩,n45,_⟩:=hnd;obtain⟨q0,q1,q2,q3,q4,q5⟩:=hlt;simp only[Bool.and_eq_true] at w6 w7;refine wpAnyT_inv (fun f a w=>(∀ i,i<c→f i=true)∧JC sc sm s0 s1 sx sy T0 T1 z0 z1 Post a0 W (f c) (f (c+1)) (f (c+2)) (f (c+3)) (f (c+4)) (f (c+5)) (f (c+6)) (f (c+7)) a w) hed ?_ ?_ fuel l a0 W hl hfuel ?_
 · intro i f a w hi hJ hfi hwt
   obtain⟨hfc,hJ⟩:=hJ
   have hic:c≤i:=by
    rcases Nat.lt_or_ge i c with h | h
    · rw[hfc i h] at hfi; cases hfi
    · exact h
   have hfc':∀ k,k<c→(k==i || f k)=true:=fun k hk=>by rw[hfc k hk]; simp
   obtain⟨k,rfl⟩:∃ k,i=c+k:=⟨i - c,by omega⟩
   have e0:(c==c+k)=decide (k=0):=by by_cases h:k=0 <;> simp[h]
   have e1:∀ m,(c+m==c+k)=decide (k=m):=fun m=>by by_cases h:k=m <;> simp[h]; omega
   have hg:∀ a' w',S w'→JC sc sm s0 s1 sx sy T0 T1 z0 z1 Post a0 W (decide (k=0) || f c) (decide (k=1) || f (c+1)) (decide (k=2) || f (c+2)) (decide (k=3) || f (c+3)) (decide (k=4) || f (c+4)) (decide (k=5) || f (c+5)) (decide (k=6) || f (c+6)) (decide (k=7) || f (c+7)) a' w' →
    S w'∧(∀ i,i<c→(i==c+k || f i)=true)∧JC sc sm s0 s1 sx sy T0 T1 z0 z1 Post a0 W (c==c+k || f c) (c+1==c+k || f (c+1)) (c+2==c+k || f (c+2)) (c+3==c+k || f (c+3)) (c+4==c+k || f (c+4)) (c+5==c+k || f (c+5)) (c+6==c+k || f (c+6)) (c+7==c+k || f (c+7)) a' w':=fun a' w' h1 h2=>⟨h1,hfc',by rw[e0,e1,e1,e1,e1,e1,e1,e1]; exact h2⟩
   refine wpOp_mono (fun a' w' (h:S w'∧_)=>hg a' w' h.1 h.2) ?_;clear hg hfc' e0 e1
   have v1:k=1→f c=true:=fun h=>hwt c (by subst h; exact w1)
   have v2:k=2→f (c+1)=true:=fun h=>hwt _ (by subst h; exact w2)
   have v3:k=3→f (c+1)=true:=fun h=>hwt _ (by subst h; exact w3)
   have v6:k=6→f (c+2)=true∧f (c+4)=true:=fun h=>by subst h; exact⟨hwt _ w6.1,hwt _ w6.2⟩
   have v7:k=7→f (c+3)=true∧f (c+5)=true:=fun h=>by subst h; exact⟨hwt _ w7.1,hwt _ w7.2⟩
   have x0:k=0→f c=false:=fun h=>by subst h; exact hfi
   have x1:k=1→f (c+1)=false:=fun h=>by subst h; exact hfi
   have x2:k=2→f (c+2)=false:=fun h=>by subst h; exact hfi
   have x3:k=3→f (c+3)=false:=fun h=>by subst h; exact hfi
   have x4:k=4→f (c+4)=false:=fun h=>by subst h; exact hfi
   have x5:k=5→f (c+5)=false:=fun h=>by subst h; exact hfi
   have x6:k=6→f (c+6)=false:=fun h=>by subst h; exact hfi
   have x7:k=7→f (c+7)=false:=fun h=>by subst h; exact hfi
   have hk8:k<8:=by omega
   clear hwt hfi hfc;generalize f c=b0 at *;generalize f (c+1)=b1 at *;generalize f (c+2)=b2 at *;generalize f (c+3)=b3 at *;generalize f (c+4)=b4 at *;generalize f (c+5)=b5 at *;generalize f (c+6)=b6 at *;generalize f (c+7)=b7 at *;obtain⟨R,u0,u1,x,y,rfl,hbel,hp,hx,hy,hxy,g1,g2,g3,g6,g7⟩:=hJ;have hbs:=hbel.size
   obtain rfl | rfl | rfl | rfl | rfl | rfl | rfl | rfl:k=0∨k=1∨k=2∨k=3∨k=4∨k=5∨k=6∨k=7:=by omega
   · -- the call
     obtain rfl:=x0 rfl
     obtain rfl:b1=false:=by cases b1 with | false=>rfl | true=>cases g1 rfl
     obtain rfl:b2=false:=by cases b2 with | false=>rfl | true=>cases g2 rfl
     obtain rfl:b3=false:=by cases b3 with | false=>rfl | true=>cases g3 rfl
     obtain rfl:b6=false:=by cases b6 with | false=>rfl | true=>cases (g6 rfl).1
     obtain rfl:b7=false:=by cases b7 with | false=>rfl | true=>cases (g7 rfl).1
     refine k0.call hcl hF (args:=args) ?_ (hcall w hbel) ?_
     · rw[← hav]
       refine Array.map_congr_left fun o ho=>?_;have:=Array.all_eq_true'.1 hav2 o ho
       cases o with
       | tmp t=>
         simp only[Bool.and_eq_true,bne_iff_ne,ne_eq] at this;obtain⟨⟨⟨⟨⟨t0,t1⟩,t2⟩,t3⟩,t4⟩,t5⟩:=this;refine putL_get a0 t _ fun p hp=>?_;simp only[qk,List.not_mem_nil,or_false] at hp
         rcases hp with rfl | rfl | rfl | rfl | rfl | rfl
         · exact Ne.symm t0
         · exact Ne.symm t1
         · exact Ne.symm t2
         · exact Ne.symm t3
         · exact Ne.symm t4
         · exact Ne.symm t5
       | _=>rfl
     · rintro e w' ⟨R',v0,v1',rfl,z0',z1',a0',a1',hR,hP,hb⟩
       have hbw:=hbel.trans (hb.mono hbs);refine⟨_,rfl,hS _ hbw,?_⟩
       refine⟨R',v0,v1',x,y,by simp[putL],hbw,fun _=>⟨hP,z0',z1',a0',a1',fun b hb'=>?_⟩,fun h4=>?_,fun h5=>?_,hxy,by simp,by simp,by simp,by simp,by simp⟩
       · have:=hR b hb'
         exact⟨by omega,by omega,fun h4 e=>by have:=(hx h4).2.lt; omega,fun h5 e=>by have:=(hy h5).2.lt; omega⟩
       · exact⟨(hx h4).1,(hx h4).2.below hb (hx h4).2.lt⟩
       · exact⟨(hy h5).1,(hy h5).2.below hb (hy h5).2.lt⟩
   · obtain rfl:=x1 rfl
     obtain rfl:=v1 rfl;refine k1.val (.tmp sc) _ ho1 (putL_at a0 sc _ _ q0 [] (by simp)) ⟨hS _ hbel,R,u0,u1,x,y,?_,hbel,hp,hx,hy,hxy,fun _=>rfl,fun _=>rfl,fun _=>rfl,g6,g7⟩
     exact(putL_flip a0 sm _ _ _ [(true,sc,_)] (by simp; exact n01)).symm
   · obtain rfl:=x2 rfl
     obtain rfl:=v2 rfl;obtain rfl:=g1 rfl
     refine k2.extract _ _ (putL_at a0 sm _ _ q1 [(true,sc,_)] (by simp; exact n01)) (by rfl) ⟨hS _ hbel,R,u0,u1,x,y,?_,hbel,hp,hx,hy,hxy,g1,fun _=>rfl,g3,fun h=>⟨rfl,(g6 h).2⟩,g7⟩
     exact(putL_flip a0 s0 _ _ _ [(true,sc,_),(true,sm,_)] (by simp; exact⟨n02,n12⟩)).symm
   · obtain rfl:=x3 rfl
     obtain rfl:=v3 rfl;obtain rfl:=g1 rfl
     refine k3.extract _ _ (putL_at a0 sm _ _ q1 [(true,sc,_)] (by simp; exact n01)) (by rfl) ⟨hS _ hbel,R,u0,u1,x,y,?_,hbel,hp,hx,hy,hxy,g1,g2,fun _=>rfl,g6,fun h=>⟨rfl,(g7 h).2⟩⟩
     exact(putL_flip a0 s1 _ _ _ [(true,sc,_),(true,sm,_),(b2,s0,_)] (by simp; exact⟨n03,n13,n23⟩)).symm
   · obtain rfl:=x4 rfl
     obtain rfl:b6=false:=by cases b6 with | false=>rfl | true=>cases (g6 rfl).2
     have hb:=below_box (w:=w) (Obj.cells z0 T0);have hk:=blk_new w z0 T0;have hbw:=hbel.trans (hb.mono hbs)
     refine k4.alloc z0 (hal0 w) ⟨hS _ hbw,R,u0,u1,w.heap.size,y,?_,hbw,fun h=>?_,fun _=>⟨hbs,hk⟩,fun h=>⟨(hy h).1,(hy h).2.below hb (hy h).2.lt⟩,fun _ h5 e=>by have:=(hy h5).2.lt; omega,g1,g2,g3,by simp,g7⟩
     · exact(putL_flip a0 sx _ _ _ [(b0,sc,_),(b1,sm,_),(b2,s0,_),(b3,s1,_)] (by simp; exact⟨n04,n14,n24,n34⟩)).symm
     · obtain⟨h1,h2,h3,h4,h5,h6⟩:=hp h
       exact⟨hstab _ _ _ _ _ h1 (fun b hb=>(h6 b hb).2.1) (fun b hq=>hb.block _ (h6 b hq).2.1) hb.size hbw,h2,h3,h4,h5,fun b hq=>⟨(h6 b hq).1,by have:=(h6 b hq).2.1; have:=hb.size; omega,fun _ e=>by have:=(h6 b hq).2.1; omega,(h6 b hq).2.2.2⟩⟩
   · obtain rfl:=x5 rfl
     obtain rfl:b7=false:=by cases b7 with | false=>rfl | true=>cases (g7 rfl).2
     have hb:=below_box (w:=w) (Obj.cells z1 T1);have hk:=blk_new w z1 T1;have hbw:=hbel.trans (hb.mono hbs)
     refine k5.alloc z1 (hal1 w) ⟨hS _ hbw,R,u0,u1,x,w.heap.size,?_,hbw,fun h=>?_,fun h=>⟨(hx h).1,(hx h).2.below hb (hx h).2.lt⟩,fun _=>⟨hbs,hk⟩,fun h4 _ e=>by have:=(hx h4).2.lt; omega,g1,g2,g3,g6,by simp⟩
     · exact(putL_flip a0 sy _ _ _ [(b0,sc,_),(b1,sm,_),(b2,s0,_),(b3,s1,_),(b4,sx,_)] (by simp; exact⟨n05,n15,n25,n35,n45⟩)).symm
     · obtain⟨h1,h2,h3,h4,h5,h6⟩:=hp h
       exact⟨hstab _ _ _ _ _ h1 (fun b hb=>(h6 b hb).2.1) (fun b hq=>hb.block _ (h6 b hq).2.1) hb.size hbw,h2,h3,h4,h5,fun b hq=>⟨(h6 b hq).1,by have:=(h6 b hq).2.1; have:=hb.size; omega,(h6 b hq).2.2.1,fun _ e=>by have:=(h6 b hq).2.1; omega⟩⟩
   · obtain rfl:=x6 rfl
     obtain⟨rfl,rfl⟩:=v6 rfl;obtain rfl:=g2 rfl;obtain rfl:=g1 rfl;obtain⟨h1,h2,h3,h4,h5,h6⟩:=hp rfl;have hkx:=(hx rfl).2;have hb:=sC_below (B:=W.heap.size) (hx rfl).1 u0.toList 0 w hbel
     refine k6.store x z0 u0 (putL_at a0 sx _ _ q4 [(true,sc,_),(true,sm,_),(true,s0,_),(b3,s1,_)] (by simp; exact⟨n04,n14,n24,n34⟩)) (putL_at a0 s0 _ _ q2 [(true,sc,_),(true,sm,_)] (by simp; exact⟨n02,n12⟩)) hkx h2 (by rw[hi0,h2]) h4 ⟨hS _ hb,R,u0,u1,x,y,rfl,hb,fun _=>?_,fun _=>⟨(hx rfl).1,?_⟩,fun h=>⟨(hy h).1,?_⟩,hxy,g1,g2,g3,fun _=>⟨rfl,rfl⟩,g7⟩
     · refine⟨hstab _ _ _ _ _ h1 (fun b hb=>(h6 b hb).2.1) (fun b hq=>sC_block ((h6 b hq).2.2.1 rfl) _ _ _) (Nat.le_of_eq (setCells_size _ _ _).symm) hb,h2,h3,h4,h5,fun b hq=>?_⟩
       rw[setCells_size];exact h6 b hq
     · exact blk_setCells hkx h2
     · exact(sC_block (Ne.symm (hxy rfl h)) _ _ _).trans (hy h).2
   · obtain rfl:=x7 rfl
     obtain⟨rfl,rfl⟩:=v7 rfl;obtain rfl:=g3 rfl;obtain rfl:=g1 rfl;obtain⟨h1,h2,h3,h4,h5,h6⟩:=hp rfl;have hky:=(hy rfl).2;have hb:=sC_below (B:=W.heap.size) (hy rfl).1 u1.toList 0 w hbel
     refine k7.store y z1 u1 (putL_at a0 sy _ _ q5 [(true,sc,_),(true,sm,_),(b2,s0,_),(true,s1,_),(b4,sx,_)] (by simp; exact⟨n05,n15,n25,n35,n45⟩)) (putL_at a0 s1 _ _ q3 [(true,sc,_),(true,sm,_),(b2,s0,_)] (by simp; exact⟨n03,n13,n23⟩)) hky h3 (by rw[hi1,h3]) h5 ⟨hS _ hb,R,u0,u1,x,y,rfl,hb,fun _=>?_,fun h=>⟨(hx h).1,?_⟩,fun _=>⟨(hy rfl).1,?_⟩,hxy,g1,g2,g3,g6,fun _=>⟨rfl,rfl⟩⟩
     · refine⟨hstab _ _ _ _ _ h1 (fun b hb=>(h6 b hb).2.1) (fun b hq=>sC_block ((h6 b hq).2.2.2 rfl) _ _ _) (Nat.le_of_eq (setCells_size _ _ _).symm) hb,h2,h3,h4,h5,fun b hq=>?_⟩
       rw[setCells_size];exact h6 b hq
     · exact(sC_block (hxy h rfl) _ _ _).trans (hx h).2
     · exact blk_setCells hky h3
 · intro f a w hJ hall
   obtain⟨_,R,u0,u1,x,y,rfl,hbel,hp,hx,hy,hxy,_⟩:=hJ;have f0:=hall c (by omega);have f1:=hall (c+1) (by omega);have f2:=hall (c+2) (by omega);have f3:=hall (c+3) (by omega);have f4:=hall (c+4) (by omega);have f5:=hall (c+5) (by omega);have f6:=hall (c+6) (by omega);have f7:=hall (c+7) (by omega);simp only[f0,f1,f2,f3,f4,f5,f6,f7] at hp hx hy hxy ⊢;obtain⟨h1,_,_,_,_,h6⟩:=hp trivial;exact hdone R u0 u1 x y w (hxy trivial trivial) (hx trivial).1 (hy trivial).1 (hx trivial).2 (hy trivial).2 hbel h1 fun b hb=>⟨(h6 b hb).1,(h6 b hb).2.1,(h6 b hb).2.2.1 trivial,(h6 b hb).2.2.2 trivial⟩
 · refine⟨fun i hi=>by show l.getD i false=true; rw[hf i (by omega)]; simpa using hi,?_⟩
   show JC sc sm s0 s1 sx sy T0 T1 z0 z1 Post a0 W (l.getD c false) (l.getD (c+1) false) (l.getD (c+2) false) (l.getD (c+3) false) (l.getD (c+4) false) (l.getD (c+5) false) (l.getD (c+6) false) (l.getD (c+7) false) a0 W;rw[hf c (by omega),hf (c+1) (by omega),hf (c+2) (by omega),hf (c+3) (by omega),hf (c+4) (by omega),hf (c+5) (by omega),hf (c+6) (by omega),hf (c+7) (by omega)]
   have d0:decide (c<c)=false:=by simp
   have d1:∀ m,decide (c+m<c)=false:=fun m=>by simp
   rw[d0,d1,d1,d1,d1,d1,d1,d1]
   exact⟨fun _=>False,#[],#[],0,0,by simp[putL],Below.refl _ _,by simp,by simp,by simp,by simp,by simp,by simp,by simp,by simp,by simp⟩
end
end Go.Proofs.YtgpeijkjmkocgaaDoor
