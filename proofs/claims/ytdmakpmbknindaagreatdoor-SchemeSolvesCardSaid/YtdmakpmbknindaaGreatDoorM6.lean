import Derived.Test.YtdmakpmbknindaaGreatDoorM5
import Derived.Laws.MakeOwn
import Derived.Conc.SmallLaws
set_option linter.unusedVariables false
set_option linter.unusedSimpArgs false
set_option maxHeartbeats 4000000
set_option maxRecDepth 100000
namespace Go.Proofs.YtdmakpmbknindaaGreatDoor
structure SolvL (xs:List IneqD) (low asg:List Int):Prop where
 len:asg.length=low.length
 low:∀ v,v<low.length→low.getD v 0≤asg.getD v 0
 hold:∀ x∈xs,holdL asg x
structure LeastSolL (xs:List IneqD) (low is:List Int):Prop where
 sol:SolvL xs low is
 least:∀ asg,SolvL xs low asg→∀ v,v<low.length→is.getD v 0≤asg.getD v 0
theorem SolvL.sol {xs:List IneqD} {low asg:List Int} (h:SolvL xs low asg):SolL xs low asg:=⟨h.len,h.low,fun x hx=>(h.hold x hx).keeps⟩
theorem LeastSolL.unique {xs:List IneqD} {low a b:List Int} (ha:LeastSolL xs low a) (hb:LeastSolL xs low b):a=b:=by
 apply List.ext_getElem (by rw[ha.sol.len,hb.sol.len])
 intro i h1 h2
 have hi:i<low.length:=by have:=ha.sol.len; omega
 have e1:=ha.least b hb.sol i hi;have e2:=hb.least a ha.sol i hi;simp only[List.getD,qj h1,qj h2,Option.getD_some] at e1 e2;omega
theorem EndL.ok {xs:List IneqD} {low is why:List Int} (h:EndL xs low is why) (hn:∀ x∈xs,x.r<0→leftL is x≤x.c):LeastSolL xs low is:=by
 refine⟨⟨h.inv.il,h.inv.le,fun x hx=>?_⟩,fun asg ha=>h.inv.least asg ha.sol⟩
 by_cases hr:0≤x.r
 · exact(h.closed x hx).hold hr
 · unfold holdL; rw[if_neg hr]; exact hn x hx (by omega)
theorem leftL_mono {n:Nat} {x:IneqD} {a b:List Int} (hx:OverL n x) (hab:∀ v,v<n→a.getD v 0≤b.getD v 0):leftL a x≤leftL b x:=by
 unfold leftL
 split
 · rename_i h0; have:=hx.lv h0; exact hab _ (by omega)
 · exact Int.le_refl _
theorem InvL.clash {xs:List IneqD} {low is why:List Int} (h:InvL xs low is why) {x:IneqD} (hm:x∈xs) (hx:OverL low.length x) (hr:x.r<0) (hc:x.c<leftL is x) (asg:List Int):¬ SolvL xs low asg:=by
 intro ha;have h1:=ha.hold x hm;unfold holdL at h1;rw[if_neg (by omega)] at h1;have:=leftL_mono hx (h.least asg ha.sol);omega
theorem EndL.core {xs:List IneqD} {low is why:List Int} (h:EndL xs low is why) (hlow3:∀ v,v<low.length→low.getD v 0≤3) {i:Nat} {x:IneqD} (hi:xs[i]?=some x) (hr:x.r<0) (hc:x.c<leftL is x) {l:List Nat} (hl:ChainL xs low why x x.c l):
 (i :: l).Nodup∧(∀ j∈i :: l,j<xs.length) ∧
 (∀ asg:List Int,asg.length=low.length→(∀ v,v<low.length→low.getD v 0≤asg.getD v 0)→¬ ∀ j∈i :: l,∀ y,xs[j]?=some y→holdL asg y) ∧
 ∀ k∈i :: l,∃ asg:List Int,asg.length=low.length∧(∀ v,v<low.length→low.getD v 0≤asg.getD v 0)∧∀ j∈i :: l,j≠k→∀ y,xs[j]?=some y→holdL asg y:=by
 obtain⟨rank,T,hT,hW⟩:=h.inv.rk;have hx:=h.over x (List.mem_of_getElem? hi);have hnd:=hl.nodup h hW hx hc;have hmem:=hl.mem h hW hx hc
 have hil:i∉l:=fun hm=>by
  obtain⟨_,y,e,_,h0,_⟩:=hmem i hm
  rw[hi] at e; cases e; omega
 refine⟨List.nodup_cons.2 ⟨hil,hnd⟩,fun j hj=>?_,fun asg ha hlow hall=>?_,fun k hk=>?_⟩
 · rcases qk.1 hj with rfl | hj
   · exact(List.getElem?_eq_some_iff.1 hi).1
   · obtain⟨_,y,e,_⟩:=hmem j hj
     exact(List.getElem?_eq_some_iff.1 e).1
 · have h1:=hl.no h hW asg hlow hx hc (fun j hj y hy=>(hall j (List.mem_cons_of_mem _ hj) y hy).keeps)
   have h2:=hall i List.mem_cons_self x hi;unfold holdL at h2;rw[if_neg (by omega)] at h2;omega
 · rcases qk.1 hk with rfl | hk
   · have hg3:∀ v,v<low.length→(List.replicate low.length (3:Int)).getD v 0=3:=fun v hv=>by simp[List.getD,hv]
     refine⟨List.replicate low.length 3,by simp,fun v hv=>by rw[hg3 v hv]; exact hlow3 v hv,fun j hj hne y hy=>?_⟩
     rcases qk.1 hj with rfl | hj
     · exact absurd rfl hne
     · obtain⟨_,z,e,z1,z2,_⟩:=hmem j hj
       rw[hy] at e
       cases e
       unfold holdL
       rw[if_pos z2,hg3 _ (by have:=z1.r; omega)]
       have:=leftL_top z1 (is:=List.replicate low.length 3) (fun v hv=>by rw[hg3 v hv]; exact Int.le_refl _)
       omega
   · obtain⟨l1,l2,e⟩:=List.append_of_mem hk
     obtain⟨asg,s1,s2,s3,s4,_⟩:=hl.some h hW hlow3 hx hc l1 k l2 e;refine⟨asg,s1,fun v hv=>(s2 v hv).1,fun j hj hne y hy=>?_⟩
     rcases qk.1 hj with rfl | hj
     · rw[hi] at hy
       cases hy
       unfold holdL;rw[if_neg (by omega)];exact s3
     · have hj':j∈l1++l2:=by
        rw[e] at hj
        rcases List.mem_append.1 hj with q | q
        · exact List.mem_append.2 (Or.inl q)
        · rcases qk.1 q with q | q
          · exact absurd q hne
          · exact List.mem_append.2 (Or.inr q)
       obtain⟨_,z,e',z1,z2,_⟩:=hmem j hj;rw[hy] at e'
       cases e'
       exact(s4 j hj' y hy).hold z2
end Go.Proofs.YtdmakpmbknindaaGreatDoor
namespace Go.Proofs.YtdmakpmbknindaaGreatDoor
open Go.RowKit Go.Conc
def falses (N:Nat):Array Value:=((List.replicate N false).map Value.bool).toArray
theorem boolInfo:(Tryz.prog.info? 4).map (fun i=>(i.zero,i.size,i.bytes))=some (some (.bool false),1,1):=by kernel_rfl
theorem intInfo:(Tryz.prog.info? 3).map (fun i=>(i.zero,i.size,i.bytes))=some (some (.int .i64 0),1,8):=by kernel_rfl
theorem make_bools (N:Nat) (hN:N≤1048576) (w:World):(Instr.makeSlice 169 (.int .i64 N) (.int .i64 N)).run Tryz.prog w=.ok (.slice (some ⟨w.heap.size,0,none⟩) N N) (w.alloc (.cells (falses N) 4)):=by
 obtain⟨i0,hi0,hi1,hi2,hi3⟩:=info_parts boolInfo
 have h:=run_makeSlice (P:=Tryz.prog) w 169 4 i0 _ Tryz.underlying169 hi0 hi1 .i64 .i64 N N (by omega) (by omega) (by rw[hi2]; simp; omega) (by rw[hi3]; simp; omega) (by omega)
 rw[h]
 have:madeCells (Value.bool false).cells ((N:Int).toNat * i0.size)=falses N:=by
  rw[hi2];unfold madeCells falses
  apply Array.ext
  · simp
  · intro i h1 h2
    simp[Value.cells,Nat.mod_one]
 rw[this];simp
theorem make_queue (N:Nat) (hN:N≤1048576) (w:World):(Instr.makeChan 168 (.int .i64 N)).run Tryz.prog w=.ok (.chan (some w.heap.size)) (w.alloc (.chan N #[] false 0 0 false)):=by
 obtain⟨i0,hi0,hi1,hi2,hi3⟩:=info_parts intInfo
 exact run_makeChan (P:=Tryz.prog) Tryz.underlying168 hi0 .i64 N (by omega) (by rw[hi3]; simp; omega)
theorem runSt_start {g I Y F B n nl cl ci cy cf:Nat} {Al:Option Addr} {lowV:Value} {xs:List IneqD} {low:List Int} {w w2:World}
 (hs:Blk w g 130 #[.slice Al nl cl,lowV,.slice (some ⟨I,0,none⟩) n ci,.slice (some ⟨Y,0,none⟩) n cy,.slice (some ⟨F,0,none⟩) n cf]) (hx:IneqsV w B Al nl cl xs) (hB:B≤w.heap.size) (hnd:[g,F,I,Y].Nodup) (hlt:∀ b∈[g,F,I,Y],B≤b)
 (hn:n≤1048576) (hci:n≤ci) (hci2:ci≤maxLen) (hlow:low.length=n) (hlow3:∀ v,v<low.length→low.getD v 0≤3)
 (hI:RowC w I 22 .u8 low) (hY:RowC w Y 3 .i64 (List.replicate n (-1))) (hF:Blk w F 30 (List.replicate n (Value.slice none 0 0)).toArray) (hover:∀ x∈xs,OverL n x)
 (hb:Below w.heap.size w w2) (hz:w2.heap.size=w.heap.size+4) (hq:QSt w2 (w.heap.size+3) (w.heap.size+2) (w.heap.size+1) w.heap.size n (List.replicate n false) []):
 RunSt ⟨g,F,I,Y,w.heap.size+3,w.heap.size+2,w.heap.size+1,w.heap.size,B,w.heap.size+4,n,Al,nl,cl,lowV,ci,cy,cf⟩ w w2 xs low low (List.replicate n (-1)) (List.replicate n (Value.slice none 0 0)) (fun _=>[]) (List.replicate n false) []:=by
 have l1:=hs.lt;have l2:=hF.lt;have l3:=hI.lt;have l4:=hY.lt;have b1:=hlt g (by simp);have b2:=hlt F (by simp);have b3:=hlt I (by simp);have b4:=hlt Y (by simp);have hs2:=hs.below hb l1
 refine⟨⟨?_,?_,hn,hci,hci2,by show B≤w.heap.size+4; omega⟩,hs2.cell 0,hs2.cell 2,hs2.cell 3,hs2.cell 4,by show w.heap.size+4≤_; omega,hx.below (hb.mono hB),hlow,hI.below hb l3,hY.below hb l4,by simp,⟨hF.below hb l2,by show F<w.heap.size+4; omega,fun j hj=>?_,fun i j b hi hj ei ej=>?_⟩,hq,?_,hover,Off.of_below hb⟩
 · simp only[List.nodup_cons,qk,List.not_mem_nil,or_false,not_or,List.nodup_nil,and_true,not_false_eq_true] at hnd ⊢
   omega
 · intro b hbm
   simp only[qk,List.not_mem_nil,or_false] at hbm;show B≤b∧b<w.heap.size+4;omega
 · refine⟨by simp,Or.inl ⟨by simp,rfl⟩⟩
 · simp only[List.getElem_replicate] at ei
   cases ei
 · have:=InvL.start xs low hlow3
   rw[hlow] at this;exact this
end Go.Proofs.YtdmakpmbknindaaGreatDoor
namespace Go.Proofs.YtdmakpmbknindaaGreatDoor
theorem keepsL_other {is:List Int} {r:Nat} {L:Int} {y:IneqD} (h:keepsL is y) (hne:y.lc=0→y.lv.toNat≠r) (hL:is.getD r 0≤L) (hr:r<is.length):keepsL (is.set r L) y:=by
 intro hy;have h1:=h hy;rw[leftL_set y hr,if_neg (fun e=>hne e.1 e.2.symm),getD_set _ _ _ _ _ hr]
 split
 · rename_i e; subst e; omega
 · exact h1
theorem keepsL_self {is:List Int} {x:IneqD} (hb:raiseB is x=true) (hr:x.r.toNat<is.length):keepsL (is.set x.r.toNat (leftL is x)) x:=by
 intro hx;obtain⟨h0,h1⟩:=(raiseB_iff _ _).1 hb
 have hne:¬ (x.lc=0∧x.r.toNat=x.lv.toNat):=by
  rintro⟨e0,e1⟩
  have:leftL is x=is.getD x.r.toNat 0:=by unfold leftL; rw[if_pos e0,e1]
  omega
 rw[leftL_set x hr,if_neg hne,getD_set _ _ _ _ _ hr,if_pos rfl];omega
structure FirstL (xs:List IneqD) (is:List Int) (fr:Nat→List Int) (j:Nat):Prop where
 consts:∀ i,i<j→∀ x,xs[i]?=some x→x.lc≠0→keepsL is x
 froms:∀ i,i<j→∀ x,xs[i]?=some x→x.lc=0→(i:Int)∈fr x.lv.toNat
 mem:∀ v,∀ z∈fr v,∃ (i:Nat) (x:IneqD),z=(i:Int)∧xs[i]?=some x∧x.lc=0∧x.lv.toNat=v
theorem FirstL.start (xs:List IneqD) (is:List Int):FirstL xs is (fun _=>[]) 0:=
 ⟨fun i h=>absurd h (Nat.not_lt_zero _),fun i h=>absurd h (Nat.not_lt_zero _),fun v z hz=>by cases hz⟩
theorem FirstL.var {xs:List IneqD} {is:List Int} {fr:Nat→List Int} {j:Nat} {x:IneqD} (h:FirstL xs is fr j) (hx:xs[j]?=some x) (h0:x.lc=0):FirstL xs is (fun k=>if k=x.lv.toNat then fr x.lv.toNat++[(j:Int)] else fr k) (j+1):=by
 refine⟨fun i hi y hy hc=>?_,fun i hi y hy hc=>?_,fun v z hz=>?_⟩
 · by_cases e:i=j
   · subst e; rw[hx] at hy; cases hy; exact absurd h0 hc
   · exact h.consts i (by omega) y hy hc
 · by_cases e:i=j
   · subst e; rw[hx] at hy; cases hy; simp
   · have:=h.froms i (by omega) y hy hc
     split
     · rename_i q; rw[← q]; exact List.mem_append.2 (Or.inl this)
     · exact this
 · split at hz
   · rename_i q
     rcases List.mem_append.1 hz with hz | hz
     · rw[q]; exact h.mem _ z hz
     · simp only[List.mem_singleton] at hz
       exact⟨j,x,hz,hx,h0,q.symm⟩
   · exact h.mem v z hz
theorem FirstL.const {xs:List IneqD} {is:List Int} {fr:Nat→List Int} {j:Nat} {x:IneqD} (h:FirstL xs is fr j) (hx:xs[j]?=some x) (h0:x.lc≠0) (hr:x.r<is.length):FirstL xs (if raiseB is x=true then is.set x.r.toNat (leftL is x) else is) fr (j+1):=by
 refine⟨fun i hi y hy hc=>?_,fun i hi y hy hc=>?_,h.mem⟩
 · cases hb:raiseB is x with
   | false=>
     simp only[Bool.false_eq_true,if_false]
     by_cases e:i=j
     · subst e; rw[hx] at hy; cases hy; exact raiseB_not _ _ hb
     · exact h.consts i (by omega) y hy hc
   | true=>
     simp only[if_true];obtain⟨q0,q1⟩:=(raiseB_iff _ _).1 hb
     have hrn:x.r.toNat<is.length:=by omega
     by_cases e:i=j
     · subst e; rw[hx] at hy; cases hy; exact keepsL_self hb hrn
     · exact keepsL_other (h.consts i (by omega) y hy hc) (fun z=>absurd z hc) (by omega) hrn
 · by_cases e:i=j
   · subst e; rw[hx] at hy; cases hy; exact absurd hc h0
   · exact h.froms i (by omega) y hy hc
structure WaitL (xs:List IneqD) (is:List Int) (flags:List Bool) (v:Nat) (rest:List Int):Prop where
 consts:∀ x∈xs,x.lc≠0→keepsL is x
 vars:∀ (i:Nat) x,xs[i]?=some x→x.lc=0→keepsL is x∨flags.getD x.lv.toNat false=true∨(x.lv.toNat=v∧(i:Int)∈rest)
theorem WaitL.round {xs:List IneqD} {is is0:List Int} {flags flags':List Bool} {v0 v:Nat} {fr:Nat→List Int} (h:WaitL xs is flags v0 []) (hf:∀ u,u≠v→flags'.getD u false=flags.getD u false) (hfr:FirstL xs is0 fr xs.length):WaitL xs is flags' v (fr v):=by
 refine⟨h.consts,fun i x hi h0=>?_⟩
 rcases h.vars i x hi h0 with a | a | ⟨_,a⟩
 · exact Or.inl a
 · by_cases e:x.lv.toNat=v
   · refine Or.inr (Or.inr ⟨e,?_⟩)
     have:=hfr.froms i (List.getElem?_eq_some_iff.1 hi).1 x hi h0;rwa [e] at this
   · exact Or.inr (Or.inl (by rw[hf _ e]; exact a))
 · cases a
theorem WaitL.skip {xs:List IneqD} {is:List Int} {flags:List Bool} {v j:Nat} {t:List Int} {x:IneqD} (h:WaitL xs is flags v ((j:Int) :: t)) (hx:xs[j]?=some x) (hb:raiseB is x=false):WaitL xs is flags v t:=by
 refine⟨h.consts,fun i y hi h0=>?_⟩
 rcases h.vars i y hi h0 with a | a | ⟨a,b⟩
 · exact Or.inl a
 · exact Or.inr (Or.inl a)
 · rcases qk.1 b with e | e
   · have:i=j:=by omega
     subst this
     rw[hx] at hi; cases hi
     exact Or.inl (raiseB_not _ _ hb)
   · exact Or.inr (Or.inr ⟨a,e⟩)
theorem WaitL.raised {xs:List IneqD} {is:List Int} {flags flags':List Bool} {v j:Nat} {t:List Int} {x:IneqD} (h:WaitL xs is flags v ((j:Int) :: t)) (hx:xs[j]?=some x) (hb:raiseB is x=true) (hr:x.r<is.length) (hf:∀ u,flags'.getD u false=true↔flags.getD u false=true∨u=x.r.toNat):WaitL xs (is.set x.r.toNat (leftL is x)) flags' v t:=by
 obtain⟨q0,q1⟩:=(raiseB_iff _ _).1 hb
 have hrn:x.r.toNat<is.length:=by omega
 refine⟨fun y hy hc=>keepsL_other (h.consts y hy hc) (fun z=>absurd z hc) (by omega) hrn,fun i y hi h0=>?_⟩
 by_cases e:y.lv.toNat=x.r.toNat
 · exact Or.inr (Or.inl ((hf _).2 (Or.inr e)))
 · rcases h.vars i y hi h0 with a | a | ⟨a,b⟩
   · exact Or.inl (keepsL_other a (fun _=>e) (by omega) hrn)
   · exact Or.inr (Or.inl ((hf _).2 (Or.inl a)))
   · rcases qk.1 b with e' | e'
     · have:i=j:=by omega
       subst this
       rw[hx] at hi; cases hi
       exact Or.inl (keepsL_self hb hrn)
     · exact Or.inr (Or.inr ⟨a,e'⟩)
def slackL (is:List Int):Nat:=(is.map fun x=>(3 - x).toNat).sum
theorem slackL_set:∀ (is:List Int) (k:Nat) (L:Int),k<is.length→is.getD k 0<L→L≤3→slackL (is.set k L)+1≤slackL is
 | [],k,L,h,_,_=>absurd h (by simp)
 | x :: t,0,L,h,h1,h2=>by
   simp only[List.getD_cons_zero] at h1;simp only[slackL,qh,List.map_cons,List.sum_cons];omega
 | x :: t,k+1,L,h,h1,h2=>by
   have:=slackL_set t k L (by simpa using h) (by simpa using h1) h2;simp only[slackL,qi,List.map_cons,List.sum_cons] at this ⊢;omega
theorem slackL_raise {is:List Int} {x:IneqD} {n:Nat} (hx:OverL n x) (hl:is.length=n) (ht:∀ v,v<n→is.getD v 0≤3) (hb:raiseB is x=true):slackL (is.set x.r.toNat (leftL is x))+1≤slackL is:=by
 obtain⟨q0,q1⟩:=(raiseB_iff _ _).1 hb;have:=hx.r;exact slackL_set is _ _ (by omega) (by omega) (leftL_top hx ht)
theorem WaitL.done {xs:List IneqD} {is:List Int} {flags:List Bool} {v:Nat} (h:WaitL xs is flags v []) (hf:∀ u,flags.getD u false=false):∀ x∈xs,keepsL is x:=by
 intro x hx
 by_cases h0:x.lc=0
 · obtain⟨i,hi⟩:=List.getElem?_of_mem hx
   rcases h.vars i x hi h0 with a | a | ⟨_,a⟩
   · exact a
   · rw[hf] at a; cases a
   · cases a
 · exact h.consts x hx h0
end Go.Proofs.YtdmakpmbknindaaGreatDoor
namespace Go.Proofs.YtdmakpmbknindaaGreatDoor
open Go.RowKit Go.Conc
theorem QSt.recv {w:World} {gw W gt C n s r:Nat} {flags:List Bool} {z:Int} {q:List Int} (h:QSt w gw W gt C n flags (z :: q)) (hc:w.heap[C]?=some (.chan n ((z :: q).map (Value.int .i64)).toArray false s r false)):
 QSt (w.setChan C n (((z :: q).map (Value.int .i64)).toArray.extract 1 ((z :: q).map (Value.int .i64)).toArray.size) false s (r+1) false) gw W gt C n flags q:=by
 obtain⟨n1,n2,n3,n4,n5⟩:=h.ne;obtain⟨hl,b1,b2,b3,_⟩:=h;have hCl:C<w.heap.size:=(Array.getElem?_eq_some_iff.1 hc).1;refine⟨hl,b1.chan _ _ _ _ _ n1,b2.chan _ _ _ _ _ n2,b3.chan _ _ _ _ _ n3,s,r+1,?_⟩;rw[heap_setChan _ _ _ _ _ _ _ _ hCl];simp;exact List.take_of_length_le (by simp)
theorem QSt.mark {w:World} {gw W gt C n:Nat} {flags:List Bool} {q:List Int} (h:QSt w gw W gt C n flags q) (v:Nat) (b:Bool):QSt (w.setCell ⟨W,v,none⟩ (.bool b)) gw W gt C n (flags.set v b) q:=by
 obtain⟨n1,n2,n3,n4,n5⟩:=h.ne;obtain⟨hl,b1,b2,b3,s,r,hc⟩:=h
 refine⟨by simp[hl],b1.other (g':=W) (Ne.symm n5) v _,?_,b3.other (g':=W) (Ne.symm n4) v _,s,r,(Below.heap_setCell _ _ _ _ (Ne.symm n2)).trans hc⟩
 have:=b2.set_ v (.bool b);rw[List.map_set]
 simpa using this
theorem WaitL.nil {xs:List IneqD} {is:List Int} {flags:List Bool} {v:Nat} (v':Nat) (h:WaitL xs is flags v []):WaitL xs is flags v' []:=
 ⟨h.consts,fun i x hi h0=>(h.vars i x hi h0).imp_right fun q=>q.imp_right fun r=>absurd r.2 (by simp)⟩
section
variable {p:Place} {w0 w:World} {xs:List IneqD} {low is why:List Int} {vs:List Value} {fr:Nat→List Int} {flags:List Bool} {z:Int} {q:List Int}
theorem RunSt.recv (h:RunSt p w0 w xs low is why vs fr flags (z :: q)) {s r:Nat} (hc:w.heap[p.C]?=some (.chan p.n ((z :: q).map (Value.int .i64)).toArray false s r false)):
 RunSt p w0 (w.setChan p.C p.n (((z :: q).map (Value.int .i64)).toArray.extract 1 ((z :: q).map (Value.int .i64)).toArray.size) false s (r+1) false) xs low is why vs fr flags q:=
 h.queued ((Off.refl _ _).chan (by simp) _ _ _ _ _) (h.qs.recv hc)
theorem RunSt.mark (h:RunSt p w0 w xs low is why vs fr flags q) (v:Nat) (b:Bool):RunSt p w0 (w.setCell ⟨p.W,v,none⟩ (.bool b)) xs low is why vs fr (flags.set v b) q:=
 h.queued ((Off.refl _ _).set (by simp) _ _) (h.qs.mark v b)
theorem RunSt.added {w':World} (h:RunSt p w0 w xs low is why vs fr flags q) (hz:w0.heap.size≤p.base) {j:Nat} (hj:j<vs.length) {v':Value} {u:Int} (ho:w'.ownsRow p.base 3 1 v' ((fr j).length+1) ((fr j).map (Value.int .i64)++[.int .i64 u])) (hg:w.grownBy w' vs[j].ownBlock) (hn:v'.ownBlock=vs[j].ownBlock∨v'.ownBlock=some w.heap.size):
 RunSt p w0 (w'.setCell ⟨p.F,j,none⟩ v') xs low is why (vs.set j v') (fun k=>if k=j then fr j++[u] else fr k) flags q:=by
 have hoff:Off (p.F :: vs[j].ownBlock.toList) w (w'.setCell ⟨p.F,j,none⟩ v'):=
  Off.set ⟨hg.os,hg.tape,hg.output,hg.size,fun k hk hne=>hg.block k hk (fun e=>hne (by rw[← e]; simp))⟩ (by simp) _ _
 have hown:∀ b∈vs[j].ownBlock.toList,p.base≤b:=fun b hb=>(ownsRow_lt (h.frm.own j hj) (by simpa using hb)).1;have hnd:=h.ok.nd;simp only[List.nodup_cons,qk,List.not_mem_nil,or_false,not_or] at hnd
 have hnot:∀ b,b∈[p.g,p.I,p.Y,p.gw,p.W,p.gt,p.C]→b∉(p.F :: vs[j].ownBlock.toList):=by
  intro b hb hm;obtain⟨⟨a1,_⟩,⟨b1,b2,b3,b4,b5,b6⟩,_⟩:=hnd
  have hlt:=(h.ok.lt b (by simp only[qk,List.not_mem_nil,or_false] at hb ⊢; rcases hb with e | e | e | e | e | e | e <;> simp[e])).2
  rcases qk.1 hm with e | e
  · rw[e] at hb
    simp only[qk,List.not_mem_nil,or_false] at hb
    rcases hb with e | e | e | e | e | e | e
    · exact a1 e.symm
    · exact b1 e
    · exact b2 e
    · exact b3 e
    · exact b4 e
    · exact b5 e
    · exact b6 e
  · have:=hown b e; omega
 have hB:∀ s∈(p.F :: vs[j].ownBlock.toList),p.B≤s:=fun s hs=>by
  rcases qk.1 hs with e | e
  · rw[e]; exact(h.ok.lt p.F (by simp)).1
  · have:=hown s e; have:=h.ok.B; omega
 refine⟨h.ok,cell_off hoff h.s0 (hnot _ (by simp)),cell_off hoff h.s2 (hnot _ (by simp)),cell_off hoff h.s3 (hnot _ (by simp)),cell_off hoff h.s4 (hnot _ (by simp)),Nat.le_trans h.size hoff.size,h.xsM.below (hoff.below hB (Nat.le_trans h.ok.B h.size)),h.lowl,h.rI.off hoff (hnot _ (by simp)),h.rY.off hoff (hnot _ (by simp)),by simpa using h.vl,h.frm.add hj ho hg hn,h.qs.off hoff (hnot _ (by simp)) (hnot _ (by simp)) (hnot _ (by simp)) (hnot _ (by simp)),h.inv,h.over,?_⟩
 have a:=h.off;refine⟨hoff.os.trans a.os,hoff.tape.trans a.tape,hoff.output.trans a.output,Nat.le_trans a.size hoff.size,fun k hk hne=>(hoff.block k (Nat.lt_of_lt_of_le hk a.size) fun hm=>?_).trans (a.block k hk hne)⟩
 rcases qk.1 hm with e | e
 · exact hne (by simp[e])
 · have:=hown k e; omega
end
end Go.Proofs.YtdmakpmbknindaaGreatDoor
namespace Go.Proofs.YtdmakpmbknindaaGreatDoor
open Go.RowKit
theorem chain_len {xs:List IneqD} {low is why:List Int} (h:EndL xs low is why) (hlow3:∀ v,v<low.length→low.getD v 0≤3) {i:Nat} {x:IneqD} (hi:xs[i]?=some x) (hr:x.r<0) (hc:x.c<leftL is x) {l:List Nat} (hl:ChainL xs low why x x.c l):(i :: l).length≤xs.length:=by
 obtain⟨h1,h2,_⟩:=h.core hlow3 hi hr hc hl
 have:=nodup_len ((i :: l).map (fun u:Nat=>(u:Int))) ((List.range xs.length).map (fun u:Nat=>(u:Int))) (List.Pairwise.map _ (fun a b hab e=>hab (by omega)) h1) (fun z hz=>by
  obtain⟨u,hu,rfl⟩:=List.mem_map.1 hz
  exact List.mem_map.2 ⟨u,List.mem_range.2 (h2 u hu),rfl⟩)
 simpa using this
theorem EndL.chain0 {xs:List IneqD} {low is why:List Int} (h:EndL xs low is why) {x:IneqD} (hm:x∈xs) (hc:x.c<leftL is x):∃ l,ChainL xs low why x x.c l:=by
 obtain⟨rank,T,hT,hW⟩:=h.inv.rk;exact h.chain hW (T+1) x x.c (h.over x hm) hc (fun _=>Nat.lt_succ_of_le (hT _))
def set4 (w:World) (b:Nat) (y:IneqD):World:=(((w.setCell ⟨b,0,none⟩ (.int .i64 y.lv)).setCell ⟨b,1,none⟩ (.int .u8 y.lc)).setCell ⟨b,2,none⟩ (.int .u8 y.c)).setCell ⟨b,3,none⟩ (.int .i64 y.r)
theorem box_set4 {w:World} {b:Nat} {t:TypeId} {a0 a1 a2 a3:Value} (h:Blk w b t #[a0,a1,a2,a3]) (y:IneqD):Blk (set4 w b y) b t #[.int .i64 y.lv,.int .u8 y.lc,.int .u8 y.c,.int .i64 y.r]:=
 (((h.set_ 0 _).set_ 1 _).set_ 2 _).set_ 3 _
theorem heap_set4 (w:World) (b c:Nat) (y:IneqD) (h:b≠c):(set4 w b y).heap[c]?=w.heap[c]?:=by
 unfold set4;rw[Below.heap_setCell _ _ _ _ h.symm,Below.heap_setCell _ _ _ _ h.symm,Below.heap_setCell _ _ _ _ h.symm,Below.heap_setCell _ _ _ _ h.symm]
theorem below_set4 {w w':World} {B b:Nat} {y:IneqD} (h:Below B w w') (hb:B≤b):Below B w (set4 w' b y):=
 ⟨h.os,h.tape,h.output,by unfold set4; rw[World.size_setCell,World.size_setCell,World.size_setCell,World.size_setCell]; exact h.size,fun k hk=>(heap_set4 _ _ _ _ (by omega)).trans (h.block k hk)⟩
def natI (l:List Nat):List Int:=l.map fun u:Nat=>(u:Int)
theorem natI_len (l:List Nat):(natI l).length=l.length:=by simp[natI]
theorem core_any (g Y n cw cy nl cl:Nat) (Al Aw:Option Addr) (xs:List IneqD) (low is why:List Int) (i:Nat) (x:IneqD) (w:World)
 (x0:w.cell? ⟨g,0,none⟩=some (.slice Al nl cl)) (x1:w.cell? ⟨g,1,none⟩=some (.slice Aw n cw)) (x3:w.cell? ⟨g,3,none⟩=some (.slice (some ⟨Y,0,none⟩) n cy)) (hx:IneqsV w w.heap.size Al nl cl xs)
 (hlw:RdI .u8 w w.heap.size Aw n cw low) (hY:RowC w Y 3 .i64 why) (hg:g<w.heap.size) (hnl:nl≤1099511627776)
 (hE:EndL xs low is why) (hlow3:∀ v,v<low.length→low.getD v 0≤3) (hi:xs[i]?=some x) (hr:x.r<0) (hc:x.c<leftL is x):
 Calls Tryz.prog 85 #[.pointer (some ⟨g,0,none⟩),.int .i64 i] w fun e w'=>∃ A m c l,e=.returned (.slice A m c)∧ChainL xs low why x x.c l∧RdI .i64 w' w'.heap.size A m c ((natI (i :: l)).mergeSort fun a b=>decide (a≤b))∧Below w.heap.size w w':=by
 have hmx:=@run_max2 Tryz.prog;obtain⟨l,hch⟩:=hE.chain0 (List.mem_of_getElem? hi) hc;have hlen:=chain_len hE hlow3 hi hr hc hch;have hll:=hlw.len;have hxl:=hx.len;have hil:i<xs.length:=(List.getElem?_eq_some_iff.1 hi).1;obtain⟨bl,offl,hAl,hbl,hcl⟩:=hx.at_ (by omega);subst hAl;obtain⟨e0,e1,e2,e3⟩:=hcl i hil;rw[(List.getElem?_eq_some_iff.1 hi).2] at e0 e1 e2 e3
 have i1:(0:Int)≤(i:Int):=by omega
 have i2:(i:Int)<nl:=by omega
 have nl63:nl≤9223372036854775807:=by omega
 go_enter Tryz.func85,Tryz.ntmps85
 go_wp2_with fail;have Hx0:=qq x0;have Hx1:=qq x1;have Hx3:=qq x3;have Hx:=qq hx;have Hlw:=qq hlw;have HY:=qq hY;have HE:=qq hE;have Hch:=qq hch;have hxi:=hE.over x (List.mem_of_getElem? hi);have HO:=qq hxi;have hOv:∀ (k:Nat) (y:IneqD),xs[k]?=some y→OverL low.length y:=fun k y hy=>hE.over y (List.mem_of_getElem? hy);have HOv:=qq hOv;clear x0 x1 x3 hx hlw hY hE hxi hOv hlow3 hcl
 go_loopg [5,6,7] l.length (fun gh vo vov vb wr=>∃ (l1 l2:List Nat) (y:IneqD) (over:Int) (b cc:Nat) (A:Option Addr),l=l1++l2∧gh=l2.length∧vo=.slice A (l1.length+1) cc∧vov=.int .u8 over∧vb=.pointer (some ⟨b,0,none⟩)∧Blk wr b 70 #[.int .i64 y.lv,.int .u8 y.lc,.int .u8 y.c,.int .i64 y.r]∧wr.ownsRow w.heap.size 3 1 (.slice A (l1.length+1) cc) (l1.length+1) ((natI (i :: l1)).map (Value.int .i64))∧(Value.slice A (l1.length+1) cc).ownBlock≠some b∧w.heap.size≤b∧Below w.heap.size w wr∧ChainL xs low why y over l2∧OverL low.length y)
 case atStart=>
  refine⟨[],l,x,x.c,w.heap.size+1,1,_,rfl,rfl,rfl,rfl,rfl,?_,?_,?_,Nat.le_succ _,?_,Hch.out,HO.out⟩
  · have:=blk_new (w.alloc (.cells #[.int .i64 (i:Int)] 3)) #[.int .i64 x.lv,.int .u8 x.lc,.int .u8 x.c,.int .i64 x.r] 70
    simpa using this
  · refine⟨rfl,Or.inr ⟨w.heap.size,1,_,rfl,Nat.le_refl _,(Below.heap_alloc _ _ _ (by simp)).trans (heap_alloc_new w _),Nat.le_refl _,by unfold maxLen; omega,rfl,rfl⟩⟩
  · simp[Value.ownBlock]
  · exact((Below.refl _ _).alloc (Nat.le_refl _) _).alloc (by simp) _
 case round=>
  obtain⟨l1,l2,y,over,b,cc,A,hl,rfl,rfl,rfl,rfl,hbk,hown,hne,hb0,hbel,hcy,hoy⟩:=hrel;have hbl1:=hbk.lt;have y0:wr.cell? ⟨b,0,none⟩=some (.int .i64 y.lv):=hbk.cell 0;have y1:wr.cell? ⟨b,1,none⟩=some (.int .u8 y.lc):=hbk.cell 1;have y2:wr.cell? ⟨b,2,none⟩=some (.int .u8 y.c):=hbk.cell 2;have y3:wr.cell? ⟨b,3,none⟩=some (.int .i64 y.r):=hbk.cell 3;have x0:wr.cell? ⟨g,0,none⟩=some (.slice (some ⟨bl,offl,none⟩) nl cl):=(hbel.cell (p:=⟨g,0,none⟩) hg).trans Hx0.out;have x1:wr.cell? ⟨g,1,none⟩=some (.slice Aw n cw):=(hbel.cell (p:=⟨g,1,none⟩) hg).trans Hx1.out;have x3:wr.cell? ⟨g,3,none⟩=some (.slice (some ⟨Y,0,none⟩) n cy):=(hbel.cell (p:=⟨g,3,none⟩) hg).trans Hx3.out;have hlw:=Hlw.out.below hbel;have hY:=HY.out.below hbel HY.out.lt
  cases hcy with
  | stop _ _ hh=>
    rw[List.append_nil] at hl;subst hl
    have hs:∀ q,Calls Tryz.prog 131 #[.slice A (l.length+1) cc] (wr.drewN q) fun e w'=>e=.returned (.tuple #[])∧RdI .i64 w' w'.heap.size A (l.length+1) cc ((natI (i :: l)).mergeSort fun a b=>decide (a≤b))∧Below w.heap.size w w':=fun q=>by
     refine(sortI_any w.heap.size (.slice A (l.length+1) cc) (natI (i :: l)) (wr.drewN q) (by rw[natI_len]; exact hown) (by simp[natI]) (by rw[natI_len]; have:=hlen; simp at this ⊢; omega)).mono ?_
     rintro e w5 ⟨rfl,ho5,hg5⟩;rw[natI_len] at ho5;exact⟨rfl,RdI.of_own ho5,(below_drewN_t hbel q).grown hg5 hbel.size (fun k hk=>(ownsRow_lt hown hk).1)⟩
    have Hs:=qq hs;clear hs;have Hbel:=qq hbel
    by_cases h0:y.lc=0
    · have d0:(y.lc==0)=true:=by simp[h0]
      obtain⟨v0,v1⟩:=hoy.lv h0;obtain⟨yv,ylc,yc,yr⟩:=y;dsimp only at h0 v0 v1 y0 y1 y2 y3 d0 hh;subst h0;obtain⟨lv,rfl⟩:∃ m:Nat,yv=(m:Int):=⟨yv.toNat,(Int.toNat_of_nonneg v0).symm⟩;rw[Int.toNat_natCast] at hh;obtain⟨ba,oa,hAw,hba,hca⟩:=hlw.at_ (by omega);subst hAw
      have hlvl:lv<low.length:=by omega
      have a0:=hca lv hlvl
      have hgd:low.getD lv 0=low[lv]:=by simp[List.getD,hlvl]
      rw[hgd] at hh
      have d1:decide (low[lv]≤over)=false:=by simpa using hh
      have j1:(0:Int)≤(lv:Int):=by omega
      have j2:(lv:Int)<n:=by omega
      have n63:n≤9223372036854775807:=Nat.le_trans hlw.2.1 hlw.2.2;clear hh hgd;generalize low[lv]=LL at a0 d1;clear hca hlw hY hown hoy hbel;go_wp2_with fail
      go_quiet (fail)
      go_wp2_with fail;refine(Hs.out _).mono ?_;rintro e w5 ⟨rfl,hr5,hb5⟩;go_wp2_with fail;go_ret;exact⟨A,_,cc,l,rfl,Hch.out,hr5,hb5⟩
    · have d0:(y.lc==0)=false:=by simp[h0]
      clear hlw hY hown hoy hbel hh;go_wp2_with fail
      go_quiet (fail)
      go_wp2_with fail;refine(Hs.out _).mono ?_;rintro e w5 ⟨rfl,hr5,hb5⟩;go_wp2_with fail;go_ret;exact⟨A,_,cc,l,rfl,Hch.out,hr5,hb5⟩
  | step _ z _ k l2 h0 h1 hk hz ht=>
    have d0:(y.lc==0)=true:=by simp[h0]
    obtain⟨v0,v1⟩:=hoy.lv h0;obtain⟨yv,ylc,yc,yr⟩:=y;dsimp only at h0 v0 v1 y0 y1 y2 y3 d0 h1 hk hbk;subst h0;obtain⟨lv,rfl⟩:∃ m:Nat,yv=(m:Int):=⟨yv.toNat,(Int.toNat_of_nonneg v0).symm⟩;rw[Int.toNat_natCast] at h1 hk;obtain⟨ba,oa,hAw,hba,hca⟩:=hlw.at_ (by omega);subst hAw
    have hlvl:lv<low.length:=by omega
    have a0:=hca lv hlvl
    have hgd:low.getD lv 0=low[lv]:=by simp[List.getD,hlvl]
    rw[hgd] at h1
    have d1:decide (low[lv]≤over)=true:=by simpa using h1
    have j1:(0:Int)≤(lv:Int):=by omega
    have j2:(lv:Int)<n:=by omega
    have n63:n≤9223372036854775807:=Nat.le_trans hlw.2.1 hlw.2.2;clear h1 hgd;generalize low[lv]=LL at a0 d1;have hwl:=HE.out.inv.wl
    have hlw2:lv<why.length:=by omega
    have b0:=hY.cell lv hlw2
    have hkk:why[lv]=(k:Int):=by simpa[List.getD,hlw2] using hk
    rw[hkk] at b0;have hkx:k<xs.length:=(List.getElem?_eq_some_iff.1 hz).1;obtain⟨_,_,q,_,hcl2⟩:=(Hx.out.below hbel).at_ (by omega)
    cases q
    obtain⟨z0,z1,z2,z3⟩:=hcl2 k hkx;rw[(List.getElem?_eq_some_iff.1 hz).2] at z0 z1 z2 z3
    have j3:(0:Int)≤(k:Int):=by omega
    have j4:(k:Int)<nl:=by omega
    have f0:=hbk.frozen 0;have f1:=hbk.frozen 1;have f2:=hbk.frozen 2;have f3:=hbk.frozen 3;have Hown:=qq hown;have Hbk:=qq hbk;have Hbel:=qq hbel;have Hoz:=qq (HOv.out k z hz);have Ht:=qq ht;have Hl:=qq hl;clear hca hlw hY hown hoy hbel hbk ht hcl2 hl;go_wp2_with fail
    go_quiet (fail)
    revert nq
    intro nq0;go_wp2_with fail
    go_quiet (fail)
    go_wp2_with fail;have hbk6:=box_set4 (w:=wr.drewN (nq0+nq)) Hbk.out z;have hbel6:=below_set4 (y:=z) (below_drewN_t Hbel.out (nq0+nq)) hb0;have hown6:=ownsRow_block (w:=wr) (w':=set4 (wr.drewN (nq0+nq)) b z) Hown.out (fun b' hb'=>heap_set4 _ _ _ _ (fun e=>hne (by rw[hb',e])));show Code.wp _ _ _ _ (set4 (wr.drewN (nq0+nq)) b z);generalize set4 (wr.drewN (nq0+nq)) b z=w6 at hbk6 hbel6 hown6 ⊢;have y2:w6.cell? ⟨b,2,none⟩=some (.int .u8 z.c):=hbk6.cell 2;have hb6:=hbk6.lt;obtain⟨i0,hi0,hz0,hz1,hz2⟩:=info_parts intInfo
    have hl1:l1.length+1≤1099511627776:=by have h1:=hlen; have h2:=Hl.out; rw[h2] at h1; simp at h1; omega
    refine wp_region_noPanic ?_;refine wp_region_T (fun w'=>w'.cell? ⟨b,2,none⟩=some (.int .u8 z.c)) 9 (by kernel_rfl) y2 (fun hHeld=>?_);refine nx0 0 ?_
    iterate 2 (refine nx (v:=?_) rfl (by kernel_rfl) (fun _ _ _ h=>h) (by rfl) ?_ (by assumption) ?_; rotate_left; focus (intro w hSw; (try dsimp only at hSw); first | (go_simp; done) | (go_simp; with_reducible rfl)); try simp only[Act.put,qg,qe,qf,qd,qh,qi,Nat.reduceAdd])
    refine nx9 ?_;refine nx0 4 ?_
    iterate 4 (refine nx (v:=?_) rfl (by kernel_rfl) (fun _ _ _ h=>h) (by rfl) ?_ (by assumption) ?_; rotate_left; focus (intro w hSw; (try dsimp only at hSw); first | (go_simp; done) | (go_simp; with_reducible rfl)); try simp only[Act.put,qg,qe,qf,qd,qh,qi,Nat.reduceAdd])
    refine nx9 ?_;refine wpAnyT_step (i:=2) (by kernel_rfl) rfl (fun K hK=>?_);go_simp;refine hK.out _ _ ((World.cell?_alloc_lt _ _ ⟨b,2,none⟩ hb6).trans y2) ?_;clear hK K
    try simp only[Act.put,qg,qe,qf,qd,qh,qi]
    refine wpAnyT_step (i:=3) (by kernel_rfl) rfl (fun K hK=>?_)
    (refine step_append_rd _ (by rfl) (.tmp 59) (.tmp 61) 30 (by rfl) w.heap.size 3 i0 _ 1 8 Tryz.underlying30 hi0 hz0 hz1 hz2 rfl (by omega) (.slice A (l1.length+1) cc) (l1.length+1) ((natI (i :: l1)).map (Value.int .i64)) (by rfl) (hown6.alloc _) _ (some ⟨w6.heap.size,0,none⟩) 1 1 [.int .i64 (k:Int)] (by rfl) (rd_new1 _ _ _) (by intro u hu; simp at hu; subst hu; rfl) (by unfold maxLen; omega) (by omega) (by have:=hbel6.size; simp; omega) ?_; intro v7 w7 ho7 hg7 hat7; obtain⟨A7,c7,rfl⟩:=ownsRow_form ho7; have kq:=fun(p:Addr) (hp:p.block<w6.heap.size) (hn:some p.block≠(Value.slice A (l1.length+1) cc).ownBlock)=>(World.cell?_of_block (hg7.block p.block (by simp; omega) hn)).trans (World.cell?_alloc_lt _ _ p hp))
    refine hK.out _ _ ((kq ⟨b,2,none⟩ hb6 (Ne.symm hne)).trans y2) ?_;clear hK K
    try simp only[Act.put,qg,qe,qf,qd,qh,qi]
    refine wpAnyT_step (i:=8) (by kernel_rfl) rfl (fun K hK=>?_);go_simp;refine hK.out _ _ ((kq ⟨b,2,none⟩ hb6 (Ne.symm hne)).trans y2) ?_;clear hK K
    try simp only[Act.put,qg,qe,qf,qd,qh,qi]
    refine wpAnyT_seq 9 (by omega) (by rfl) (by kernel_rfl) ?_;simp only[List.drop_succ_cons,List.drop_zero];go_wp2_with fail;refine NoPanic.normal ?_
    have hbk7:Blk w7 b 70 #[.int .i64 z.lv,.int .u8 z.lc,.int .u8 z.c,.int .i64 z.r]:=(hg7.block b (by simp; omega) (Ne.symm hne)).trans (hbk6.alloc _)
    have q0:w7.cell? ⟨b,0,none⟩=some (.int .i64 z.lv):=hbk7.cell 0;have q1:w7.cell? ⟨b,1,none⟩=some (.int .u8 z.lc):=hbk7.cell 1;have q2:w7.cell? ⟨b,2,none⟩=some (.int .u8 z.c):=hbk7.cell 2;have q3:w7.cell? ⟨b,3,none⟩=some (.int .i64 z.r):=hbk7.cell 3
    have hbel7:Below w.heap.size w w7:=((hbel6).alloc hbel6.size _).drew.grown hg7 (by have:=hbel6.size; simp; omega) (fun k' hk'=>(ownsRow_lt Hown.out hk').1)
    have hlt7:=fun b'=>ownsRow_lt ho7 (b:=b');have Hbel7:=qq hbel7;have Ho7:=qq ho7;have Hlt7:=qq hlt7;clear hbk7 hbel7 ho7 hlt7 hg7 hat7 kq hbk6 hbel6 hown6;go_wp2_with fail;go_roundg l2.length
    case measure=>simp
    case rel=>
     have e9:(l1++[k]).length=l1.length+1:=by simp
     refine⟨l1++[k],l2,z,max over z.c,w7.heap.size,c7,A7,by rw[Hl.out]; simp,rfl,by rw[e9],rfl,rfl,blk_new w7 _ _,?_,?_,Hbel7.out.size,Hbel7.out.alloc Hbel7.out.size _,Ht.out,Hoz.out⟩
     · rw[e9,show natI (i :: (l1++[k]))=natI (i :: l1)++[(k:Int)] from by simp[natI],List.map_append]
       exact Ho7.out.alloc _
     · rw[e9]
       intro e;have:=(Hlt7.out _ e).2;omega
end Go.Proofs.YtdmakpmbknindaaGreatDoor
