import Derived.Test.YtdmakpmbknindaaGreatDoorM0
import Derived.Deep.RegionHeld3
import Derived.Deep.DrawnRows
import Derived.Test.YtdmakpmbknindaaGreatDoorRows
import Derived.ProofKit
import Derived.ShutString
import Derived.ChangeOld
import Derived.Below
import Derived.Lib.SlicesCompact
set_option linter.unusedVariables false
set_option linter.unusedSimpArgs false
set_option maxHeartbeats 1000000
namespace Go.Proofs.YtdmakpmbknindaaGreatDoor
open Go.RowKit
section
variable {P:Program} {ops:Array Oper} {Q:Exit→Act→World→Prop} {md:Region.Mode} {S:World→Prop} {tl:Nat}
def wpAnyT (P:Program) (md:Region.Mode) (ops:Array Oper) (Q:Exit→Act→World→Prop) (S:World→Prop) (tl:Nat):Nat→Array Bool→Act→World→Prop
 | 0,listed,a,w=>Region.ready md ops listed=[]∧Q .normal a w
 | fuel+1,listed,a,w=>
   (Region.ready md ops listed=[]→Q .normal a w) ∧
   ∀ i∈Region.ready md ops listed,wpOp P ops Q i (fun a' w'=>(i<tl→S w')∧wpAnyT P md ops Q S tl fuel (listed.setIfInBounds i true) a' w') a w
theorem wpAny_of_T:∀ (fuel:Nat) (listed:Array Bool) (a:Act) (w:World),wpAnyT P md ops Q S tl fuel listed a w→wpAny P md ops Q fuel listed a w
 | 0,_,_,_,h=>h
 | fuel+1,_,_,_,h=>⟨h.1,fun i hi=>wpOp_mono (fun a' w' h'=>wpAny_of_T fuel _ a' w' h'.2) (h.2 i hi)⟩
def tailWaits (md:Region.Mode) (ops:Array Oper) (tl i:Nat):Bool:=
 (List.range ops.size).all fun j=>decide (j<tl) || (match ops[j]? with
   | some oj=>oj.after.any fun e=>Region.binds md e&&e.on==i
   | none=>false)
theorem tailWaits_spec {i:Nat} (h:tailWaits md ops tl i=true) (j:Nat) (oj:Oper) (hj:ops[j]?=some oj) (hno:∀ e∈oj.after,Region.binds md e=true→e.on≠i):j<tl:=by
 have hlt:j<ops.size:=(Array.getElem?_eq_some_iff.1 hj).1;have h1:=List.all_eq_true.1 h j (List.mem_range.2 hlt);rw[hj,Bool.or_eq_true,decide_eq_true_eq] at h1
 rcases h1 with h1 | h1
 · exact h1
 · obtain⟨e,he,hb⟩:=Array.any_eq_true'.1 h1
   simp only[Bool.and_eq_true,beq_iff_eq] at hb;exact absurd hb.2 (hno e he hb.1)
theorem wpAnyT_first {i:Nat} {oi:Oper} {v:Value} (hi:ops[i]?=some oi) (hsel:∀ (j:Nat) (o:Oper) cs b,ops[j]?=some o→o.op ≠ .select cs b)
 (hQ:∀ c a w,Q (.panic c) (a.put oi.dst v) w→Q (.panic c) a w) (htl:tailWaits md ops tl i=true):
 ∀ (fuel:Nat) (listed:Array Bool) (a:Act) (w:World),
  (∀ j oj,ops[j]?=some oj→j≠i→listed.getD j true=false→(∀ e∈oj.after,Region.binds md e=true→e.on≠i)→oi.apart ops oj=true) →
  i∈Region.ready md ops listed→YieldsIf P ops S oi v a→S w →
  wpAnyT P md ops Q S tl fuel (listed.setIfInBounds i true) (a.put oi.dst v) w→wpAnyT P md ops Q S tl (fuel+1) listed a w:=by
 intro fuel
 induction fuel with
 | zero=>
   intro listed a w _ hr hy hS H
   refine⟨fun h=>(by rw[h] at hr; cases hr),fun j hj=>?_⟩
   by_cases hji:j=i
   · subst hji; exact hy.wpOp hi hS ⟨fun _=>hS,H⟩
   · have:=ready_mono hj hji
     rw[H.1] at this
     cases this
 | succ fuel ih=>
   intro listed a w hfree hr hy hS H
   refine⟨fun h=>(by rw[h] at hr; cases hr),fun j hj=>?_⟩
   by_cases hji:j=i
   · subst hji; exact hy.wpOp hi hS ⟨fun _=>hS,H⟩
   · have h1:=H.2 j (ready_mono hj hji)
     obtain⟨hjun,oj,hoj,hall⟩:=mem_ready.1 hj
     have hnot:∀ e∈oj.after,Region.binds md e=true→e.on≠i:=fun e he hb heq=>by
      have h1:=hall e he hb;have h0:=(mem_ready.1 hr).1;rw[heq] at h1
      rcases Nat.lt_or_ge i listed.size with h' | h'
      · simp[h'] at h0 h1; rw[h0] at h1; cases h1
      · simp[Array.getElem?_eq_none h'] at h1
     have hjt:j<tl:=tailWaits_spec htl j oj hoj hnot;have h2:=wpOp_putIf hoj (hfree j oj hoj hji hjun hnot) (fun cs b=>hsel i oi cs b hi) (fun cs b=>hsel j oj cs b hoj) hQ hy h1
     have hfree':∀ k ok,ops[k]?=some ok→k≠i→(listed.setIfInBounds j true).getD k true=false →
      (∀ e∈ok.after,Region.binds md e=true→e.on≠i)→oi.apart ops ok=true:=fun k ok hk hki hun hno=>by
      refine hfree k ok hk hki ?_ hno
      by_cases hjk:j=k
      · subst hjk; exact hjun
      · rw[getD_set_ne true hjk] at hun; exact hun
     refine wpOp_mono (fun a' w' h3=>⟨h3.2.1,ih (listed.setIfInBounds j true) a' w' hfree' (ready_mono hr (Ne.symm hji)) h3.1 (h3.2.1 hjt) ?_⟩) h2;rw[Array.setIfInBounds_comm _ _ hji];exact h3.2.2
theorem wpAnyT_take {i:Nat} {oi:Oper} {v:Value} {fuel:Nat} {listed:Array Bool} {a:Act} {w:World} (hi:ops[i]?=some oi)
 (hs:Region.noSelect ops=true) (hf:Region.free md ops listed i=true) (hr:(Region.ready md ops listed).contains i=true) (htl:tailWaits md ops tl i=true)
 (hQ:∀ c a w,Q (.panic c) (a.put oi.dst v) w→Q (.panic c) a w) (hy:YieldsIf P ops S oi v a) (hS:S w)
 (h:wpAnyT P md ops Q S tl fuel (listed.setIfInBounds i true) (a.put oi.dst v) w):wpAnyT P md ops Q S tl (fuel+1) listed a w:=
 wpAnyT_first hi (Region.noSelect_spec hs) hQ htl fuel listed a w (Region.free_spec hi hf) (by simpa using hr) hy hS h
theorem wpAnyT_step {i:Nat} {o:Oper} {fuel:Nat} {listed:Array Bool} {a:Act} {w:World} (hr:Region.ready md ops listed=[i]) (ho:ops[i]?=some o)
 (h:∀ K:Act→World→Prop,Hid (∀ a' w',S w'→wpAnyT P md ops Q S tl fuel (listed.setIfInBounds i true) a' w'→K a' w') →
   if Region.wanted o (yielded ops a.tmps)=true then o.wp P a w K Q else K (a.put o.dst undef) w):wpAnyT P md ops Q S tl (fuel+1) listed a w:=by
 refine⟨fun h0=>(by rw[hr] at h0; cases h0),fun j hj=>?_⟩
 rw[hr] at hj
 obtain rfl:j=i:=by simpa using hj
 have:=h (fun a' w'=>(j<tl→S w')∧wpAnyT P md ops Q S tl fuel (listed.setIfInBounds j true) a' w') (fun a' w' h1 h2=>⟨fun _=>h1,h2⟩);unfold wpOp;simp only[ho]
 split
 · rename_i hw; rw[if_pos hw] at this; exact .inl this
 · rename_i hw; rw[if_neg hw] at this; exact this
def seqT (md:Region.Mode) (ops:Array Oper):Nat→Nat→Array Bool→Bool
 | 0,_,listed=>(Region.ready md ops listed).isEmpty
 | g+1,k,listed=>decide (Region.ready md ops listed=[k])&&seqT md ops g (k+1) (listed.setIfInBounds k true)
theorem wpAnyT_of_seq:∀ (l:List Oper) (k:Nat) (listed:Array Bool) (a:Act) (w:World),tl≤k→(∀ j,l[j]?=ops[k+j]?) →
 seqT md ops l.length k listed=true→wpList P ops Q l a w→wpAnyT P md ops Q S tl l.length listed a w
 | [],_,_,_,_,_,_,hB,h=>⟨by simpa[seqT] using hB,h⟩
 | o :: l,k,listed,a,w,hk,hl,hB,h=>by
   have h0:ops[k]?=some o:=by simpa using (hl 0).symm
   simp only[List.length_cons,seqT,Bool.and_eq_true,decide_eq_true_eq] at hB
   refine⟨fun h1=>(by rw[hB.1] at h1; cases h1),fun i hi=>?_⟩
   rw[hB.1] at hi
   have hik:i=k:=by simpa using hi
   subst hik
   have hw:wpOp P ops Q i (wpList P ops Q l) a w:=by unfold wpOp; simp only[h0]; exact h
   exact wpOp_mono (fun a' w' h'=>⟨fun hlt=>absurd hlt (by omega),wpAnyT_of_seq l (i+1) _ a' w' (by omega) (fun j=>by have:=hl (j+1); simpa[Nat.add_assoc,Nat.add_comm 1 j] using this) hB.2 h'⟩) hw
theorem wpAnyT_seq {l:List Oper} (k:Nat) {fuel:Nat} {listed:Array Bool} {a:Act} {w:World} (hk:tl≤k) (hf:(l.drop k).length=fuel) (hB:seqT md l.toArray (l.drop k).length k listed=true)
 (h:wpList P l.toArray Q (l.drop k) a w):wpAnyT P md l.toArray Q S tl fuel listed a w:=by
 rw[← hf]
 exact wpAnyT_of_seq (l.drop k) k listed a w hk (fun j=>by simp[List.getElem?_drop]) hB h
theorem wpAnyT_J (J:Nat→Array Bool→Act→World→Prop) {fuel:Nat} (hdone:∀ l a w,J 0 l a w→wpAnyT P md ops Q S tl fuel l a w)
 (hstep:∀ m l a w,J (m+1) l a w→Region.ready md ops l≠[]∧∀ i∈Region.ready md ops l,wpOp P ops Q i (fun a' w'=>(i<tl→S w')∧J m (l.setIfInBounds i true) a' w') a w):
 ∀ (m:Nat) (l:Array Bool) (a:Act) (w:World),J m l a w→wpAnyT P md ops Q S tl (m+fuel) l a w
 | 0,l,a,w,h=>by rw[Nat.zero_add]; exact hdone l a w h
 | m+1,l,a,w,h=>by
   obtain⟨h1,h2⟩:=hstep m l a w h;rw[Nat.succ_add];exact⟨fun e=>absurd e h1,fun i hi=>wpOp_mono (fun a' w' h'=>⟨h'.1,wpAnyT_J J hdone hstep m _ a' w' h'.2⟩) (h2 i hi)⟩
theorem wpOp_step {i:Nat} {o:Oper} {a:Act} {w:World} {K0:Act→World→Prop} (ho:ops[i]?=some o)
 (h:∀ K:Act→World→Prop,Hid (∀ a' w',K0 a' w'→K a' w')→if Region.wanted o (yielded ops a.tmps)=true then o.wp P a w K Q else K (a.put o.dst undef) w):wpOp P ops Q i K0 a w:=by
 have:=h K0 (fun _ _ h=>h);unfold wpOp;simp only[ho]
 split
 · rename_i hw; rw[if_pos hw] at this; exact .inl this
 · rename_i hw; rw[if_neg hw] at this; exact this
theorem wp_region_T (S:World→Prop) (tl:Nat) {id:Nat} {a:Act} {w:World} (hm:P.follows .mixedOrders=true) (hS:S w.drew)
 (h:S w.drew→wpAnyT P .any ops Q S tl ops.size (Array.replicate ops.size false) a w.drew):(Code.region id ops true).wp P Q a w:=
 wp_region_any hm (wpAny_of_T _ _ _ _ (h hS))
end
section
variable {P:Program} {ops:Array Oper} {Q:Exit→Act→World→Prop} {md:Region.Mode} {S:World→Prop} {tl:Nat}
theorem wpAnyT_two {i j:Nat} {oi oj:Oper} {fuel:Nat} {listed:Array Bool} {a:Act} {w:World} (hr:Region.ready md ops listed=[i,j]) (hi:ops[i]?=some oi) (hj:ops[j]?=some oj)
 (h1:∀ K:Act→World→Prop,Hid (∀ a' w',S w'→wpAnyT P md ops Q S tl fuel (listed.setIfInBounds i true) a' w'→K a' w') →
   if Region.wanted oi (yielded ops a.tmps)=true then oi.wp P a w K Q else K (a.put oi.dst undef) w)
 (h2:∀ K:Act→World→Prop,Hid (∀ a' w',S w'→wpAnyT P md ops Q S tl fuel (listed.setIfInBounds j true) a' w'→K a' w') →
   if Region.wanted oj (yielded ops a.tmps)=true then oj.wp P a w K Q else K (a.put oj.dst undef) w):wpAnyT P md ops Q S tl (fuel+1) listed a w:=by
 refine⟨fun h0=>(by rw[hr] at h0; cases h0),fun k hk=>?_⟩
 rw[hr] at hk
 rcases qk.1 hk with rfl | hk
 · have:=h1 (fun a' w'=>(k<tl→S w')∧wpAnyT P md ops Q S tl fuel (listed.setIfInBounds k true) a' w') (fun a' w' h1 h2=>⟨fun _=>h1,h2⟩)
   unfold wpOp;simp only[hi]
   split
   · rename_i hw; rw[if_pos hw] at this; exact .inl this
   · rename_i hw; rw[if_neg hw] at this; exact this
 · obtain rfl:k=j:=by simpa using hk
   have:=h2 (fun a' w'=>(k<tl→S w')∧wpAnyT P md ops Q S tl fuel (listed.setIfInBounds k true) a' w') (fun a' w' h1 h2=>⟨fun _=>h1,h2⟩);unfold wpOp;simp only[hj]
   split
   · rename_i hw; rw[if_pos hw] at this; exact .inl this
   · rename_i hw; rw[if_neg hw] at this; exact this
end
section
variable {P:Program} {ops:Array Oper} {Q:Exit→Act→World→Prop} {md:Region.Mode} {S:World→Prop} {tl:Nat}
def waitsFor (md:Region.Mode) (ops:Array Oper):Nat→Nat→Nat→Bool
 | 0,_,_=>false
 | f+1,j,i=>match ops[j]? with
   | some oj=>oj.after.any fun e=>Region.binds md e&&(e.on==i || waitsFor md ops f e.on i)
   | none=>false
def ClosedL (md:Region.Mode) (ops:Array Oper) (listed:Array Bool):Prop:=∀ j oj,ops[j]?=some oj→listed.getD j false=true→∀ e∈oj.after,Region.binds md e=true→listed.getD e.on false=true
def closedB (md:Region.Mode) (ops:Array Oper) (listed:Array Bool):Bool:=
 (List.range ops.size).all fun j=>!listed.getD j false || (match ops[j]? with
   | some oj=>oj.after.all fun e=>!Region.binds md e || listed.getD e.on false
   | none=>true)
theorem closedB_spec {listed:Array Bool} (h:closedB md ops listed=true):ClosedL md ops listed:=by
 intro j oj hj hl e he hb;have hlt:j<ops.size:=(Array.getElem?_eq_some_iff.1 hj).1;have h1:=List.all_eq_true.1 h j (List.mem_range.2 hlt);rw[hj,hl] at h1;simp only[Bool.not_true,Bool.false_or] at h1;have:=Array.all_eq_true'.1 h1 e he;rw[hb] at this
 simpa using this
theorem ClosedL.waits {listed:Array Bool} (h:ClosedL md ops listed) {i:Nat}:∀ (f j:Nat) (oj:Oper),ops[j]?=some oj→(∀ e∈oj.after,Region.binds md e=true→listed.getD e.on false=true)→waitsFor md ops f j i=true→listed.getD i false=true
 | 0,_,_,_,_,hw=>by simp[waitsFor] at hw
 | f+1,j,oj,hj,hall,hw=>by
   unfold waitsFor at hw;rw[hj] at hw;obtain⟨e,he,hq⟩:=Array.any_eq_true'.1 hw;simp only[Bool.and_eq_true,Bool.or_eq_true,beq_iff_eq] at hq;have hl:=hall e he hq.1
   rcases hq.2 with e1 | e1
   · rw[← e1]; exact hl
   · cases hk:ops[e.on]? with
     | none=>cases f <;> simp[waitsFor,hk] at e1
     | some ok=>exact h.waits f e.on ok hk (fun e2 he2 hb2=>h e.on ok hk hl e2 he2 hb2) e1
theorem ClosedL.set {listed:Array Bool} (h:ClosedL md ops listed) {j:Nat} (hj:j∈Region.ready md ops listed):ClosedL md ops (listed.setIfInBounds j true):=by
 have keep:∀ k,listed.getD k false=true→(listed.setIfInBounds j true).getD k false=true:=fun k hk=>by
  by_cases e:j=k
  · subst e
    simp only[Array.getD_eq_getD_getElem?] at hk ⊢
    by_cases hs:j<listed.size
    · simp[hs]
    · rw[Array.getElem?_eq_none (by omega)] at hk; cases hk
  · rw[getD_set_ne false e]; exact hk
 intro k ok hk hl e he hb
 by_cases q:j=k
 · subst q
   obtain⟨_,o,ho,hall⟩:=mem_ready.1 hj;rw[hk] at ho
   cases ho
   exact keep _ (hall e he hb)
 · rw[getD_set_ne false q] at hl
   exact keep _ (h k ok hk hl e he hb)
def tailWaitsC (md:Region.Mode) (ops:Array Oper) (tl i:Nat):Bool:=
 (List.range ops.size).all fun j=>decide (j<tl) || waitsFor md ops 4 j i
theorem wpAnyT_firstC {i:Nat} {oi:Oper} {v:Value} (hi:ops[i]?=some oi) (hsel:∀ (j:Nat) (o:Oper) cs b,ops[j]?=some o→o.op ≠ .select cs b)
 (hQ:∀ c a w,Q (.panic c) (a.put oi.dst v) w→Q (.panic c) a w) (htl:tailWaitsC md ops tl i=true):
 ∀ (fuel:Nat) (listed:Array Bool) (a:Act) (w:World),ClosedL md ops listed →
  (∀ j oj,ops[j]?=some oj→j≠i→listed.getD j true=false→(∀ e∈oj.after,Region.binds md e=true→e.on≠i)→oi.apart ops oj=true) →
  i∈Region.ready md ops listed→YieldsIf P ops S oi v a→S w →
  wpAnyT P md ops Q S tl fuel (listed.setIfInBounds i true) (a.put oi.dst v) w→wpAnyT P md ops Q S tl (fuel+1) listed a w:=by
 intro fuel
 induction fuel with
 | zero=>
   intro listed a w _ _ hr hy hS H
   refine⟨fun h=>(by rw[h] at hr; cases hr),fun j hj=>?_⟩
   by_cases hji:j=i
   · subst hji; exact hy.wpOp hi hS ⟨fun _=>hS,H⟩
   · have:=ready_mono hj hji
     rw[H.1] at this
     cases this
 | succ fuel ih=>
   intro listed a w hcl hfree hr hy hS H
   refine⟨fun h=>(by rw[h] at hr; cases hr),fun j hj=>?_⟩
   by_cases hji:j=i
   · subst hji; exact hy.wpOp hi hS ⟨fun _=>hS,H⟩
   · have h1:=H.2 j (ready_mono hj hji)
     obtain⟨hjun,oj,hoj,hall⟩:=mem_ready.1 hj
     have hiF:listed.getD i false=true→False:=fun h=>by
      have h0:=(mem_ready.1 hr).1
      rcases Nat.lt_or_ge i listed.size with h' | h'
      · simp[h'] at h0 h; rw[h0] at h; cases h
      · simp[Array.getElem?_eq_none h'] at h
     have hnot:∀ e∈oj.after,Region.binds md e=true→e.on≠i:=fun e he hb heq=>hiF (heq ▸ hall e he hb)
     have hjt:j<tl:=by
      have hlt:j<ops.size:=(Array.getElem?_eq_some_iff.1 hoj).1;have h1:=List.all_eq_true.1 htl j (List.mem_range.2 hlt);rw[Bool.or_eq_true,decide_eq_true_eq] at h1;exact h1.resolve_right fun hw=>hiF (hcl.waits 4 j oj hoj hall hw)
     have h2:=wpOp_putIf hoj (hfree j oj hoj hji hjun hnot) (fun cs b=>hsel i oi cs b hi) (fun cs b=>hsel j oj cs b hoj) hQ hy h1
     have hfree':∀ k ok,ops[k]?=some ok→k≠i→(listed.setIfInBounds j true).getD k true=false →
      (∀ e∈ok.after,Region.binds md e=true→e.on≠i)→oi.apart ops ok=true:=fun k ok hk hki hun hno=>by
      refine hfree k ok hk hki ?_ hno
      by_cases hjk:j=k
      · subst hjk; exact hjun
      · rw[getD_set_ne true hjk] at hun; exact hun
     refine wpOp_mono (fun a' w' h3=>⟨h3.2.1,ih (listed.setIfInBounds j true) a' w' (hcl.set hj) hfree' (ready_mono hr (Ne.symm hji)) h3.1 (h3.2.1 hjt) ?_⟩) h2;rw[Array.setIfInBounds_comm _ _ hji];exact h3.2.2
theorem wpAnyT_takeC {i:Nat} {oi:Oper} {v:Value} {fuel:Nat} {listed:Array Bool} {a:Act} {w:World} (hi:ops[i]?=some oi)
 (hs:Region.noSelect ops=true) (hf:Region.free md ops listed i=true) (hr:(Region.ready md ops listed).contains i=true) (hc:closedB md ops listed=true) (htl:tailWaitsC md ops tl i=true)
 (hQ:∀ c a w,Q (.panic c) (a.put oi.dst v) w→Q (.panic c) a w) (hy:YieldsIf P ops S oi v a) (hS:S w)
 (h:wpAnyT P md ops Q S tl fuel (listed.setIfInBounds i true) (a.put oi.dst v) w):wpAnyT P md ops Q S tl (fuel+1) listed a w:=
 wpAnyT_firstC hi (Region.noSelect_spec hs) hQ htl fuel listed a w (closedB_spec hc) (Region.free_spec hi hf) (by simpa using hr) hy hS h
theorem wpAnyT_three {i j k:Nat} {oi oj ok:Oper} {fuel:Nat} {listed:Array Bool} {a:Act} {w:World} (hr:Region.ready md ops listed=[i,j,k]) (hi:ops[i]?=some oi) (hj:ops[j]?=some oj) (hk:ops[k]?=some ok)
 (h1:∀ K:Act→World→Prop,Hid (∀ a' w',S w'→wpAnyT P md ops Q S tl fuel (listed.setIfInBounds i true) a' w'→K a' w') →
   if Region.wanted oi (yielded ops a.tmps)=true then oi.wp P a w K Q else K (a.put oi.dst undef) w)
 (h2:∀ K:Act→World→Prop,Hid (∀ a' w',S w'→wpAnyT P md ops Q S tl fuel (listed.setIfInBounds j true) a' w'→K a' w') →
   if Region.wanted oj (yielded ops a.tmps)=true then oj.wp P a w K Q else K (a.put oj.dst undef) w)
 (h3:∀ K:Act→World→Prop,Hid (∀ a' w',S w'→wpAnyT P md ops Q S tl fuel (listed.setIfInBounds k true) a' w'→K a' w') →
   if Region.wanted ok (yielded ops a.tmps)=true then ok.wp P a w K Q else K (a.put ok.dst undef) w):wpAnyT P md ops Q S tl (fuel+1) listed a w:=by
 have one:∀ (m:Nat) (om:Oper),ops[m]?=some om→(∀ K:Act→World→Prop,Hid (∀ a' w',S w'→wpAnyT P md ops Q S tl fuel (listed.setIfInBounds m true) a' w'→K a' w') →
  if Region.wanted om (yielded ops a.tmps)=true then om.wp P a w K Q else K (a.put om.dst undef) w)→wpOp P ops Q m (fun a' w'=>(m<tl→S w')∧wpAnyT P md ops Q S tl fuel (listed.setIfInBounds m true) a' w') a w:=by
  intro m om hm h;have:=h (fun a' w'=>(m<tl→S w')∧wpAnyT P md ops Q S tl fuel (listed.setIfInBounds m true) a' w') (fun a' w' h1 h2=>⟨fun _=>h1,h2⟩);unfold wpOp;simp only[hm]
  split
  · rename_i hw; rw[if_pos hw] at this; exact .inl this
  · rename_i hw; rw[if_neg hw] at this; exact this
 refine⟨fun h0=>(by rw[hr] at h0; cases h0),fun m hm=>?_⟩
 rw[hr] at hm;simp only[qk,List.not_mem_nil,or_false] at hm
 rcases hm with rfl | rfl | rfl
 · exact one _ _ hi h1
 · exact one _ _ hj h2
 · exact one _ _ hk h3
end
section
variable {P:Program} {ops:Array Oper} {Q:Exit→Act→World→Prop} {md:Region.Mode} {S:World→Prop} {tl:Nat}
def okU (md:Region.Mode) (ops:Array Oper) (tl:Nat) (l:Array Bool) (i:Nat):Bool:=Region.noSelect ops&&(Region.free md ops l i&&((Region.ready md ops l).contains i&&tailWaits md ops tl i))
def wpNx (k:Nat) (P:Program) (md:Region.Mode) (ops:Array Oper) (Q:Exit→Act→World→Prop) (S:World→Prop) (tl fuel:Nat) (l:Array Bool) (a:Act) (w:World):Prop:=wpAnyT P md ops Q S tl fuel l a w
variable {oi:Oper} {v:Value} {fuel k:Nat} {l:Array Bool} {a:Act} {w:World}
theorem nx0 (k:Nat) (h:wpNx k P md ops Q S tl fuel l a w):wpAnyT P md ops Q S tl fuel l a w:=h
theorem nx9 (h:wpAnyT P md ops Q S tl fuel l a w):wpNx k P md ops Q S tl fuel l a w:=h
theorem nx (hi:ops[k]?=some oi) (hb:okU md ops tl l k=true) (hQ:∀ c a w,Q (.panic c) (a.put oi.dst v) w→Q (.panic c) a w) (hw:Region.wanted oi (yielded ops a.tmps)=true) (hy:∀ w,S w→(execOp a.eval oi).run P w=.ok (.value v) w) (hS:S w)
 (h:wpNx (k+1) P md ops Q S tl fuel (l.setIfInBounds k true) (a.put oi.dst v) w):wpNx k P md ops Q S tl (fuel+1) l a w:=by
 unfold okU at hb;simp only[Bool.and_eq_true] at hb;exact wpAnyT_take hi hb.1 hb.2.1 hb.2.2.1 hb.2.2.2 hQ (Or.inl ⟨hw,hy⟩) hS h
theorem nxk (hi:ops[k]?=some oi) (hb:okU md ops tl l k=true) (hQ:∀ c a w,Q (.panic c) (a.put oi.dst undef) w→Q (.panic c) a w) (hw:Region.wanted oi (yielded ops a.tmps)=false) (hS:S w)
 (h:wpNx (k+1) P md ops Q S tl fuel (l.setIfInBounds k true) (a.put oi.dst undef) w):wpNx k P md ops Q S tl (fuel+1) l a w:=by
 unfold okU at hb;simp only[Bool.and_eq_true] at hb;exact wpAnyT_take hi hb.1 hb.2.1 hb.2.2.1 hb.2.2.2 hQ (Or.inr ⟨hw,rfl⟩) hS h
end
end Go.Proofs.YtdmakpmbknindaaGreatDoor
namespace Go.Proofs.YtdmakpmbknindaaGreatDoor
open Go.ChangeShapes Go.WideShapes Go.ChangeAt Go.RowKit
open Go.ChangeMaps (open_string shut_string)
theorem own:ownKnob Tryz.prog.godebug=none:=by kernel_rfl
theorem laidOut:laidOutB Tryz.prog=true:=by kernel_rfl
section
variable {H:Type} {enc:TypeId × Value→H} {P:Program}
theorem trodAll_lt {w:World} {base:Nat} {spare:Nat→Bool} {held:Bool}:∀ (ts:List TypeId) (vs:List Value) (ds:List (DataW H)) (ps:List MemPlace),
 DataW.TrodAll enc P w base spare held ts vs ds ps→∀ p∈ps,p.block<w.heap.size
 | [],[],[],ps,h=>by have h:ps=[]:=h; subst h; intro p hp; cases hp
 | t :: ts,v :: vs,d :: ds,ps,h=>by
   obtain⟨p,q,⟨m,hm⟩,hr,rfl⟩:=h;intro x hx
   rcases List.mem_append.1 hx with hx | hx
   · exact DataW.trod_lt m _ _ _ hm x hx
   · exact trodAll_lt ts vs ds q hr x hx
 | [],[],_ :: _,_,h=>h.elim
 | [],_ :: _,_,_,h=>h.elim
 | _ :: _,[],_,_,h=>h.elim
 | _ :: _,_ :: _,[],_,h=>h.elim
theorem trodAll_below (hl:laidOutB P=true) {W W':World} (hb:Below W.heap.size W W'):∀ (ts:List TypeId) (vs:List Value) (ds:List (DataW H)) (ps:List MemPlace),
 ts.all (fun t=>P.readableRec t&&decide (t<P.types.size))=true→(∀ p∈ps,p.block<W.heap.size) →
 DataW.TrodAll enc P W 0 (fun _=>true) true ts vs ds ps→DataW.TrodAll enc P W' 0 (fun b=>decide (b<W.heap.size)) true ts vs ds ps
 | [],[],[],_,_,_,h=>h
 | t :: ts,v :: vs,d :: ds,ps,ht,hlt,h=>by
   obtain⟨p,q,h0,hr,rfl⟩:=h;rw[List.all_cons,Bool.and_eq_true,Bool.and_eq_true] at ht
   exact⟨p,q,Below.trod hl ht.1.1 (of_decide_eq_true ht.1.2) h0 hb (fun x hx=>hlt x (List.mem_append.2 (.inl hx))),
    trodAll_below hl hb ts vs ds q ht.2 (fun x hx=>hlt x (List.mem_append.2 (.inr hx))) hr,rfl⟩
 | [],[],_ :: _,_,_,_,h=>h.elim
 | [],_ :: _,_,_,_,_,h=>h.elim
 | _ :: _,[],_,_,_,_,h=>h.elim
 | _ :: _,_ :: _,[],_,_,_,h=>h.elim
theorem law_post {f:Func} {s:ChangeSpec} {tb:TypeId} (hl:laidOutB P=true) (hts:f.params.toList.all (fun t=>P.readableRec t&&decide (t<P.types.size))=true)
 (hvs:s.vars=[]) (hrt:f.resultTypes=#[tb]) (htb:P.underlying tb=some .bool)
 {W W':World} {args:Array Value} {ds:List (DataW H)} {before:List MemPlace}
 (hW:DataW.Whole enc P f.params.toList s.vars false W args.toList ds [] before)
 (hres:(s.fn H (ds++[])).results=[.lit (.bool true)]) (hargs:(s.fn H (ds++[])).args=ds) (hvars:(s.fn H (ds++[])).vars=[])
 (bel:Below W.heap.size W W'):s.post enc P f false true false false W args (.bool true) W':=by
 have hW':=hW;obtain⟨p,q,hA,hV,rfl,_,_⟩:=hW;rw[hvs] at hV;obtain⟨_,rfl⟩:=trodVars_none hV
 refine⟨_,_,_,[],p,[],hW',?_,?_,?_,bel.frame _,fun h=>by cases h⟩
 · rw[hres,hrt]
   exact trodAll_mk1 (shut_bool htb _)
 · rw[hargs]
   exact trodAll_below hl bel _ _ _ _ hts (trodAll_lt _ _ _ _ hA) hA
 · rw[hvars,hvs]
   rfl
theorem spot_none {w:World} {b o:Nat} {sp:Option Nat} {v:Value} (h:w.cell? ⟨b,o,sp⟩=some v):sp=none:=World.cell?_spot h
end
end Go.Proofs.YtdmakpmbknindaaGreatDoor
namespace Go.Proofs.YtdmakpmbknindaaGreatDoor
open Go.RowKit
structure TermD where
 never:Bool
 c:Int
 vars:List Int
def RdI (k:IntKind) (w:World) (B:Nat) (A:Option Addr) (n c:Nat) (us:List Int):Prop:=
 Rd w B 1 A n (us.map (Value.int k))∧n≤c∧c≤maxLen
section
variable {k:IntKind} {w w':World} {B B' n c:Nat} {A:Option Addr} {us:List Int}
theorem RdI.len (h:RdI k w B A n c us):us.length=n:=by simpa using h.1.1
theorem RdI.nil:RdI k w B none 0 0 []:=⟨Rd.nil,Nat.le_refl _,Nat.zero_le _⟩
theorem RdI.keep (h:RdI k w B A n c us) (hk:∀ p:Addr,p.block<B→w'.cell? p=w.cell? p):RdI k w' B A n c us:=⟨h.1.keep hk,h.2⟩
theorem RdI.more (h:RdI k w B A n c us) (hB:B≤B'):RdI k w B' A n c us:=⟨h.1.more hB,h.2⟩
theorem RdI.below (h:RdI k w B A n c us) (hb:Below B w w'):RdI k w' B A n c us:=h.keep fun _ hp=>hb.cell hp
theorem RdI.cell (h:RdI k w B A n c us) {i:Nat} (hi:i<n):∃ b off,A=some ⟨b,off,none⟩∧b<B∧w.cell? ⟨b,off+i,none⟩=some (.int k (us[i]'(by rw[h.len]; exact hi))):=by
 obtain⟨b,off,e,hb,hc⟩:=h.1.2 (by omega);exact⟨b,off,e,hb,hc i _ (by simp[h.len,hi])⟩
theorem RdI.at_ (h:RdI k w B A n c us) (hn:0<n):∃ b off,A=some ⟨b,off,none⟩∧b<B∧∀ i (hi:i<us.length),w.cell? ⟨b,off+i,none⟩=some (.int k us[i]):=by
 obtain⟨b,off,e,hb,hc⟩:=h.1.2 hn;exact⟨b,off,e,hb,fun i hi=>hc i _ (by simp[hi])⟩
end
def TermV (w:World) (B:Nat) (v:Value) (t:TermD):Prop:=
 ∃ A n c,v=.agg #[.bool t.never,.int .u8 t.c,.slice A n c]∧RdI .i64 w B A n c t.vars
section
variable {w w':World} {B B':Nat} {v:Value} {t:TermD}
theorem TermV.keep (h:TermV w B v t) (hk:∀ p:Addr,p.block<B→w'.cell? p=w.cell? p):TermV w' B v t:=by
 obtain⟨A,n,c,e,hr⟩:=h;exact⟨A,n,c,e,hr.keep hk⟩
theorem TermV.more (h:TermV w B v t) (hB:B≤B'):TermV w B' v t:=by
 obtain⟨A,n,c,e,hr⟩:=h;exact⟨A,n,c,e,hr.more hB⟩
theorem TermV.below (h:TermV w B v t) (hb:Below B w w'):TermV w' B v t:=h.keep fun _ hp=>hb.cell hp
end
def oneB (m:Int):Bool:=decide (1≤m)&&decide (m≤3)
def varB (l:List Int) (i:Nat):Bool:=decide (0≤l.getD i 0)&&decide (l.getD i 0<1048576)&&(decide (i=0) || decide (l.getD (i - 1) 0<l.getD i 0))
def varsB (l:List Int):Nat→Bool
 | 0=>true
 | k+1=>varsB l k&&varB l k
def mayB (t:TermD):Bool:=
 if t.never then t.c==0&&t.vars.isEmpty
 else oneB t.c&&!(t.c==3&&!t.vars.isEmpty)&&varsB t.vars t.vars.length
def mayE (t:TermD):Int:=if mayB t then 0 else 2
theorem mayE_yes {t:TermD} (h:mayB t=true):mayE t=0:=by simp[mayE,h]
theorem mayE_no {t:TermD} (h:mayB t=false):mayE t=2:=by simp[mayE,h]
def isB (c v:Int):Bool:=c==0&&decide (0≤v)&&decide (v<1048576) || oneB c&&v==0
def isE (c v:Int):Int:=if isB c v then 0 else 2
theorem isE_yes {c v:Int} (h:isB c v=true):isE c v=0:=by simp[isE,h]
theorem isE_no {c v:Int} (h:isB c v=false):isE c v=2:=by simp[isE,h]
def leastT (t:TermD):TermD:=if t.never then ⟨false,2,[]⟩ else t
def atV (asg:List Int) (v:Int):Int:=asg.getD v.toNat 0
def okV (asg:List Int) (v:Int):Bool:=decide (v<asg.length)&&oneB (atV asg v)
theorem one_any (m:Int) (w:World):
 Calls Tryz.prog 121 #[.int .u8 m] w fun e w'=>e=.returned (.bool (oneB m))∧w=w':=by
 by_cases h:1≤m
 · have hb:decide (1≤m)=true:=by simpa using h
   have H:Hid (decide (m≤3)=oneB m):=by show _=_; simp[oneB,h]
   clear h
   go_enter Tryz.func121,Tryz.ntmps121
   go_wp2_with fail;go_ret;exact⟨ret_bool H.out,rfl⟩
 · have hb:decide (1≤m)=false:=by simpa using h
   have H:Hid (false=oneB m):=by show _=_; simp[oneB,h]
   clear h
   go_enter Tryz.func121,Tryz.ntmps121
   go_wp2_with fail;go_ret;exact⟨ret_bool H.out,rfl⟩
theorem one_at (m:Int) (v:Bool) (h:oneB m=v) (w:World):
 Calls Tryz.prog 121 #[.int .u8 m] w fun e w'=>e=.returned (.bool v)∧w=w':=
 (one_any m w).mono fun _ _ ⟨he,hw⟩=>⟨by rw[he,h],hw⟩
theorem varsB_mono (l:List Int):∀ n k,k<n→varB l k=false→varsB l n=false
 | 0,k,h,_=>absurd h (by omega)
 | n+1,k,h,hf=>by
   rcases Nat.lt_or_ge k n with h1 | h1
   · simp[varsB,varsB_mono l n k h1 hf]
   · have:k=n:=by omega
     subst this;simp[varsB,hf]
theorem may_any (v:Value) (t:TermD) (w:World) (B:Nat) (hv:TermV w B v t) (hB:B≤w.heap.size):
 Calls Tryz.prog 152 #[v] w fun e w'=>e=.returned (.int .i64 (mayE t))∧Below w.heap.size w w':=by
 obtain⟨A,n,c,rfl,hr⟩:=hv;obtain⟨nv,tc,vs⟩:=t;have hlen:=hr.len;have Hlen:=qq hlen;clear hlen;have hn63:c≤9223372036854775807:=hr.2.2;have hnc:=hr.2.1
 cases nv
 · cases h1:oneB tc
   · have H:Hid (2=mayE ⟨false,tc,vs⟩):=by show _=_; rw[mayE_no]; simp[mayB,h1]
     have H1:=qq h1;clear h1
     go_enter Tryz.func152,Tryz.ntmps152
     go_wp2_with fail
     refine(one_at _ _ H1.out _).mono ?_; rintro e w1 ⟨rfl,rfl⟩
     go_wp2_with fail;go_ret;exact⟨ret_int H.out,(Below.refl _ _).alloc (Nat.le_refl _) _⟩
   · by_cases h2:tc=3∧¬ n=0
     · obtain⟨h3,h4⟩:=h2
       have H:Hid (2=mayE ⟨false,tc,vs⟩):=by
        show _=_;rw[mayE_no]
        have:vs.isEmpty=false:=by
         cases vs with
         | nil=>have:=Hlen.out; simp at this; omega
         | cons x r=>rfl
        simp[mayB,h3,this]
       have H1:=qq h1
       have h5:(tc==3)=true:=by simp[h3]
       have h6:0<n:=by omega
       clear h1 h3 h4
       go_enter Tryz.func152,Tryz.ntmps152
       go_wp2_with fail
       refine(one_at _ _ H1.out _).mono ?_; rintro e w1 ⟨rfl,rfl⟩
       go_wp2_with fail;go_ret;exact⟨ret_int H.out,(Below.refl _ _).alloc (Nat.le_refl _) _⟩
     · have hE:∀ b,varsB vs vs.length=b→mayB ⟨false,tc,vs⟩=b:=by
        intro b hb
        have hx:(tc==3&&!vs.isEmpty)=false:=by
         by_cases h3:tc=3
         · have hn0:n=0:=by
            rcases Nat.eq_zero_or_pos n with h | h
            · exact h
            · exact absurd ⟨h3,by omega⟩ h2
           have hvs:vs=[]:=List.eq_nil_of_length_eq_zero (by rw[Hlen.out]; exact hn0)
           simp[hvs]
         · simp[h3]
        simp[mayB,h1,hx,hb]
       have HE:=qq hE;have H1:=qq h1;clear hE h1
       have hcases:(tc==3)=false∨((tc==3)=true∧n=0):=by
        by_cases h3:tc=3
        · exact .inr ⟨by simp[h3],by rcases Nat.eq_zero_or_pos n with h | h; exact h; exact absurd ⟨h3,by omega⟩ h2⟩
        · exact .inl (by simp[h3])
       clear h2;have hbel:Below w.heap.size w (w.alloc (Obj.cells #[.bool false,.int .u8 tc,.slice A n c] 180)):=(Below.refl _ _).alloc (Nat.le_refl _) _
       rcases hcases with h3 | ⟨h3,hn0⟩
       · go_enter Tryz.func152,Tryz.ntmps152
         go_wp2_with fail
         refine(one_at _ _ H1.out _).mono ?_; rintro e w1 ⟨rfl,rfl⟩
         go_wp2_with fail;have hr1:=(hr.below ((Below.refl B w).alloc hB (Obj.cells #[.bool false,.int .u8 tc,.slice A n c] 180)))
         have hself:(w.alloc (Obj.cells #[.bool false,.int .u8 tc,.slice A n c] 180)).cell? ⟨w.heap.size,2,none⟩=some (.slice A n c):=by rw[World.cell?_alloc_new]; rfl
         generalize w.alloc (Obj.cells #[.bool false,.int .u8 tc,.slice A n c] 180)=W at hbel hr1 hself ⊢
         go_loopg [3,4,34] n (fun g _ _ i wr=>∃ k:Nat,k≤n∧g=n - k∧i=.int .i64 k∧varsB vs k=true∧W=wr)
         case atStart=>exact⟨0,Nat.zero_le _,rfl,rfl,rfl,rfl⟩
         case round=>
          obtain⟨k,hk,rfl,rfl,hvb,rfl⟩:=hrel;have Hvb:=qq hvb;clear hvb
          by_cases hlt:k<n
          · obtain⟨b,off,hA,hb,hcell⟩:=hr1.at_ (by omega)
            have hk':k<vs.length:=by rw[Hlen.out]; exact hlt
            have hc1:=hcell k hk'
            have hg:vs.getD k 0=vs[k]:=by simp[List.getD,hk']
            have Hg:=qq hg;have hsnoc:varsB vs (k+1)=(varsB vs k&&varB vs k):=rfl;have Hs:=qq hsnoc;clear hg hsnoc;subst hA;have Hcell:=qq hcell;clear hcell hr
            by_cases c1:vs[k]<0
            · have d1:decide (vs[k]<0)=true:=by simpa using c1
              have HF:Hid (2=mayE ⟨false,tc,vs⟩):=by
               show _=_
               rw[mayE_no (HE.out false (varsB_mono vs vs.length k hk' (by unfold varB; rw[Hg.out,decide_eq_false (by omega:¬ 0≤vs[k])]; rfl)))]
              clear Hs;go_wp2_with fail;go_ret;exact⟨ret_int HF.out,hbel⟩
            · have d1:decide (vs[k]<0)=false:=by simpa using c1
              by_cases c2:1048576≤vs[k]
              · have d2:decide (1048576≤vs[k])=true:=by simpa using c2
                have HF:Hid (2=mayE ⟨false,tc,vs⟩):=by
                 show _=_
                 rw[mayE_no (HE.out false (varsB_mono vs vs.length k hk' (by unfold varB; rw[Hg.out,decide_eq_false (by omega:¬ vs[k]<1048576),Bool.and_false]; rfl)))]
                clear Hs;go_wp2_with fail;go_ret;exact⟨ret_int HF.out,hbel⟩
              · have d2:decide (1048576≤vs[k])=false:=by simpa using c2
                by_cases c3:k=0
                · subst c3
                  have hc0:W.cell? ⟨b,off,none⟩=some (.int .i64 (vs[0]'hk')):=hc1;clear hc1
                  have HF:Hid (varsB vs (0+1)=true):=by show _=_; rw[Hs.out,Hvb.out,Bool.true_and]; unfold varB; rw[Hg.out,Bool.and_eq_true,Bool.and_eq_true,Bool.or_eq_true,decide_eq_true_eq,decide_eq_true_eq,decide_eq_true_eq]; omega
                  clear Hs;go_wp2_with fail;go_roundg (n - (0+1))
                  case measure=>omega
                  case rel=>exact⟨0+1,by omega,rfl,by go_num,HF.out,rfl⟩
                · have d4:0<k:=by omega
                  have hk1:k - 1<vs.length:=by omega
                  have hg1:vs.getD (k - 1) 0=vs[k - 1]:=by simp[List.getD,hk1]
                  have Hg1:=qq hg1;clear hg1;have hc2:W.cell? ⟨b,off+(k - 1),none⟩=some (.int .i64 (vs[k - 1]'hk1)):=Hcell.out (k - 1) hk1
                  by_cases c4:vs[k]≤vs[k - 1]
                  · have d5:decide (vs[k]≤vs[k - 1])=true:=by simpa using c4
                    have HF:Hid (2=mayE ⟨false,tc,vs⟩):=by
                     show _=_
                     rw[mayE_no (HE.out false (varsB_mono vs vs.length k hk' (by unfold varB; rw[Hg.out,Hg1.out,decide_eq_false (by omega:¬ vs[k - 1]<vs[k]),decide_eq_false c3,Bool.or_false,Bool.and_false])))]
                    clear Hs;go_wp2_with fail;go_ret;exact⟨ret_int HF.out,hbel⟩
                  · have d5:decide (vs[k]≤vs[k - 1])=false:=by simpa using c4
                    have HF:Hid (varsB vs (k+1)=true):=by show _=_; rw[Hs.out,Hvb.out,Bool.true_and]; unfold varB; rw[Hg.out,Hg1.out,decide_eq_true (by omega:0≤vs[k]),decide_eq_true (by omega:vs[k]<1048576),decide_eq_true (by omega:vs[k - 1]<vs[k]),Bool.or_true]; rfl
                    clear Hs;go_wp2_with fail;go_roundg (n - (k+1))
                    case measure=>omega
                    case rel=>exact⟨k+1,by omega,rfl,by go_num,HF.out,rfl⟩
          · have hkn:k=n:=by omega
            subst hkn
            have HF:Hid (0=mayE ⟨false,tc,vs⟩):=by
             show _=_
             rw[mayE_yes (HE.out true (by rw[Hlen.out]; exact Hvb.out))]
            go_wp2_with fail;go_ret;exact⟨ret_int HF.out,hbel⟩
       · have HF:Hid (0=mayE ⟨false,tc,vs⟩):=by
          show _=_
          have hvs:vs=[]:=List.eq_nil_of_length_eq_zero (by rw[Hlen.out]; exact hn0)
          rw[mayE_yes (HE.out true (by rw[hvs]; rfl))]
         subst hn0
         go_enter Tryz.func152,Tryz.ntmps152
         go_wp2_with fail
         refine(one_at _ _ H1.out _).mono ?_; rintro e w1 ⟨rfl,rfl⟩
         go_wp2_with fail
         refine wp_loop_rounds 1 ?_; rw[rounds_succ]
         go_wp2_with fail;go_ret;exact⟨ret_int HF.out,hbel⟩
 · by_cases h1:tc=0
   · by_cases h2:n=0
     · have H:Hid (0=mayE ⟨true,tc,vs⟩):=by
        show _=_
        have hvs:vs=[]:=List.eq_nil_of_length_eq_zero (by rw[Hlen.out]; exact h2)
        rw[mayE_yes]; simp[mayB,h1,hvs]
       have h3:(tc != 0)=false:=by simp[h1]
       clear h1
       go_enter Tryz.func152,Tryz.ntmps152
       go_wp2_with fail;go_ret;exact⟨ret_int H.out,(Below.refl _ _).alloc (Nat.le_refl _) _⟩
     · have H:Hid (2=mayE ⟨true,tc,vs⟩):=by
        show _=_
        have:vs.isEmpty=false:=by
         cases vs with
         | nil=>have:=Hlen.out; simp at this; omega
         | cons x r=>rfl
        rw[mayE_no]; simp[mayB,this]
       have h3:(tc != 0)=false:=by simp[h1]
       have h4:0<n:=by omega
       clear h1
       go_enter Tryz.func152,Tryz.ntmps152
       go_wp2_with fail;go_ret;exact⟨ret_int H.out,(Below.refl _ _).alloc (Nat.le_refl _) _⟩
   · have H:Hid (2=mayE ⟨true,tc,vs⟩):=by show _=_; rw[mayE_no]; simp[mayB,h1]
     have h3:(tc != 0)=true:=by simp[h1]
     clear h1
     go_enter Tryz.func152,Tryz.ntmps152
     go_wp2_with fail;go_ret;exact⟨ret_int H.out,(Below.refl _ _).alloc (Nat.le_refl _) _⟩
end Go.Proofs.YtdmakpmbknindaaGreatDoor
