import Derived.Test.YtdmakpmbknindaaGreatDoorM34
import Derived.Test.YtdmakpmbknindaaGreatDoorM37
import Derived.Test.YtdmakpmbknindaaGreatDoorM33
import Derived.Test.YtdmakpmbknindaaGreatDoorM16
namespace Go.Proofs.YtdmakpmbknindaaGreatDoor
set_option linter.unusedVariables false
set_option linter.unusedSimpArgs false
open Go.RowKit
def sameP (t:TabD) (i k:Nat):Bool:=pairE t i k==1&&pairE t k i==1
def pinY (t:TabD) (out:List (Int × Int)) (i k:Nat):Int × Int:=
 if t.low.getD i 0=t.up.getD i 0 then (0,t.low.getD i 0) else
  match (List.range k).find? (sameP t i) with
  | some j=>out.getD j (0,0)
  | none=>(((i:Nat):Int),0)
def pinL (t:TabD):Nat→List (Int × Int)
 | 0=>[]
 | i+1=>pinL t i++[pinY t (pinL t i) i i]
def pinP (t:TabD) (i:Nat):Int × Int:=pinY t (pinL t i) i i
theorem pinL_len (t:TabD):∀ n,(pinL t n).length=n
 | 0=>rfl
 | n+1=>by rw[pinL,List.length_append,pinL_len t n]; rfl
theorem pinL_at (t:TabD):∀ (n i:Nat),i<n→(pinL t n).getD i (0,0)=pinP t i
 | 0,i,h=>absurd h (Nat.not_lt_zero _)
 | n+1,i,h=>by
   rw[pinL,List.getD_eq_getElem?_getD]
   by_cases hi:i<n
   · rw[List.getElem?_append_left (by rw[pinL_len]; exact hi),← List.getD_eq_getElem?_getD]
     exact pinL_at t n i hi
   · have:i=n:=by omega
     subst this
     rw[List.getElem?_append_right (by rw[pinL_len]; exact Nat.le_refl _),pinL_len,Nat.sub_self]
     rfl
theorem pinY_find {t:TabD} {out:List (Int × Int)} {i k:Nat} (h:t.low.getD i 0≠t.up.getD i 0):(∃ j,j<k∧sameP t i j=true∧pinY t out i k=out.getD j (0,0))∨((∀ j,j<k→sameP t i j=false)∧pinY t out i k=(((i:Nat):Int),0)):=by
 unfold pinY;rw[if_neg h]
 cases hf:(List.range k).find? (sameP t i) with
 | some j=>
   have h1:=List.find?_some hf;have h2:=List.mem_of_find?_eq_some hf;exact .inl ⟨j,List.mem_range.1 h2,h1,rfl⟩
 | none=>
   rw[List.find?_eq_none] at hf
   exact .inr ⟨fun j hj=>by simpa using hf j (List.mem_range.2 hj),rfl⟩
section
variable {K:Nat} {S:List Int→Prop} {t:TabD}
def RepP (t:TabD) (j:Nat):Prop:=t.low.getD j 0≠t.up.getD j 0∧pinP t j=(((j:Nat):Int),0)
def PinOk (S:List Int→Prop) (t:TabD) (i:Nat) (p:Int × Int):Prop:=
 (p.1=0∧1≤p.2∧p.2≤3∧∀ m,S m→m.getD i 0=p.2)∨∃ j:Nat,j≤i∧p=(((j:Nat):Int),0)∧RepP t j∧∀ m,S m→m.getD i 0=m.getD j 0
theorem TabOf.rng_ (h:TabOf K S t) {m:List Int} (hm:S m) {i:Nat} (hi:i<K):1≤m.getD i 0∧m.getD i 0≤3:=by
 have:=h.lets m hm i hi;have:=h.rl i hi;have:=h.ru i hi;omega
theorem same_pair (h:TabOf K S t) {i j:Nat} (hi:i<K) (hj:j<K) (hs:sameP t i j=true) {m:List Int} (hm:S m):m.getD i 0=m.getD j 0:=by
 unfold sameP at hs;rw[Bool.and_eq_true,beq_iff_eq,beq_iff_eq] at hs;have h1:=(h.lets m hm i hi).2.2 j hj;have h2:=(h.lets m hm j hj).2.2 i hi;rw[hs.1] at h1;rw[hs.2] at h2;have:=h.rng_ hm hi;have:=h.rng_ hm hj;omega
theorem pin_ok (h:TabOf K S t):∀ (i:Nat),i<K→PinOk S t i (pinP t i):=by
 intro i
 induction i using Nat.strongRecOn with
 | ind i ih=>
   intro hi
   by_cases hl:t.low.getD i 0=t.up.getD i 0
   · left
     have e:pinP t i=(0,t.low.getD i 0):=by unfold pinP pinY; rw[if_pos hl]
     have hr:=h.rl i hi;rw[e]
     exact⟨rfl,hr.1,hr.2,fun m hm=>by have:=h.lets m hm i hi; show _=t.low.getD i 0; omega⟩
   · rcases pinY_find (out:=pinL t i) (k:=i) hl with ⟨j,hj,hs,e⟩ | ⟨_,e⟩
     · have e':pinP t i=pinP t j:=by unfold pinP; rw[e,pinL_at t i j hj]; rfl
       rw[e'];have hij:∀ m,S m→m.getD i 0=m.getD j 0:=fun m hm=>same_pair h hi (by omega) hs hm
       rcases ih j hj (by omega) with ⟨q1,q2,q3,q4⟩ | ⟨j',q1,q2,q3,q4⟩
       · exact .inl ⟨q1,q2,q3,fun m hm=>by rw[hij m hm]; exact q4 m hm⟩
       · exact .inr ⟨j',by omega,q2,q3,fun m hm=>by rw[hij m hm]; exact q4 m hm⟩
     · right
       have e':pinP t i=(((i:Nat):Int),0):=e;exact⟨i,Nat.le_refl _,e',⟨hl,e'⟩,fun m hm=>rfl⟩
theorem rep_ne (h:TabOf K S t) {j j':Nat} (hj:j<j') (hK:j'<K) (hr:RepP t j'):∃ m,S m∧m.getD j 0≠m.getD j' 0:=by
 have hns:sameP t j' j=false:=by
  rcases pinY_find (out:=pinL t j') (k:=j') hr.1 with ⟨i,hi,_,e⟩ | ⟨hn,_⟩
  · exfalso
    have e':pinP t i=(((j':Nat):Int),0):=by
     have:=hr.2;unfold pinP at this;rw[e,pinL_at t j' i hi] at this;exact this
    rcases pin_ok h i (by omega) with ⟨q1,q2,_⟩ | ⟨i',q1,q2,_⟩
    · rw[e'] at q2
      have q2:(1:Int)≤0:=q2;omega
    · rw[e'] at q2
      injection q2 with q2 _
      omega
  · exact hn j hj
 unfold sameP at hns;rw[Bool.and_eq_false_iff] at hns
 have hjK:j<K:=by omega
 rcases hns with hn | hn
 · rcases h.pairAt j' j hK hjK with e | ⟨m,hm,_,hlt⟩
   · rw[e] at hn; simp at hn
   · exact⟨m,hm,by omega⟩
 · rcases h.pairAt j j' hjK hK with e | ⟨m,hm,_,hlt⟩
   · rw[e] at hn; simp at hn
   · exact⟨m,hm,by omega⟩
theorem rep_free (h:TabOf K S t) {j:Nat} (hj:j<K) (hr:RepP t j) (c:Int):∃ m,S m∧m.getD j 0≠c:=by
 obtain⟨a,ha,e1⟩:=h.lowAt j hj;obtain⟨b,hb,e2⟩:=h.upAt j hj;have:=hr.1
 by_cases hc:t.low.getD j 0=c
 · exact⟨b,hb,by rw[e2,← hc]; exact fun e=>this e.symm⟩
 · exact⟨a,ha,by rw[e1]; exact hc⟩
def nuM (m:List Int) (p:Int × Int):Int × Int:=if p.2=0 then putM (muL m) p.1 else p
def GoodM (K:Nat) (t:TabD) (p:Int × Int):Prop:=(p.1=0∧1≤p.2∧p.2≤3)∨∃ j:Nat,j<K∧p=(((j:Nat):Int),0)∧RepP t j
def GoodT (K:Nat) (t:TabD) (u:TyD):Prop:=mayT u=true∧∀ v∈allM u,∃ j:Nat,j<K∧v=(j:Nat)∧RepP t j
theorem nu_const {m:List Int} {p:Int × Int} (h:1≤p.2):nuM m p=p:=by unfold nuM; rw[if_neg (by omega)]
theorem nu_var {m:List Int} {j:Nat} (h:j<m.length):nuM m (((j:Nat):Int),0)=(0,m.getD j 0):=by
 unfold nuM;rw[if_pos rfl];exact putM_mu h
theorem good_fam (h:TabOf K S t) (hne:∃ m,S m) (hlen:∀ m,S m→m.length=K):Fam (ι := { m:List Int // S m }) (GoodT K t) (GoodM K t) (fun m u=>atM u m.1) (fun m p=>nuM m.1 p):=by
 refine⟨?_,fun u hu x hx=>⟨(may_facts hu.1).2.2.2.2.2.2 x hx,fun v hv=>hu.2 v (allM_kid hu.1 hx hv)⟩,fun u hu h7=>?_,fun u hu h7=>may_plain hu.1 h7,fun i u hu=>?_,fun i u hu=>?_,fun i u hu=>?_,fun i u hu h7=>?_,fun p q hp hq he=>?_,fun c p hp hc he=>?_⟩
 · obtain⟨m,hm⟩:=hne
   exact⟨⟨m,hm⟩⟩
 · have hb:=may_mu hu.1
   by_cases hc:u.c=0
   · obtain⟨j,hj,e,hr⟩:=hu.2 u.v (allM_own hu.1 h7 hc)
     exact .inr ⟨j,hj,by rw[e,hc],hr⟩
   · left
     unfold isB oneB at hb;simp only[Bool.or_eq_true,Bool.and_eq_true,beq_iff_eq,decide_eq_true_eq] at hb
     exact⟨by show u.v=0; omega,by show 1≤u.c; omega,by show u.c≤3; omega⟩
 · show(atM u i.1).k=u.k
   unfold atM;rw[turnT_eq]
   split <;> rfl
 · show(atM u i.1).n=u.n
   unfold atM;rw[turnT_eq]
   split <;> rfl
 · show(atM u i.1).l=u.l.map (fun u=>atM u i.1)
   unfold atM;rw[turnT_eq]
   split
   · rename_i hk
     rw[may_leaf hu.1 (by omega)];show u.l=[];exact may_leaf hu.1 (by omega)
   · rfl
 · show((atM u i.1).v,(atM u i.1).c)=nuM i.1 (u.v,u.c)
   unfold atM nuM;rw[turnT_eq,if_neg (by omega)]
   by_cases hc:u.c=0
   · simp only[h7,hc,and_self,if_true]
     rfl
   · simp only[hc,and_false,if_false]
     rfl
 · rcases hp with ⟨p1,p2,p3⟩ | ⟨j,hj,rfl,hr⟩
   · rcases hq with ⟨q1,q2,q3⟩ | ⟨j,hj,rfl,hr⟩
     · obtain⟨m,hm⟩:=hne
       have:=he ⟨m,hm⟩;rw[nu_const p2,nu_const q2] at this;exact this
     · obtain⟨m,hm,hne'⟩:=rep_free h hj hr p.2
       have:=he ⟨m,hm⟩
       rw[nu_const p2,nu_var (by rw[hlen m hm]; exact hj)] at this
       exact absurd (congrArg Prod.snd this).symm hne'
   · rcases hq with ⟨q1,q2,q3⟩ | ⟨j',hj',rfl,hr'⟩
     · obtain⟨m,hm,hne'⟩:=rep_free h hj hr q.2
       have:=he ⟨m,hm⟩
       rw[nu_const q2,nu_var (by rw[hlen m hm]; exact hj)] at this
       exact absurd (congrArg Prod.snd this) hne'
     · by_cases hjj:j=j'
       · rw[hjj]
       · exfalso
         have hex:∃ m,S m∧m.getD j 0≠m.getD j' 0:=by
          rcases Nat.lt_or_gt_of_ne hjj with hlt | hlt
          · exact rep_ne h hlt hj' hr'
          · obtain⟨m,hm,e⟩:=rep_ne h hlt hj hr
            exact⟨m,hm,fun e'=>e e'.symm⟩
         obtain⟨m,hm,hne'⟩:=hex;have:=he ⟨m,hm⟩
         rw[nu_var (by rw[hlen m hm]; exact hj),nu_var (by rw[hlen m hm]; exact hj')] at this
         exact hne' (congrArg Prod.snd this)
 · rcases hp with ⟨p1,p2,p3⟩ | ⟨j,hj,rfl,hr⟩
   · obtain⟨m,hm⟩:=hne
     have:=he ⟨m,hm⟩;rw[nu_const p2] at this;exact this
   · obtain⟨m,hm,hne'⟩:=rep_free h hj hr c
     have:=he ⟨m,hm⟩
     rw[nu_var (by rw[hlen m hm]; exact hj)] at this
     exact absurd (congrArg Prod.snd this) hne'
theorem allM_turn {fm:Int→Int × Int} {t:TyD} (ht:mayT t=true) (hu:mayT (turnT (fun _=>none) fm t)=true):∀ v∈allM (turnT (fun _=>none) fm t),∃ v'∈allM t,fm v'=(v,0):=by
 revert ht hu
 induction t using ty_ind with
 | h t ih=>
   intro ht hu v hv;have ft:=may_facts ht
   by_cases hk:t.k=1
   · rw[turnT_eq,if_pos hk] at hv
     have hv:v∈allM t:=hv;rw[may_var ht hk,allM_plainV] at hv
     cases hv
   · have e:turnT (fun _=>none) fm t=.mk t.k t.n (if t.k=7∧t.c=0 then (fm t.v).1 else t.v) (if t.k=7∧t.c=0 then (fm t.v).2 else t.c) (t.l.map (turnT (fun _=>none) fm)):=by rw[turnT_eq,if_neg hk]
     rw[e] at hv hu
     rcases allM_mem hu hv with ⟨h7,hc,hve⟩ | ⟨x,hx,hv⟩
     · have h7:t.k=7:=h7
       have hc:(if t.k=7∧t.c=0 then (fm t.v).2 else t.c)=0:=hc;have hve:v=(if t.k=7∧t.c=0 then (fm t.v).1 else t.v):=hve
       by_cases h0:t.c=0
       · rw[if_pos ⟨h7,h0⟩] at hc hve
         exact⟨t.v,allM_own ht h7 h0,Prod.ext hve.symm hc⟩
       · rw[if_neg (fun h=>h0 h.2)] at hc
         exact absurd hc h0
     · obtain⟨y,hy,rfl⟩:=List.mem_map.1 hx
       obtain⟨v',h1,h2⟩:=ih y hy (ft.2.2.2.2.2.2 y hy) ((may_facts hu).2.2.2.2.2.2 _ hx) v hv;exact⟨v',allM_kid ht hy h1,h2⟩
def oneT (b:TyD) (t:TabD) (K:Nat):TyD:=turnT (putV []) (putM (pinL t K)) b
theorem putV_nil {b:TyD} (hb:mayT b=true) (fm:Int→Int × Int):turnT (putV []) fm b=turnT (fun _=>none) fm b:=turn_congr hb (fun n hn=>by
 have:=(allV_nonneg hb n hn).1;unfold putV
 rw[if_neg (by simp; omega)]) fun _ _=>rfl
theorem putM_pin (t:TabD) {K i:Nat} (hi:i<K):putM (pinL t K) (i:Nat)=pinP t i:=by
 unfold putM
 rw[if_pos (by rw[pinL_len]; omega),Int.toNat_natCast,List.getD_eq_getElem?_getD,qj (by rw[pinL_len]; exact hi),← pinL_at t K i hi,List.getD_eq_getElem?_getD,qj (by rw[pinL_len]; exact hi)]
 rfl
end
def sureB (t:TabD) (x:IneqD):Bool:=
 if (if x.lc=0 then t.up.getD x.lv.toNat 0 else x.lc)≤x.c then true
 else if x.r<0 then false
 else if x.lc≠0 then decide (x.lc≤t.low.getD x.r.toNat 0)
 else decide (pairE t x.lv.toNat x.r.toNat≤x.c)
theorem sure_iff {K:Nat} {S:List Int→Prop} {t:TabD} (h:TabOf K S t) (hne:∃ m,S m) {x:IneqD} (h1:x.lc=0→0≤x.lv∧x.lv<(K:Int)) (h2:x.r<(K:Int)) (h3:1≤x.c):sureB t x=true↔∀ m,S m→holdL m x:=by
 obtain⟨m0,hm0⟩:=hne;unfold sureB holdL leftL
 by_cases hc:x.lc=0
 · rw[if_pos hc]
   simp only[if_pos hc];obtain⟨l0,l1⟩:=h1 hc
   have hlK:x.lv.toNat<K:=by omega
   by_cases hu:t.up.getD x.lv.toNat 0≤x.c
   · rw[if_pos hu]
     refine⟨fun _ m hm=>?_,fun _=>rfl⟩;have:=(h.lets m hm _ hlK).2.1
     split <;> omega
   · rw[if_neg hu]
     by_cases hr:x.r<0
     · rw[if_pos hr]
       refine⟨fun hh=>Bool.noConfusion hh,fun hh=>?_⟩;obtain⟨m,hm,e⟩:=h.upAt _ hlK;have:=hh m hm;rw[if_neg (by omega),e] at this;exact absurd this hu
     · rw[if_neg hr,if_neg (by simp[hc]),decide_eq_true_eq]
       have hrK:x.r.toNat<K:=by omega
       constructor
       · intro hp m hm
         rw[if_pos (by omega)];have:=(h.lets m hm _ hlK).2.2 _ hrK;omega
       · intro hh
         rcases h.pairAt _ _ hlK hrK with e | ⟨m,hm,e,hlt⟩
         · omega
         · have:=hh m hm
           rw[if_pos (by omega)] at this;omega
 · rw[if_neg hc]
   simp only[if_neg hc]
   by_cases hu:x.lc≤x.c
   · rw[if_pos hu]
     refine⟨fun _ m hm=>?_,fun _=>rfl⟩
     split <;> omega
   · rw[if_neg hu]
     by_cases hr:x.r<0
     · rw[if_pos hr]
       refine⟨fun hh=>Bool.noConfusion hh,fun hh=>?_⟩;have:=hh m0 hm0;rw[if_neg (by omega)] at this;exact absurd this hu
     · rw[if_neg hr,if_pos hc,decide_eq_true_eq]
       have hrK:x.r.toNat<K:=by omega
       constructor
       · intro hp m hm
         rw[if_pos (by omega)];have:=(h.lets m hm _ hrK).1;omega
       · intro hh
         obtain⟨m,hm,e⟩:=h.lowAt _ hrK;have:=hh m hm;rw[if_pos (by omega),e] at this;omega
def subL (f:Int→Int × Int) (x:IneqD):Int × Int:=if x.lc=0 then f x.lv else (x.lv,x.lc)
def subR (f:Int→Int × Int) (x:IneqD):Int × Int:=if 0≤x.r then (if (f x.r).2=0 then (x.c,(f x.r).1) else (max x.c (f x.r).2, -1)) else (x.c,x.r)
def subQ (f:Int→Int × Int) (x:IneqD):IneqD:=⟨(subL f x).1,(subL f x).2,(subR f x).1,(subR f x).2⟩
def ofM (ka:Nat) (f:Int→Int × Int) (m:List Int):List Int:=(List.range ka).map fun i:Nat=>(nuM m (f i)).2
theorem ofM_at {ka:Nat} {f:Int→Int × Int} {m:List Int} {i:Nat} (hi:i<ka):(ofM ka f m).getD i 0=(nuM m (f (i:Nat))).2:=by
 unfold ofM;rw[List.getD_eq_getElem?_getD,List.getElem?_map,List.getElem?_range hi];rfl
theorem sub_hold {ka K:Nat} {f:Int→Int × Int} {t:TabD} {m:List Int} (hf:∀ i,i<ka→GoodM K t (f (i:Nat))) (hm:m.length=K) {x:IneqD} (h1:x.lc=0→0≤x.lv∧x.lv<(ka:Int)) (h2:x.r<(ka:Int)):holdL (ofM ka f m) x↔holdL m (subQ f x):=by
 have hval:∀ z:Int,0≤z→z<(ka:Int)→(ofM ka f m).getD z.toNat 0=(nuM m (f z)).2:=fun z z0 z1=>by
  have:=ofM_at (ka:=ka) (f:=f) (m:=m) (i:=z.toNat) (by omega)
  rw[this,show((z.toNat:Nat):Int)=z from Int.toNat_of_nonneg z0]
 have hgood:∀ z:Int,0≤z→z<(ka:Int)→GoodM K t (f z):=fun z z0 z1=>by
  have:=hf z.toNat (by omega)
  rwa [show((z.toNat:Nat):Int)=z from Int.toNat_of_nonneg z0] at this
 have hnu:∀ z:Int,0≤z→z<(ka:Int)→(nuM m (f z)).2=if (f z).2=0 then m.getD (f z).1.toNat 0 else (f z).2:=fun z z0 z1=>by
  rcases hgood z z0 z1 with ⟨g1,g2,g3⟩ | ⟨j,hj,e,_⟩
  · rw[nu_const g2,if_neg (by omega)]
  · rw[e,nu_var (by rw[hm]; exact hj),if_pos rfl,Int.toNat_natCast]
 have hleft:leftL (ofM ka f m) x=leftL m (subQ f x):=by
  unfold leftL;show _=if (subL f x).2=0 then m.getD (subL f x).1.toNat 0 else (subL f x).2;unfold subL
  by_cases hc:x.lc=0
  · obtain⟨l0,l1⟩:=h1 hc
    rw[if_pos hc,if_pos hc,hval _ l0 l1,hnu _ l0 l1]
  · rw[if_neg hc,if_neg hc]
    show x.lc=if x.lc=0 then _ else x.lc;rw[if_neg hc]
 have hright:(if 0≤x.r then max x.c ((ofM ka f m).getD x.r.toNat 0) else x.c)=if 0≤(subR f x).2 then max (subR f x).1 (m.getD (subR f x).2.toNat 0) else (subR f x).1:=by
  unfold subR
  by_cases hr:0≤x.r
  · rw[if_pos hr,if_pos hr,hval _ hr h2,hnu _ hr h2]
    by_cases h0:(f x.r).2=0
    · rw[if_pos h0,if_pos h0]
      have hg:=hgood _ hr h2
      have hr':0≤(f x.r).1:=by
       rcases hg with ⟨g1,_⟩ | ⟨j,_,e,_⟩
       · omega
       · rw[e]; exact Int.natCast_nonneg _
      show _=if 0≤(f x.r).1 then max x.c (m.getD (f x.r).1.toNat 0) else x.c;rw[if_pos hr']
    · rw[if_neg h0,if_neg h0]
      show _=if (0:Int) ≤ -1 then _ else max x.c (f x.r).2;rw[if_neg (by omega)]
  · rw[if_neg hr,if_neg hr]
    show x.c=if 0≤x.r then _ else x.c;rw[if_neg hr]
 unfold holdL;rw[hleft,hright];exact Iff.rfl
section
variable {a b:SchD} {t:TabD}
abbrev LetB (b:SchD) (m:List Int):Prop:=LetsA (multsT b.t).length b.tab m
theorem one_atM (hb:OkSch b) (h:TabOf (multsT b.t).length (LetB b) t) {m:List Int} (hm:LetB b m):atM (oneT b.t t (multsT b.t).length) m=atM b.t m:=by
 have hbm:=mayTE_may hb.may;unfold oneT;rw[putV_nil hbm];unfold atM;rw[turn_turn];refine turn_congr hbm (fun n hn=>rfl) fun v hv=>?_;obtain⟨i,hi,rfl⟩:=hb.of_mu hv
 rw[putM_pin t hi,putM_mu (by rw[hm.1]; exact hi)]
 rcases pin_ok h i hi with ⟨q1,q2,q3,q4⟩ | ⟨j,hj,e,_,q4⟩
 · rw[if_neg (by omega),q4 m hm]
   exact Prod.ext q1 rfl
 · rw[e,if_pos rfl]
   show putM (muL m) (j:Nat)=_
   rw[putM_mu (by rw[hm.1]; omega),q4 m hm]
theorem one_may (hb:OkSch b) (h:TabOf (multsT b.t).length (LetB b) t):mayTE (oneT b.t t (multsT b.t).length)=0:=by
 have hbm:=mayTE_may hb.may;unfold oneT;rw[putV_nil hbm]
 refine mayTE_of hb.may (turn_may hbm (fun n _ u h=>by cases h) fun v hv=>?_) (turn_nodes _ hbm)
 obtain⟨i,hi,rfl⟩:=hb.of_mu hv;rw[putM_pin t hi]
 rcases pin_ok h i hi with ⟨q1,q2,q3,q4⟩ | ⟨j,hj,e,_,q4⟩
 · rw[q1]
   exact isB_lc ⟨q2,q3⟩
 · rw[e]
   have:=allM_nonneg hbm _ hv;unfold isB;simp;omega
theorem one_good (hb:OkSch b) (h:TabOf (multsT b.t).length (LetB b) t):GoodT (multsT b.t).length t (oneT b.t t (multsT b.t).length):=by
 have hbm:=mayTE_may hb.may;have ho:=mayTE_may (one_may hb h);refine⟨ho,fun v hv=>?_⟩;unfold oneT at hv ho;rw[putV_nil hbm] at hv ho;obtain⟨v',hv',e⟩:=allM_turn hbm ho v hv;obtain⟨i,hi,rfl⟩:=hb.of_mu hv';rw[putM_pin t hi] at e
 rcases pin_ok h i hi with ⟨q1,q2,q3,q4⟩ | ⟨j,hj,e',hr,q4⟩
 · rw[e] at q2
   have q2:(1:Int)≤0:=q2;omega
 · rw[e'] at e
   injection e with e1 _
   exact⟨j,by omega,e1.symm,hr⟩
theorem good_at {K:Nat} {fv:Int→Option TyD} {fm:Int→Int × Int} {x:TyD} (hx:mayT x=true) (h:GoodT K t (turnT fv fm x)):∀ v∈allM x,GoodM K t (fm v):=by
 revert hx h
 induction x using ty_ind with
 | h x ih=>
   intro hx h v hv;have fx:=may_facts hx
   by_cases hk:x.k=1
   · rw[may_var hx hk,allM_plainV] at hv
     cases hv
   · rw[turnT_eq,if_neg hk] at h
     rcases allM_mem hx hv with ⟨h7,hc,rfl⟩ | ⟨y,hy,hv⟩
     · have hb:=may_mu h.1
       change isB (if x.k=7∧x.c=0 then (fm x.v).2 else x.c) (if x.k=7∧x.c=0 then (fm x.v).1 else x.v)=true at hb
       rw[if_pos ⟨h7,hc⟩,if_pos ⟨h7,hc⟩] at hb
       by_cases h0:(fm x.v).2=0
       · obtain⟨j,hj,e,hr⟩:=h.2 (fm x.v).1 (by
          have:=allM_own h.1 (show(TyD.mk _ _ _ _ _).k=7 from h7) (by show(if x.k=7∧x.c=0 then (fm x.v).2 else x.c)=0; rw[if_pos ⟨h7,hc⟩]; exact h0)
          have e:(if x.k=7∧x.c=0 then (fm x.v).1 else x.v)=(fm x.v).1:=if_pos ⟨h7,hc⟩;rw[← e];have e2:(if x.k=7∧x.c=0 then (if x.k=7∧x.c=0 then (fm x.v).1 else x.v) else x.v)=(if x.k=7∧x.c=0 then (fm x.v).1 else x.v):=if_pos ⟨h7,hc⟩;rw[e2]
          exact this)
         exact .inr ⟨j,hj,Prod.ext e h0,hr⟩
       · left
         unfold isB oneB at hb;simp only[Bool.or_eq_true,Bool.and_eq_true,beq_iff_eq,decide_eq_true_eq] at hb;omega
     · exact ih y hy (fx.2.2.2.2.2.2 y hy) ⟨(may_facts h.1).2.2.2.2.2.2 _ (List.mem_map.2 ⟨y,hy,rfl⟩),fun v hv=>h.2 v (allM_kid h.1 (List.mem_map.2 ⟨y,hy,rfl⟩) hv)⟩ v hv
theorem more_match (ha:OkSch a) (hb:OkSch b) (h:TabOf (multsT b.t).length (LetB b) t) (hne:∃ m,LetB b m) (hall:∀ m,LetB b m→InstE a (atM b.t m)):(putsE a (oneT b.t t (multsT b.t).length)).1=true:=by
 have hF:=good_fam h hne (fun m hm=>hm.1)
 have hc:∀ m : { m:List Int // LetB b m },∃ q:(Int→Option TyD) × (Int→Int × Int),turnT q.1 q.2 a.t=atM (oneT b.t t (multsT b.t).length) m.1:=fun m=>by
  obtain⟨_,fv,fm,e,_⟩:=(inst_iff ha).1 (hall m.1 m.2)
  exact⟨(fv,fm),by rw[e,one_atM hb h m.2]⟩
 obtain⟨q,hq⟩:=Classical.axiomOfChoice hc;exact(match_fam (fv:=fun m=>(q m).1) (fm:=fun m=>(q m).2) hF (mayTE_may ha.may) (one_good hb h) hq).1
theorem more_at (ha:OkSch a) (hb:OkSch b) (h:TabOf (multsT b.t).length (LetB b) t) (hok:(putsE a (oneT b.t t (multsT b.t).length)).1=true) {m:List Int} (hm:LetB b m):
 InstE a (atM b.t m)↔LetsA (multsT a.t).length a.tab (ofM (multsT a.t).length (putsE a (oneT b.t t (multsT b.t).length)).2.fm m):=by
 have ham:=mayTE_may ha.may;have hk:=(match_made ham (mayTE_may (one_may hb h)) hok).turn;have hmay:=atM_may hb hm
 have ht:turnT (fun n=>match (putsE a (oneT b.t t (multsT b.t).length)).2.types n with
  | some u=>some (turnT (fun _=>none) (putM (muL m)) u)
  | none=>none) (fun v=>if ((putsE a (oneT b.t t (multsT b.t).length)).2.fm v).2=0 then putM (muL m) ((putsE a (oneT b.t t (multsT b.t).length)).2.fm v).1 else (putsE a (oneT b.t t (multsT b.t).length)).2.fm v) a.t=atM b.t m:=by
  rw[← one_atM hb h hm];unfold atM;refine(turn_turn _ (fun _=>none) _ (putM (muL m)) a.t).symm.trans ?_;exact congrArg _ hk
 obtain⟨e1,_,e3⟩:=puts_of ha (mayTE_may hmay) ht;unfold InstE;rw[e3];exact⟨fun hh=>hh.2.2,fun hh=>⟨hmay,e1,hh⟩⟩
theorem lets_own {k:Nat} {t:TabD} (hok:OkTab k t) {f:List Int} (hf:InR k f):LetsA k t f↔∀ x∈ownE t k,holdL f x:=by
 have hs:=own_sol hok.rng (f:=f)
 constructor
 · intro hl
   exact(hs.2 ⟨hf,hl.2.2⟩).2
 · intro hh
   exact⟨hf.1,noneB_no fun i hi=>hf.2 i (by rw[← hf.1]; exact hi),(hs.1 ⟨hf,hh⟩).2⟩
theorem own_idx {k:Nat} {t:TabD} (hok:OkTab k t):∀ x∈ownE t k,(x.lc=0→0≤x.lv∧x.lv<(k:Int))∧x.r<(k:Int)∧1≤x.c ∧ -1≤x.r:=fun x hx=>by
 obtain⟨i,hi,hx⟩:=mem_own.1 hx
 rcases hx with hx | hx | ⟨j,hj,hx⟩
 · obtain⟨hc,rfl⟩:=mem_lowQ.1 hx
   exact⟨fun h=>by have h:t.low.getD i 0=0:=h; omega,by show(i:Int)<k; omega,Int.le_refl 1,by show(-1:Int)≤i; omega⟩
 · obtain⟨hc,rfl⟩:=mem_upQ.1 hx
   have:=hok.rng.up i hi
   exact⟨fun _=>⟨by show(0:Int)≤i; omega,by show(i:Int)<k; omega⟩,by show(-1:Int)<k; omega,this.1,Int.le_refl (-1)⟩
 · obtain⟨hc,rfl⟩:=mem_pairQ.1 hx
   have:=hok.rng.pair i j hi hj
   exact⟨fun _=>⟨by show(0:Int)≤i; omega,by show(i:Int)<k; omega⟩,by show(j:Int)<k; omega,this.1,by show(-1:Int)≤j; omega⟩
theorem more_iff (ha:OkSch a) (hb:OkSch b) (h:TabOf (multsT b.t).length (LetB b) t) (hne:∃ m,LetB b m):
 MoreE a b↔(putsE a (oneT b.t t (multsT b.t).length)).1=true∧∀ x∈ownE a.tab (multsT a.t).length,sureB t (subQ (putsE a (oneT b.t t (multsT b.t).length)).2.fm x)=true:=by
 have hgood:(putsE a (oneT b.t t (multsT b.t).length)).1=true→∀ i:Nat,i<(multsT a.t).length→GoodM (multsT b.t).length t ((putsE a (oneT b.t t (multsT b.t).length)).2.fm (i:Nat)):=fun hok i hi=>by
  have hk:=(match_made (mayTE_may ha.may) (mayTE_may (one_may hb h)) hok).turn
  exact good_at (fv:=(putsE a (oneT b.t t (multsT b.t).length)).2.types) (mayTE_may ha.may) (by unfold putsE; rw[hk]; exact one_good hb h) _ (ha.mu_ hi)
 have hin:(putsE a (oneT b.t t (multsT b.t).length)).1=true→∀ m,LetB b m→InR (multsT a.t).length (ofM (multsT a.t).length (putsE a (oneT b.t t (multsT b.t).length)).2.fm m):=fun hok m hm=>by
  refine⟨by unfold ofM; simp,fun i hi=>?_⟩
  rw[ofM_at hi]
  rcases hgood hok i hi with ⟨g1,g2,g3⟩ | ⟨j,hj,e,_⟩
  · rw[nu_const g2]; exact⟨g2,g3⟩
  · rw[e,nu_var (by rw[hm.1]; exact hj)]
    exact lets_at hm hj
 have hsub:(putsE a (oneT b.t t (multsT b.t).length)).1=true→∀ x∈ownE a.tab (multsT a.t).length,(sureB t (subQ (putsE a (oneT b.t t (multsT b.t).length)).2.fm x)=true↔∀ m,LetB b m→holdL (ofM (multsT a.t).length (putsE a (oneT b.t t (multsT b.t).length)).2.fm m) x):=fun hok x hx=>by
  obtain⟨i1,i2,i3,i4⟩:=own_idx ha.tab x hx
  have hgz:∀ z:Int,0≤z→z<((multsT a.t).length:Int)→GoodM (multsT b.t).length t ((putsE a (oneT b.t t (multsT b.t).length)).2.fm z):=fun z z0 z1=>by
   have:=hgood hok z.toNat (by omega)
   rwa [show((z.toNat:Nat):Int)=z from Int.toNat_of_nonneg z0] at this
  rw[sure_iff h hne ?_ ?_ ?_]
  · exact⟨fun hh m hm=>(sub_hold (hgood hok) hm.1 i1 i2).2 (hh m hm),fun hh m hm=>(sub_hold (hgood hok) hm.1 i1 i2).1 (hh m hm)⟩
  · show(subL _ x).2=0→0≤(subL _ x).1∧(subL _ x).1<_
    unfold subL
    by_cases hc:x.lc=0
    · rw[if_pos hc]
      obtain⟨l0,l1⟩:=i1 hc;intro hz
      rcases hgz _ l0 l1 with ⟨_,g2,_⟩ | ⟨j,hj,e,_⟩
      · omega
      · rw[e]; exact⟨Int.natCast_nonneg _,by show(j:Int)<_; omega⟩
    · rw[if_neg hc]
      intro hz;exact absurd hz hc
  · show(subR _ x).2<_
    unfold subR
    by_cases hr:0≤x.r
    · rw[if_pos hr]
      rcases hgz _ hr i2 with ⟨_,g2,_⟩ | ⟨j,hj,e,_⟩
      · rw[if_neg (by omega)]
        show(-1:Int)<_;omega
      · rw[e,if_pos rfl]
        show(j:Int)<_;omega
    · rw[if_neg hr]
      show x.r<_;omega
  · show 1≤(subR _ x).1
    unfold subR
    split
    · split
      · exact i3
      · show 1≤max x.c _
        omega
    · exact i3
 constructor
 · intro hM
   have hok:=more_match ha hb h hne hM.all;refine⟨hok,fun x hx=>(hsub hok x hx).2 fun m hm=>?_⟩;exact(lets_own ha.tab (hin hok m hm)).1 ((more_at ha hb h hok hm).1 (hM.all m hm)) x hx
 · rintro⟨hok,hall⟩
   refine⟨ha,hb,fun m hm=>?_⟩;exact(more_at ha hb h hok hm).2 ((lets_own ha.tab (hin hok m hm)).2 fun x hx=>(hsub hok x hx).1 (hall x hx) m hm)
theorem more_none (ha:OkSch a) (hb:OkSch b) (hno:∀ m,¬ LetB b m):MoreE a b:=⟨ha,hb,fun m hm=>absurd hm (hno m)⟩
end
end Go.Proofs.YtdmakpmbknindaaGreatDoor
