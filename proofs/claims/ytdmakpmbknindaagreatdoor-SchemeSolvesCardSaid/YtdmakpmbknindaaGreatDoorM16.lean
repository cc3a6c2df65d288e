import Derived.Test.YtdmakpmbknindaaGreatDoorM15
set_option linter.unusedVariables false
set_option linter.unusedSimpArgs false
set_option maxHeartbeats 4000000
set_option maxRecDepth 100000
namespace Go.Proofs.YtdmakpmbknindaaGreatDoor
open Go.RowKit
theorem rd_blkK {w:World} {g K:Nat} {t:TypeId} {k:IntKind} {us:List Int} (h:Blk w g t (us.map (Value.int k)).toArray) (hl:us.length=K) (hK:K≤maxLen):RdI k w w.heap.size (some ⟨g,0,none⟩) K K us:=
 (show RowC w g t k us from⟨_,h,by simp,fun i hi=>by simp[hi]⟩).rd hl (Nat.le_refl _) hK
theorem may_cg {x:IneqD} {n:Int} (h:mayL x n=true):1≤x.c∧x.c≤3:=by
 unfold mayL mayX mayQ at h;simp only[Bool.and_eq_true,decide_eq_true_eq] at h;exact⟨h.1.1.1.1.1.2,h.1.1.1.1.2⟩
theorem OkS.well {N:Nat} {low:List Int} {xs:List IneqD} (h:OkS (N:Int) low xs):WellE N xs:=fun x hx=>⟨OverL.of_may (h.may x hx),(may_cg (h.may x hx)).1⟩
theorem low0_nil (N:Nat):low0 (N:Int) []=List.replicate N 1:=by simp[low0]
theorem SolE.solv1 {N:Nat} {xs:List IneqD} {f:List Int} (h:SolE N xs f):SolvL xs (low0 (N:Int) []) f:=by
 rw[low0_nil]
 exact h.solv (by simp) fun v hv=>by rw[ones_at hv]; exact(h.1.2 v hv).1
structure TableR (N:Nat) (xs:List IneqD) (keep:List Int) (t:TabD):Prop where
 n20:N≤1048576
 l20:xs.length≤1048576
 few:keep.length≤150
 ok:OkS (N:Int) [] xs
 keeps:KeepOk (N:Int) keep
 ex:∃ low,SolE N xs low∧(∀ g,SolE N xs g→∀ v,v<N→low.getD v 0≤g.getD v 0)∧ProjE N xs low (keep.map Int.toNat) t
section
variable {N:Nat} {n:Int} {xs:List IneqD} {keep:List Int} {t:TabD} {er:Int}
theorem ProjR.table (h:ProjR n xs keep t er) (he:er=0):∃ N:Nat,n=(N:Int)∧TableR N xs keep t:=by
 rcases h with ⟨_,_,e⟩ | ⟨hk,a,core,e1,hS,h⟩
 · omega
 · rcases h with ⟨h1,_,e⟩ | ⟨_,_,_,e⟩ | ⟨h1,hok,_,hp⟩
   · omega
   · omega
   · obtain⟨h2,h3,h4,h5,_⟩:=hS.zero h1
     obtain⟨N,rfl⟩:∃ N:Nat,n=(N:Int):=⟨n.toNat,(Int.toNat_of_nonneg h4.n0).symm⟩;rw[low0_nil] at h5;obtain⟨q1,q2⟩:=least_ones h4.well h5
     exact⟨N,rfl,by omega,h3,hk,h4,hok,a,q1,q2,by rw[Int.toNat_natCast] at hp; exact hp⟩
theorem ProjR.yes (h:ProjR (N:Int) xs keep t er) (hn:N≤1048576) (hl:xs.length≤1048576) (hok:OkS (N:Int) [] xs) (hk:keep.length≤150) {f:List Int} (hf:SolE N xs f) (hkeep:KeepOk (N:Int) keep):er=0:=by
 rcases h with ⟨h,_,_⟩ | ⟨_,a,core,e1,hS,h⟩
 · omega
 · have h0:=(hS.solv hn hl hok hf.solv1).1
   rcases h with ⟨h1,_,e⟩ | ⟨_,h2,_,e⟩ | ⟨h1,_,e,_⟩
   · omega
   · exact absurd hkeep h2
   · exact e
theorem TableR.nat (h:TableR N xs keep t):∀ v∈keep.map Int.toNat,v<N:=fun v hv=>by
 obtain⟨z,hz,rfl⟩:=List.mem_map.1 hv;have:=h.keeps.1 z hz;omega
theorem TableR.tab (h:TableR N xs keep t):TabOf keep.length (KeptE N xs (keep.map Int.toNat)) t:=by
 obtain⟨low,h1,h2,h3⟩:=h.ex;have:=proj_tab h.ok.well h1 h2 h.nat h3;rwa [List.length_map] at this
theorem TableR.ok_ (h:TableR N xs keep t):OkTab keep.length t:=h.tab.ok h.few
theorem ProjR.none (h:ProjR (N:Int) xs keep t er) (hn:N≤1048576) (hl:xs.length≤1048576) (hok:OkS (N:Int) [] xs) (hk:keep.length≤150) (hno:∀ f,SolE N xs f→False):er=40∧t=emptyT:=by
 rcases h with ⟨h,_,_⟩ | ⟨_,a,core,e1,hS,h⟩
 · omega
 · have h0:e1=40:=by
    refine(hS.none hn hl hok fun b hb=>?_).1;rw[low0_nil] at hb
    obtain⟨g,hg,_⟩:=hb.cut hok.well (by simp) (fun v hv=>by rw[ones_at hv]; exact Int.le_refl _)
    exact hno g hg
   rcases h with ⟨h1,e2,e⟩ | ⟨h1,_⟩ | ⟨h1,_⟩
   · exact⟨by omega,e2⟩
   · omega
   · omega
theorem ProjR.bad (h:ProjR (N:Int) xs keep t er) (hn:N≤1048576) (hl:xs.length≤1048576) (hok:OkS (N:Int) [] xs) (hk:keep.length≤150) {f:List Int} (hf:SolE N xs f) (hkeep:¬ KeepOk (N:Int) keep):er=2∧t=emptyT:=by
 rcases h with ⟨h,_,_⟩ | ⟨_,a,core,e1,hS,h⟩
 · omega
 · have h0:=(hS.solv hn hl hok hf.solv1).1
   rcases h with ⟨h1,_,e⟩ | ⟨_,h2,e1,e⟩ | ⟨h1,h2,e,_⟩
   · omega
   · exact⟨e,e1⟩
   · exact absurd h2 hkeep
end
theorem rd_two (w:World) (k:IntKind) (t:TypeId) (a b:Int):RdI k (w.alloc (Obj.cells #[.int k a,.int k b] t)) (w.alloc (Obj.cells #[.int k a,.int k b] t)).heap.size (some ⟨w.heap.size,0,none⟩) 2 2 [a,b]:=
 rd_blkK (us:=[a,b]) (blk_new w _ _) rfl (by unfold maxLen; omega)
theorem map_getD {α:Type} {kn:List Nat} {f:Nat→α} {k:Nat} {d:α} (h:k<kn.length):(kn.map f).getD k d=f (kn.getD k 0):=by
 rw[List.getD_eq_getElem?_getD,List.getElem?_map,qj h,List.getD_eq_getElem?_getD,qj h];rfl
theorem free_len (kn:List Nat) (a:List Int):(freeE kn a).length=kn.length:=by simp[freeE]
theorem free_take {kn:List Nat} {a:List Int} {k:Nat} (h:k<kn.length):(freeE kn a).take (k+1)=(freeE kn a).take k++[⟨((kn.getD k 0:Nat):Int),0,a.getD k 0, -1⟩]:=by
 rw[List.take_succ_eq_append_getElem (by rw[free_len]; exact h)]
 simp[freeE]
theorem may_free {v N:Nat} {m:Int} (hv:v<N) (hN:N≤1000) (h1:1≤m) (h3:m≤3):mayL ⟨(v:Int),0,m, -1⟩ (N:Int)=true:=by
 have e1:isB 0 (v:Int)=true:=by unfold isB; simp; omega
 unfold mayL mayX mayQ;simp only[e1,Bool.and_eq_true,Bool.or_eq_true,decide_eq_true_eq,bne_iff_ne,ne_eq]
 exact⟨⟨⟨⟨⟨⟨trivial,h1⟩,h3⟩,by omega⟩,by omega⟩,.inr (by omega)⟩,by omega⟩
theorem blk_set {w:World} {g:Nat} {t:TypeId} {k:IntKind} {us:List Int} (h:Blk w g t (us.map (Value.int k)).toArray) (i:Nat) (u:Int):Blk (w.setCell ⟨g,i,none⟩ (.int k u)) g t ((us.set i u).map (Value.int k)).toArray:=by
 have:=h.set_ i (.int k u);rwa [qd,← List.map_set] at this
theorem setE_rng {N:Nat} {kn:List Nat} {a:List Int} (ha:∀ i,i<a.length→1≤a.getD i 0∧a.getD i 0≤3):∀ k,k≤a.length→∀ z∈setE (List.replicate N 1) kn a k,1≤z∧z≤3
 | 0,_,z,hz=>by rw[setE] at hz; rw[List.eq_of_mem_replicate hz]; omega
 | k+1,hk,z,hz=>by
   rw[setE] at hz
   rcases List.mem_or_eq_of_mem_set hz with h | h
   · exact setE_rng ha k (by omega) z h
   · rw[h]; exact ha k (by omega)
def lowQ (i:Nat) (c:Int):List IneqD:=if 1<c then [⟨0,c,1,(i:Nat)⟩] else []
def upQ (i:Nat) (c:Int):List IneqD:=if c=3 then [] else [⟨(i:Nat),0,c, -1⟩]
def pairQ (i k:Nat) (c:Int):List IneqD:=if c=3∨i=k then [] else [⟨(i:Nat),0,c,(k:Nat)⟩]
def rowE (t:TabD) (K i:Nat):List IneqD:=lowQ i (t.low.getD i 0)++upQ i (t.up.getD i 0)++(List.range K).flatMap fun k=>pairQ i k (pairE t i k)
def ownE (t:TabD) (K:Nat):List IneqD:=(List.range K).flatMap (rowE t K)
theorem flatMap_len {α:Type} {f:Nat→List α} {m:Nat} (h:∀ i,(f i).length≤m):∀ K,((List.range K).flatMap f).length≤K * m
 | 0=>by simp
 | K+1=>by
   rw[List.range_succ,List.flatMap_append,List.length_append];have:=flatMap_len h K;have:=h K;simp only[List.flatMap_cons,List.flatMap_nil,List.append_nil];rw[Nat.succ_mul];omega
theorem lowQ_len (i:Nat) (c:Int):(lowQ i c).length≤1:=by unfold lowQ; split <;> simp
theorem upQ_len (i:Nat) (c:Int):(upQ i c).length≤1:=by unfold upQ; split <;> simp
theorem pairQ_len (i k:Nat) (c:Int):(pairQ i k c).length≤1:=by unfold pairQ; split <;> simp
theorem rowE_len (t:TabD) (K i:Nat):(rowE t K i).length≤K+2:=by
 unfold rowE;have h1:=lowQ_len i (t.low.getD i 0);have h2:=upQ_len i (t.up.getD i 0);have h3:=flatMap_len (f:=fun k=>pairQ i k (pairE t i k)) (m:=1) (fun k=>pairQ_len i k _) K;rw[List.length_append,List.length_append];omega
theorem mem_own {t:TabD} {K:Nat} {x:IneqD}:x∈ownE t K↔∃ i,i<K∧(x∈lowQ i (t.low.getD i 0)∨x∈upQ i (t.up.getD i 0)∨∃ k,k<K∧x∈pairQ i k (pairE t i k)):=by
 unfold ownE rowE;simp only[List.mem_flatMap,List.mem_range,List.mem_append,or_assoc]
theorem mem_lowQ {i:Nat} {c:Int} {x:IneqD}:x∈lowQ i c↔1<c∧x=⟨0,c,1,(i:Nat)⟩:=by
 unfold lowQ
 split <;> rename_i h
 · rw[List.mem_singleton]
   exact⟨fun e=>⟨h,e⟩,fun e=>e.2⟩
 · exact⟨fun e=>absurd e (by simp),fun e=>absurd e.1 h⟩
theorem mem_upQ {i:Nat} {c:Int} {x:IneqD}:x∈upQ i c↔c≠3∧x=⟨(i:Nat),0,c, -1⟩:=by unfold upQ; split <;> simp_all
theorem mem_pairQ {i k:Nat} {c:Int} {x:IneqD}:x∈pairQ i k c↔(c≠3∧i≠k)∧x=⟨(i:Nat),0,c,(k:Nat)⟩:=by
 unfold pairQ
 split <;> rename_i h
 · simp only[List.not_mem_nil,false_iff]
   rintro⟨⟨h1,h2⟩,_⟩
   rcases h with h | h
   · exact h1 h
   · exact h2 h
 · simp only[List.mem_singleton]
   exact⟨fun e=>⟨⟨fun e2=>h (.inl e2),fun e2=>h (.inr e2)⟩,e⟩,fun e=>e.2⟩
structure RngT (K:Nat) (t:TabD):Prop where
 low:∀ i,i<K→1≤t.low.getD i 0∧t.low.getD i 0≤3
 up:∀ i,i<K→1≤t.up.getD i 0∧t.up.getD i 0≤3
 pair:∀ i j,i<K→j<K→1≤pairE t i j∧pairE t i j≤3
theorem isB_one {c:Int} (h:1≤c∧c≤3):isB c 0=true:=by
 unfold isB oneB;simp only[Bool.or_eq_true,Bool.and_eq_true,decide_eq_true_eq,beq_iff_eq];exact .inr ⟨h,trivial⟩
theorem own_sol {t:TabD} {K:Nat} (h:RngT K t) {f:List Int}:SolE K (ownE t K) f↔InR K f∧LetsE K t f:=by
 constructor
 · rintro⟨hr,hs⟩
   refine⟨hr,fun i hi=>⟨?_,?_,fun j hj=>?_⟩⟩
   · by_cases hc:1<t.low.getD i 0
     · have:=hs _ (mem_own.2 ⟨i,hi,.inl (mem_lowQ.2 ⟨hc,rfl⟩)⟩)
       unfold holdL leftL at this;simp only at this;rw[if_neg (by omega),if_pos (by omega),Int.toNat_natCast] at this;have:=(hr.2 i hi).1;omega
     · have:=(hr.2 i hi).1
       omega
   · by_cases hc:t.up.getD i 0=3
     · have:=(hr.2 i hi).2
       omega
     · exact hold_var (u:=i) (hs _ (mem_own.2 ⟨i,hi,.inr (.inl (mem_upQ.2 ⟨hc,rfl⟩))⟩)) rfl rfl
   · by_cases hc:pairE t i j=3
     · have:=(hr.2 i hi).2
       omega
     · by_cases hij:i=j
       · subst hij
         omega
       · have:=hold_var (u:=i) (hs _ (mem_own.2 ⟨i,hi,.inr (.inr ⟨j,hj,mem_pairQ.2 ⟨⟨hc,hij⟩,rfl⟩⟩)⟩)) rfl rfl
         simp only at this;rw[if_pos (by omega),Int.toNat_natCast] at this;exact this
 · rintro⟨hr,hl⟩
   refine⟨hr,fun x hx=>?_⟩;obtain⟨i,hi,hx⟩:=mem_own.1 hx;obtain⟨l1,l2,l3⟩:=hl i hi
   rcases hx with hx | hx | ⟨k,hk,hx⟩
   · obtain⟨hc,rfl⟩:=mem_lowQ.1 hx
     unfold holdL leftL;simp only;rw[if_neg (by omega),if_pos (by omega),Int.toNat_natCast];omega
   · obtain⟨hc,rfl⟩:=mem_upQ.1 hx
     exact hold_of (u:=i) rfl rfl l2
   · obtain⟨⟨hc,hik⟩,rfl⟩:=mem_pairQ.1 hx
     refine hold_of (u:=i) rfl rfl ?_;simp only;rw[if_pos (by omega),Int.toNat_natCast];exact l3 k hk
theorem range_map {K:Nat} {f:List Int} (h:f.length=K):(List.range K).map (fun v=>f.getD v 0)=f:=by
 refine List.ext_getElem (by simp[h]) fun i h1 h2=>?_;rw[List.getElem_map,List.getElem_range,getE_at h2]
theorem own_kept {t:TabD} {K:Nat} (h:RngT K t) {a:List Int}:KeptE K (ownE t K) (List.range K) a↔InR K a∧LetsE K t a:=by
 constructor
 · rintro⟨f,hf,rfl⟩
   rw[range_map hf.1.1];exact(own_sol h).1 hf
 · intro ha
   exact⟨a,(own_sol h).2 ha,(range_map ha.1.1).symm⟩
section
variable {N:Nat} {n:Int} {xs:List IneqD} {keep:List Int} {t u:TabD} {er:Int}
theorem TableR.rng (h:TableR N xs keep t):RngT keep.length t:=⟨h.tab.rl,h.tab.ru,h.tab.rp⟩
theorem kept_inR {kn:List Nat} (hk:∀ v∈kn,v<N) {a:List Int} (h:KeptE N xs kn a):InR kn.length a:=by
 obtain⟨f,hf,rfl⟩:=h
 refine⟨by simp,fun v hv=>?_⟩
 rw[kept_at hv];exact hf.1.2 _ (hk _ (List.getElem_mem hv))
theorem TableR.exact (h:TableR N xs keep t) {a:List Int} (hr:InR keep.length a) (ha:LetsE keep.length t a):KeptE N xs (keep.map Int.toNat) a:=by
 obtain⟨low,h1,h2,h3⟩:=h.ex;have hl:(keep.map Int.toNat).length=keep.length:=List.length_map _
 exact proj_exact h.ok.well h1 h.nat h3 (by rw[hr.1,hl]) (by rw[hl]; exact ha) fun i hi=>(hr.2 i (by rw[← hl]; exact hi)).1
theorem TableR.iff (h:TableR N xs keep t) (a:List Int):KeptE N xs (keep.map Int.toNat) a↔KeptE keep.length (ownE t keep.length) (List.range keep.length) a:=by
 rw[own_kept h.rng]
 constructor
 · intro ha
   have:=kept_inR h.nat ha;rw[List.length_map] at this;exact⟨this,h.tab.lets a ha⟩
 · intro ha
   exact h.exact ha.1 ha.2
end
theorem fits_low {i:Nat} {c:Int} (h:1≤c):fitsQ ⟨false,c,[]⟩ 1 (i:Nat) 0=lowQ i c:=by
 have e:max (1:Int) 0=1:=by omega
 unfold fitsQ fitsQL leastT putsV putQ putsQ lowQ;rw[e];simp only[Bool.false_eq_true,if_false,List.flatMap_nil,List.append_nil,if_true]
 by_cases h1:1<c
 · have:c≠0:=by omega
   simp[h1,this]
 · obtain rfl:c=1:=by omega
   simp
theorem fits_up {i:Nat} {c:Int} (h:1≤c∧c≤3):fitsQ ⟨false,1,[(i:Int)]⟩ 1 0 c=upQ i c:=by
 have e:max 1 c=c:=by omega
 have e2:c≠0:=by omega
 unfold fitsQ fitsQL leastT putsV putQ putsQ upQ;rw[e,if_neg e2]
 have h2:¬ c<1:=by omega
 have h3:((i:Int) == -1)=false:=by simp
 by_cases h1:c=3
 · subst h1; simp
 · simp[h1,h2,h3]
theorem fits_pair {i k:Nat} {c:Int} (h:1≤c∧c≤3):fitsQ ⟨false,1,[(i:Int)]⟩ c (k:Nat) 0=pairQ i k c:=by
 have e:max c 0=c:=by omega
 have h2:¬ c<1:=by omega
 unfold fitsQ fitsQL leastT putsV putQ putsQ pairQ;rw[e]
 by_cases h1:c=3
 · subst h1; simp
 · by_cases h3:i=k
   · subst h3; simp[h2]
   · have h4:((i:Int)==(k:Int))=false:=by simp; omega
     have h5:¬ (i:Int)=(k:Int):=by omega
     simp[h1,h2,h3,h5]
theorem fitsB_low {i:Nat} {c:Int} (h:1≤c∧c≤3) (hi:i<1000):fitsB ⟨false,c,[]⟩ 1 (i:Nat) 0=true:=by
 have e1:isB 0 (i:Int)=true:=by unfold isB; simp; omega
 have e2:oneB c=true:=by unfold oneB; simp; omega
 unfold fitsB mayB;simp[e1,e2,varsB]
theorem mayB_self {i:Nat} (hi:i<1000):mayB ⟨false,1,[(i:Int)]⟩=true:=by
 have e2:oneB 1=true:=by decide
 unfold mayB;simp[e2,varsB,varB];omega
theorem fitsB_up {i:Nat} {c:Int} (h:1≤c∧c≤3) (hi:i<1000):fitsB ⟨false,1,[(i:Int)]⟩ 1 0 c=true:=by
 have e1:isB c 0=true:=isB_one h;unfold fitsB;simp[e1,mayB_self hi]
theorem fitsB_pair {i k:Nat} {c:Int} (h:1≤c∧c≤3) (hi:i<1000) (hk:k<1000):fitsB ⟨false,1,[(i:Int)]⟩ c (k:Nat) 0=true:=by
 have e1:isB 0 (k:Int)=true:=by unfold isB; simp; omega
 unfold fitsB;simp[e1,mayB_self hi];omega
structure Grew2 (p:Nat) (v v':Value) (w w':World):Prop where
 os:w'.os=w.os
 tape:w'.tape=w.tape
 output:w'.output=w.output
 size:w.heap.size≤w'.heap.size
 block:∀ b,b<w.heap.size→b≠p→v.ownBlock≠some b→w'.heap[b]?=w.heap[b]?
 own:v'.ownBlock=v.ownBlock∨∀ b,v'.ownBlock=some b→w.heap.size≤b
section
variable {p:Nat} {v v':Value} {w w':World}
theorem Grew2.below {B0:Nat} (h:Grew2 p v v' w w') (hp:B0≤p) (hv:∀ b,v.ownBlock=some b→B0≤b) (hs:B0≤w.heap.size):Below B0 w w':=
 ⟨h.os,h.tape,h.output,h.size,fun k hk=>h.block k (by omega) (by omega) fun e=>by have:=hv k e; omega⟩
theorem Grew2.blk {s:Nat} {t:TypeId} {cs:Array Value} (h:Grew2 p v v' w w') (hk:Blk w s t cs) (hne:s≠p) (hv:v.ownBlock≠some s):Blk w' s t cs:=(h.block s hk.lt hne hv).trans hk
theorem Grew2.ne {s:Nat} (h:Grew2 p v v' w w') (hs:s<w.heap.size) (hv:v.ownBlock≠some s):v'.ownBlock≠some s:=fun e=>by
 rcases h.own with q | q
 · exact hv (q ▸ e)
 · have:=q s e; omega
end
def OutM (w:World) (p B:Nat) (v:Value) (xs:List IneqD):Prop:=
 (∃ A cap,v=.slice A xs.length cap)∧Blk w p 28 #[v]∧w.ownsRow B 70 4 v xs.length (cellsQ xs)
theorem OutM.fresh {w w':World} {p B:Nat} {v:Value} {xs:List IneqD} (h:OutM w p B v xs) (hb:Below w.heap.size w w'):OutM w' p B v xs:=
 ⟨h.1,h.2.1.below hb h.2.1.lt,ownsRow_beyond h.2.2 hb⟩
theorem put5_any (tv:Value) (t:TermD) (g mv mc:Int) (p B:Nat) (v:Value) (xs:List IneqD) (w:World) (hv:TermV w w.heap.size tv t) (h:fitsB t g mv mc=true) (hbig:t.vars.length≤1000) (ho:OutM w p B v xs) (hp:p<B) (hB:B≤w.heap.size) (hxl:xs.length≤1000000) (hfl:(fitsQ t g mv mc).length≤1000):
 Calls Tryz.prog 134 #[tv,.int .u8 g,.agg #[.int .i64 mv,.int .u8 mc],.pointer (some ⟨p,0,none⟩)] w fun e w'=>e=.returned (.tuple #[])∧∃ v',OutM w' p B v' (xs++fitsQ t g mv mc)∧Grew2 p v v' w w':=by
 obtain⟨i0,hi0,hz0,hz1,hz2⟩:=info_parts ineqInfoP;obtain⟨At,nt,ct,rfl,hr⟩:=hv;obtain⟨⟨A,cap,rfl⟩,hk,how⟩:=ho;have hba:=below_box (w:=w) (Obj.cells #[.bool t.never,.int .u8 t.c,.slice At nt ct] 180)
 have hsa:(w.alloc (Obj.cells #[.bool t.never,.int .u8 t.c,.slice At nt ct] 180)).heap.size=w.heap.size+1:=by simp
 have hbb:=hba.trans ((below_box (w:=w.alloc (Obj.cells #[.bool t.never,.int .u8 t.c,.slice At nt ct] 180)) (Obj.cells #[.int .i64 mv,.int .u8 mc] 24)).mono hba.size);have hka:=(blk_new w #[.bool t.never,.int .u8 t.c,.slice At nt ct] 180).alloc (Obj.cells #[.int .i64 mv,.int .u8 mc] 24);have hkb:=blk_new (w.alloc (Obj.cells #[.bool t.never,.int .u8 t.c,.slice At nt ct] 180)) #[.int .i64 mv,.int .u8 mc] 24;rw[hsa] at hkb;obtain⟨w2,hw2⟩:∃ x,(w.alloc (Obj.cells #[.bool t.never,.int .u8 t.c,.slice At nt ct] 180)).alloc (Obj.cells #[.int .i64 mv,.int .u8 mc] 24)=x:=⟨_,rfl⟩;rw[hw2] at hbb hka hkb;have Hw2:=qq hw2;have Hbb:=qq hbb;have Hk2:=qq (hk.below hbb hk.lt);have Ho2:=qq (ownsRow_beyond how hbb);have Hr2:=qq ((hr.below hbb).more hbb.size);have hpB:p<w.heap.size:=hk.lt;have Hlt:Hid (∀ b,(Value.slice A xs.length cap).ownBlock=some b→B≤b∧b<w.heap.size):=qq fun b e=>ownsRow_lt how e;clear hba hsa hbb hka hkb hw2 hk how hr
 go_enter Tryz.func134,Tryz.ntmps134
 go_wp2_with fail;rw[Hw2.out];refine(fits_yes _ t g mv mc w2 w2.heap.size ⟨At,nt,ct,rfl,Hr2.out⟩ (Nat.le_refl _) h (by omega)).mono ?_;rintro e w3 ⟨Aq,nq,cq,rfl,hq,hb3⟩;have hql:=hq.len;have Hb3:=qq (Hbb.out.trans (hb3.mono Hbb.out.size));have Hk3:=qq (Hk2.out.below hb3 Hk2.out.lt);have Ho3:=qq (ownsRow_beyond Ho2.out hb3);have Hq:=qq hq;have x0:w3.cell? ⟨p,0,none⟩=some (.slice A xs.length cap):=Hk3.out.cell 0;have hs3:=Hb3.out.size;clear hq hb3
 have q1:xs.length+nq≤maxLen:=by unfold maxLen; omega
 have q2:(xs.length+nq) * 32≤140737488355328:=by omega
 have q3:B≤w3.heap.size:=by omega
 have hne7:some p≠(Value.slice A xs.length cap).ownBlock:=fun e=>by have:=(Hlt.out p e.symm).1; omega
 have Hne7:=qq hne7;have Q2:=qq q2;have Q1:=qq q1;have Q3:=qq q3;clear q1 q2 q3 hne7
 go_wp2_with (at_builtin; refine wpList_append_rd _ rfl (.tmp 16) (.tmp 17) 28 rfl B 70 i0 _ 4 32 Tryz.underlying28 hi0 hz0 hz1 hz2 rfl (by omega) (.slice A xs.length cap) xs.length (cellsQ xs) rfl Ho3.out w3.heap.size Aq nq cq (cellsQ (fitsQ t g mv mc)) rfl Hq.out.rd4 (cellsQ_one _) Q1.out Q2.out Q3.out ?_; intro v7 w7 ho7 hg7 hat7; obtain⟨A7,c7,rfl⟩:=ownsRow_form ho7; have hk7:=Hk3.out.grown hg7 Hne7.out; have x7:w7.cell? ⟨p,0,none⟩=some (.slice A xs.length cap):=hk7.cell 0; have f7:w7.frozen? ⟨p,0,none⟩=false:=hk7.frozen 0; clear x0)
 have hlen:xs.length+nq=(xs++fitsQ t g mv mc).length:=by rw[List.length_append,hql]
 rw[hlen] at ho7 hat7 ⊢
 have hown:(w7.setCell ⟨p,0,none⟩ (.slice A7 (xs++fitsQ t g mv mc).length c7)).ownsRow B 70 4 (.slice A7 (xs++fitsQ t g mv mc).length c7) (xs++fitsQ t g mv mc).length (cellsQ (xs++fitsQ t g mv mc)):=ownsRow_setCell_below (by rw[cellsQ_append]; exact ho7) (a:=⟨p,0,none⟩) hp _
 have hblk:=hk7.set_ 0 (.slice A7 (xs++fitsQ t g mv mc).length c7)
 have hgr:Grew2 p (.slice A xs.length cap) (.slice A7 (xs++fitsQ t g mv mc).length c7) w (w7.setCell ⟨p,0,none⟩ (.slice A7 (xs++fitsQ t g mv mc).length c7)):=by
  refine⟨hg7.os.trans Hb3.out.os,hg7.tape.trans Hb3.out.tape,hg7.output.trans Hb3.out.output,?_,fun b hb h1 h2=>?_,?_⟩
  · have:=hg7.size
    simp[World.setCell];omega
  · rw[Below.heap_setCell _ _ _ _ h1,hg7.block b (by omega) (fun e=>h2 e.symm),Hb3.out.block b hb]
  · rcases hat7 with e | e
    · exact .inl e
    · exact .inr fun b hb=>by rw[e] at hb; injection hb with hb; omega
 refine bodyPost_end (v:=.tuple #[]) ?_ rfl ?_
 · simp[results,Tryz.results134,go_sem]
 · exact⟨rfl,_,⟨⟨A7,c7,rfl⟩,hblk,hown⟩,hgr⟩
theorem flat_succ {α:Type} (f:Nat→List α) (k:Nat):(List.range (k+1)).flatMap f=(List.range k).flatMap f++f k:=by
 rw[List.range_succ,List.flatMap_append]; simp
theorem self_termV {W:World} {s:Nat} {i:Nat} (h:Blk W s 3 #[.int .i64 (i:Nat)]):TermV W W.heap.size (.agg #[.bool false,.int .u8 1,.slice (some ⟨s,0,none⟩) 1 1]) ⟨false,1,[(i:Int)]⟩:=
 ⟨some ⟨s,0,none⟩,1,1,rfl,rd_blkK (us:=[(i:Int)]) h rfl (by unfold maxLen; omega)⟩
structure RndM (w3:World) (p s1 s2 i:Nat) (W:World) (v:Value) (xs:List IneqD):Prop where
 out:OutM W p (p+1) v xs
 k1:Blk W s1 3 #[.int .i64 (i:Nat)]
 k2:Blk W s2 180 #[.bool false,.int .u8 1,.slice (some ⟨s1,0,none⟩) 1 1]
 n1:v.ownBlock≠some s1
 n2:v.ownBlock≠some s2
 bel:Below p w3 W
 sz:p+1≤W.heap.size
theorem RndM.put {w3:World} {p s1 s2 i:Nat} {W W':World} {v v':Value} {xs ys:List IneqD} (h:RndM w3 p s1 s2 i W v xs) (h1:p<s1) (h2:p<s2) (ho:OutM W' p (p+1) v' ys) (hg:Grew2 p v v' W W'):RndM w3 p s1 s2 i W' v' ys:=
 ⟨ho,hg.blk h.k1 (by omega) h.n1,hg.blk h.k2 (by omega) h.n2,hg.ne h.k1.lt h.n1,hg.ne h.k2.lt h.n2,h.bel.trans (hg.below (Nat.le_refl _) (fun b e=>by have:=(ownsRow_lt h.out.2.2 e).1; omega) (by have:=h.sz; omega)),Nat.le_trans h.sz hg.size⟩
theorem RndM.drew {w3:World} {p s1 s2 i:Nat} {W:World} {v:Value} {xs:List IneqD} (h:RndM w3 p s1 s2 i W v xs):RndM w3 p s1 s2 i W.drew v xs:=
 ⟨⟨h.out.1,h.out.2.1,h.out.2.2⟩,h.k1,h.k2,h.n1,h.n2,Below.drew h.bel,h.sz⟩
theorem ineqs5_wide (K:Nat) (t:TabD) (v:Value) (w:World) (hok:OkTab K t) (hrng:RngT K t) (hK:K≤150) (hv:TabV w w.heap.size v t):
 Calls Tryz.prog 90 #[v] w fun e w'=>∃ A c,e=.returned (.tuple #[.slice A (ownE t K).length c,.int .i64 0])∧IneqsV w' w'.heap.size A (ownE t K).length c (ownE t K)∧Below w.heap.size w w':=by
 have hll:=hok.ll;subst hll;obtain⟨A1,c1,A2,c2,A3,c3,rfl,hq1,hq2,hq3⟩:=hv;have hT:=blk_new w #[.slice A1 t.low.length c1,.slice A2 t.up.length c2,.slice A3 t.pair.length c3] 38;have hbT:=below_box (w:=w) (Obj.cells #[.slice A1 t.low.length c1,.slice A2 t.up.length c2,.slice A3 t.pair.length c3] 38);obtain⟨w1,hw1⟩:∃ x,w.alloc (Obj.cells #[.slice A1 t.low.length c1,.slice A2 t.up.length c2,.slice A3 t.pair.length c3] 38)=x:=⟨_,rfl⟩;rw[hw1] at hT hbT;have Hw1:=qq hw1;have HT:=qq hT;have HbT:=qq hbT;have Hq1:=qq hq1;have Hq2:=qq hq2;have Hq3:=qq hq3;have HOk:=qq hok;have Hrng:=qq hrng;have hul:=hok.ul;have hpl:=hok.pl;have Hul:=qq hul;have Hpl:=qq hpl;have x0:w1.cell? ⟨w.heap.size,0,none⟩=some (.slice A1 t.low.length c1):=hT.cell 0;have x1:w1.cell? ⟨w.heap.size,1,none⟩=some (.slice A2 t.up.length c2):=hT.cell 1;have x2:w1.cell? ⟨w.heap.size,2,none⟩=some (.slice A3 t.pair.length c3):=hT.cell 2;rw[← Hw1.out] at x0 x1 x2
 have l63:t.low.length≤9223372036854775807:=by omega
 clear hw1 hT hbT hq1 hq2 hq3 hok hrng hul hpl
 go_enter Tryz.func90,Tryz.ntmps90
 go_wp2_with fail;rw[Hw1.out]
 refine(tabMay_ok HOk.out _ w1 (show TabV w1 w1.heap.size _ t from⟨_,_,_,_,_,_,rfl,Hq1.out.freshM HbT.out,Hq2.out.freshM HbT.out,Hq3.out.fresh HbT.out⟩)).mono ?_
 rintro e w2 ⟨rfl,hb2⟩;clear x0 x1 x2;have hbx:=below_box (w:=w2) (Obj.cells #[.slice none 0 0] 28);have hkx:=blk_new w2 #[.slice none 0 0] 28;obtain⟨w3,hw3⟩:∃ x,w2.alloc (Obj.cells #[.slice none 0 0] 28)=x:=⟨_,rfl⟩;rw[hw3] at hbx hkx
 have hs3:w3.heap.size=w2.heap.size+1:=by rw[← hw3]; simp
 have hb3:=HbT.out.trans ((hb2.trans (hbx.mono hb2.size)).mono HbT.out.size);have Hw3:=qq hw3;have Hb3:=qq hb3;have Hout3:Hid (OutM w3 w2.heap.size (w2.heap.size+1) (.slice none 0 0) []):=qq ⟨⟨none,0,rfl⟩,hkx,World.ownsRow_nil _ _ _ _⟩;have hT3:Blk w3 w.heap.size 38 #[.slice A1 t.low.length c1,.slice A2 t.up.length c2,.slice A3 t.pair.length c3]:=HT.out.below (hb2.trans (hbx.mono hb2.size)) HT.out.lt;have hqp:w.heap.size<w2.heap.size:=Nat.lt_of_lt_of_le HT.out.lt hb2.size;have Hs3:=qq hs3
 -- what lies below the list stays
 have HTQ:Hid (∀ W,Below w2.heap.size w3 W→W.cell? ⟨w.heap.size,0,none⟩=some (.slice A1 t.low.length c1)∧W.cell? ⟨w.heap.size,1,none⟩=some (.slice A2 t.up.length c2)∧W.cell? ⟨w.heap.size,2,none⟩=some (.slice A3 t.pair.length c3)):=qq fun W hW=>by
  have:=hT3.below hW hqp;exact⟨this.cell 0,this.cell 1,this.cell 2⟩
 have HWW:Hid (∀ W,Below w2.heap.size w3 W→Below w.heap.size w W):=qq fun W hW=>hb3.trans (hW.mono (by omega));have y0:=(HTQ.out w3 (Below.refl _ _)).1;rw[← Hw3.out] at y0;clear hb2 hbx hkx hw3 hs3 hb3 hT3;go_upto_region 7 with fail;rw[Hw3.out];clear y0;go_wp2_with fail
 go_loopg [20] t.low.length (fun gh s20 wr=>∃ (i:Nat) (v:Value),i≤t.low.length∧gh=t.low.length - i∧s20=.int .i64 (i:Nat)∧OutM wr w2.heap.size (w2.heap.size+1) v ((List.range i).flatMap (rowE t t.low.length))∧Below w2.heap.size w3 wr)
 case atStart=>exact⟨0,_,Nat.zero_le _,rfl,rfl,Hout3.out,Below.refl _ _⟩
 case round=>
  obtain⟨i,v,hi,rfl,rfl,hout,hbel⟩:=hrel;obtain⟨wO,hwO⟩:∃ a,a=wr:=⟨_,rfl⟩;subst hwO;have Hout:=qq hout;have Hbel:=qq hbel;clear hout hbel
  by_cases hin:i<t.low.length
  · have d0:decide (i<t.low.length)=true:=by simpa using hin
    have i1:(0:Int)≤(i:Int):=by omega
    have i2:(i:Int)<t.low.length:=by omega
    have hl0:((List.range i).flatMap (rowE t t.low.length)).length≤30000:=Nat.le_trans (flatMap_len (fun j=>rowE_len t t.low.length j) i) (by have:i * (t.low.length+2)≤150 * 152:=Nat.mul_le_mul (by omega) (by omega); omega)
    have hpO:w2.heap.size+1≤wO.heap.size:=by have:=Hbel.out.size; have:=Hs3.out; omega
    -- the three parts of the table at i
    obtain⟨bA,oA,rfl,hbA,hcA⟩:=Hq1.out.at_ (by omega);have q1:=hcA i hin;rw[← getE_at hin] at q1
    have hinu:i<t.up.length:=by rw[Hul.out]; exact hin
    obtain⟨bB,oB,rfl,hbB,hcB⟩:=Hq2.out.at_ (by omega);have q2:=hcB i hinu;rw[← getE_at hinu] at q2
    have hinp:i<t.pair.length:=by rw[Hpl.out]; exact hin
    obtain⟨bC,oC,rfl,hbC,hcC⟩:=Hq3.out.2.2.2 (by omega);obtain⟨AR,cR,q3,hqR⟩:=hcC i hinp;have hrow:t.pair[i].length=t.low.length:=(HOk.out.np _ (List.getElem_mem hinp)).1
    have hpe:∀ k,pairE t i k=t.pair[i].getD k 0:=fun k=>by
     unfold pairE;rw[List.getD_eq_getElem?_getD (l:=t.pair),qj hinp];rfl
    obtain⟨row,hrw⟩:∃ r,t.pair[i]=r:=⟨_,rfl⟩;rw[hrw] at q3 hqR hrow hpe;obtain⟨lc,hlc⟩:∃ c,t.low.getD i 0=c:=⟨_,rfl⟩;obtain⟨uc,huc⟩:∃ c,t.up.getD i 0=c:=⟨_,rfl⟩;have hr1:=Hrng.out.low i hin;have hr2:=Hrng.out.up i hin
    have hr3:∀ k,k<t.low.length→1≤row.getD k 0∧row.getD k 0≤3:=fun k hk=>by rw[← hpe k]; exact Hrng.out.pair i k hin hk
    rw[hlc] at q1 hr1;rw[huc] at q2 hr2
    have HC:Hid (∀ W,Below w2.heap.size w3 W→W.cell? ⟨bA,oA+i,none⟩=some (.int .u8 lc)∧W.cell? ⟨bB,oB+i,none⟩=some (.int .u8 uc)∧W.cell? ⟨bC,oC+i,none⟩=some (.slice AR row.length cR)):=qq fun W hW=>
     ⟨((HWW.out W hW).cell (p:=⟨bA,oA+i,none⟩) hbA).trans q1,((HWW.out W hW).cell (p:=⟨bB,oB+i,none⟩) hbB).trans q2,((HWW.out W hW).cell (p:=⟨bC,oC+i,none⟩) hbC).trans q3⟩
    have HqR:=qq hqR;have Hrow:=qq hrow;have Hpe:=qq hpe;have Hr3:=qq hr3
    have Hrow2:Hid (rowE t t.low.length i=lowQ i lc++upQ i uc++(List.range t.low.length).flatMap fun k=>pairQ i k (row.getD k 0)):=qq (by unfold rowE; rw[hlc,huc]; congr 1; refine congrArg (fun f=>List.flatMap f _) (funext fun k=>?_); rw[hpe k])
    have i3:(i:Int)<t.up.length:=by omega
    have i4:(i:Int)<t.pair.length:=by omega
    have hi1000:i<1000:=by omega
    clear hcA hcB hcC q1 q2 q3 hrw hlc huc hrow hpe hr3 hqR
    -- the variable's own term
    have hba:=below_box (w:=wO) (Obj.cells #[.int .i64 (i:Nat)] 3);have hka:=(blk_new wO #[.int .i64 (i:Nat)] 3).alloc (Obj.cells #[.bool false,.int .u8 1,.slice (some ⟨wO.heap.size,0,none⟩) 1 1] 180)
    have hsa:(wO.alloc (Obj.cells #[.int .i64 (i:Nat)] 3)).heap.size=wO.heap.size+1:=by simp
    have hkb:=blk_new (wO.alloc (Obj.cells #[.int .i64 (i:Nat)] 3)) #[.bool false,.int .u8 1,.slice (some ⟨wO.heap.size,0,none⟩) 1 1] 180;have hbb:=hba.trans ((below_box (w:=wO.alloc (Obj.cells #[.int .i64 (i:Nat)] 3)) (Obj.cells #[.bool false,.int .u8 1,.slice (some ⟨wO.heap.size,0,none⟩) 1 1] 180)).mono hba.size);rw[hsa] at hkb;obtain⟨w4,hw4⟩:∃ x,(wO.alloc (Obj.cells #[.int .i64 (i:Nat)] 3)).alloc (Obj.cells #[.bool false,.int .u8 1,.slice (some ⟨wO.heap.size,0,none⟩) 1 1] 180)=x:=⟨_,rfl⟩;rw[hw4] at hka hkb hbb;have Hw4:=qq hw4
    have hR4:RndM w3 w2.heap.size wO.heap.size (wO.heap.size+1) i w4 v ((List.range i).flatMap (rowE t t.low.length)):=
     ⟨Hout.out.fresh hbb,hka,hkb,fun e=>by have:=(ownsRow_lt Hout.out.2.2 e).2; omega,fun e=>by have:=(ownsRow_lt Hout.out.2.2 e).2; omega,Hbel.out.trans (hbb.mono (by omega)),by have:=hbb.size; omega⟩
    have HR4:=qq hR4
    have p1:w2.heap.size<wO.heap.size:=by omega
    have p2:w2.heap.size<wO.heap.size+1:=by omega
    clear hba hka hsa hkb hbb hw4 hR4 Hout Hbel;go_upto_region 10 with fail;rw[Hw4.out];have x0:=(HTQ.out w4 HR4.out.bel).1;have y0:=(HC.out w4 HR4.out.bel).1;go_wp2_with fail
    refine(put5_any _ ⟨false,lc,[]⟩ 1 i 0 w2.heap.size (w2.heap.size+1) v _ w4 ⟨none,0,0,rfl,RdI.nil⟩ (fitsB_low hr1 hi1000) (by simp) HR4.out.out (Nat.lt_succ_self _) HR4.out.sz (by omega) (by rw[fits_low hr1.1]; have:=lowQ_len i lc; omega)).mono ?_
    rintro e w5 ⟨rfl,v5,hout5,hg5⟩;rw[fits_low hr1.1] at hout5;have HR5:=qq (HR4.out.put p1 p2 hout5 hg5)
    have hl5:((List.range i).flatMap (rowE t t.low.length)++lowQ i lc).length≤30001:=by rw[List.length_append]; have:=lowQ_len i lc; omega
    clear hout5 hg5 x0 y0 HR4 Hw4;go_upto_region 11 with fail
    have hKS:∀ W v xs,RndM w3 w2.heap.size wO.heap.size (wO.heap.size+1) i W v xs→W.cell? ⟨wO.heap.size+1,0,none⟩=some (.bool false)∧W.cell? ⟨wO.heap.size+1,1,none⟩=some (.int .u8 1)∧W.cell? ⟨wO.heap.size+1,2,none⟩=some (.slice (some ⟨wO.heap.size,0,none⟩) 1 1)∧W.cell? ⟨w.heap.size,1,none⟩=some (.slice (some ⟨bB,oB,none⟩) t.up.length c2)∧W.cell? ⟨bB,oB+i,none⟩=some (.int .u8 uc):=fun W v xs hW=>
     ⟨hW.k2.cell 0,hW.k2.cell 1,hW.k2.cell 2,(HTQ.out W hW.bel).2.1,(HC.out W hW.bel).2.1⟩
    have HKS:=qq hKS;clear hKS;refine wp_region_noPanic ?_;refine wp_region_T (fun W=>W.cell? ⟨wO.heap.size+1,0,none⟩=some (.bool false)∧W.cell? ⟨wO.heap.size+1,1,none⟩=some (.int .u8 1)∧W.cell? ⟨wO.heap.size+1,2,none⟩=some (.slice (some ⟨wO.heap.size,0,none⟩) 1 1)∧W.cell? ⟨w.heap.size,1,none⟩=some (.slice (some ⟨bB,oB,none⟩) t.up.length c2)∧W.cell? ⟨bB,oB+i,none⟩=some (.int .u8 uc)) 9 (by kernel_rfl) (HKS.out _ _ _ HR5.out.drew) (fun hHeld=>?_);have hRD:=HR5.out.drew;generalize w5.drew=W0 at hHeld hRD ⊢;clear HR5;refine nx0 0 ?_
    iterate 8 (refine nx (v:=?_) rfl (by kernel_rfl) (fun _ _ _ h=>h) (by rfl) ?_ (by assumption) ?_; rotate_left; focus (intro w hSw; (try dsimp only at hSw); first | (go_simp; done) | (go_simp; with_reducible rfl)); try simp only[Act.put,qg,qe,qf,qd,qh,qi,Nat.reduceAdd])
    refine nx9 ?_;clear hHeld;refine wpAnyT_step (i:=8) (by kernel_rfl) rfl (fun K hK=>?_)
    (go_simp; refine(put5_any _ ⟨false,1,[(i:Int)]⟩ 1 0 uc w2.heap.size (w2.heap.size+1) v5 _ W0 (self_termV hRD.k1) (fitsB_up hr2 hi1000) (by simp) hRD.out (Nat.lt_succ_self _) hRD.sz (by omega) (by rw[fits_up hr2]; have:=upQ_len i uc; omega)).mono ?_; rintro e w6 ⟨rfl,v6,hout6,hg6⟩; rw[fits_up hr2] at hout6; have hR6:=hRD.put p1 p2 hout6 hg6)
    refine hK.out _ _ (HKS.out _ _ _ hR6) ?_;clear hK K
    try simp only[Act.put,qg,qe,qf,qd,qh,qi]
    have HR6:=qq hR6
    have hl6:((List.range i).flatMap (rowE t t.low.length)++lowQ i lc++upQ i uc).length≤30002:=by rw[List.length_append]; have:=upQ_len i uc; omega
    clear hRD hout6 hg6 hR6;refine wpAnyT_seq 9 (by omega) (by rfl) (by kernel_rfl) ?_;simp only[List.drop_succ_cons,List.drop_zero];go_wp2_with fail;refine NoPanic.normal ?_;have x0:=(HTQ.out w6 HR6.out.bel).2.2;have y0:=(HC.out w6 HR6.out.bel).2.2
    have r63:row.length≤9223372036854775807:=by have:=Hrow.out; omega
    go_wp2_with fail;clear x0 y0
    go_loopg [51] row.length (fun gh s51 wr=>∃ (k:Nat) (v:Value),k≤row.length∧gh=row.length - k∧s51=.int .i64 (k:Nat)∧RndM w3 w2.heap.size wO.heap.size (wO.heap.size+1) i wr v ((List.range i).flatMap (rowE t t.low.length)++lowQ i lc++upQ i uc++(List.range k).flatMap fun k=>pairQ i k (row.getD k 0)))
    case atStart=>exact⟨0,v6,Nat.zero_le _,rfl,rfl,by simpa using HR6.out⟩
    case round=>
     obtain⟨k,v7,hk,rfl,rfl,hR7⟩:=hrel;have HR7:=qq hR7;clear hR7
     by_cases hkn:k<row.length
     · have d1:decide (k<row.length)=true:=by simpa using hkn
       have hkl:k<t.low.length:=by have:=Hrow.out; omega
       obtain⟨bR,oR,rfl,hbR,hcR⟩:=HqR.out.at_ (by omega);have q4:=hcR k hkn;rw[← getE_at hkn] at q4;have hr4:=Hr3.out k hkl;have e0:wr.cell? ⟨bR,oR+k,none⟩=some (.int .u8 (row.getD k 0)):=((HWW.out wr HR7.out.bel).cell (p:=⟨bR,oR+k,none⟩) hbR).trans q4;have hfs:(List.range (k+1)).flatMap (fun k=>pairQ i k (row.getD k 0))=(List.range k).flatMap (fun k=>pairQ i k (row.getD k 0))++pairQ i k (row.getD k 0):=flat_succ _ k;have Hfs:=qq hfs;obtain⟨cv,hcv⟩:∃ c,row.getD k 0=c:=⟨_,rfl⟩;rw[hcv] at e0 hr4;have Hcv:=qq hcv
       have k1:(0:Int)≤(k:Int):=by omega
       have k2:(k:Int)<row.length:=by omega
       have z0:=HR7.out.k2.cell 0;have z1:=HR7.out.k2.cell 1;have z2:=HR7.out.k2.cell 2;simp only[qc,qb,qa] at z0 z1 z2
       have hlk:((List.range i).flatMap (rowE t t.low.length)++lowQ i lc++upQ i uc++(List.range k).flatMap fun k=>pairQ i k (row.getD k 0)).length≤40000:=by
        rw[List.length_append];have:=flatMap_len (f:=fun k=>pairQ i k (row.getD k 0)) (m:=1) (fun k=>pairQ_len i k _) k;omega
       have Hlk:=qq hlk
       have hk1000:k<1000:=by omega
       clear hcR q4 hfs hcv hlk;go_wp2_with fail
       refine(put5_any _ ⟨false,1,[(i:Int)]⟩ cv k 0 w2.heap.size (w2.heap.size+1) v7 _ wr (self_termV HR7.out.k1) (fitsB_pair hr4 hi1000 hk1000) (by simp) HR7.out.out (Nat.lt_succ_self _) HR7.out.sz (by have:=Hlk.out; omega) (by rw[fits_pair hr4]; have:=pairQ_len i k cv; omega)).mono ?_
       rintro e w8 ⟨rfl,v8,hout8,hg8⟩;rw[fits_pair hr4] at hout8;have HR8:=qq (HR7.out.put p1 p2 hout8 hg8);clear hout8 hg8 e0 z0 z1 z2;go_wp2_with fail;go_roundg (row.length - (k+1))
       case measure=>omega
       case rel=>exact⟨k+1,v8,by omega,rfl,by simp,by rw[Hfs.out,Hcv.out,← List.append_assoc]; exact HR8.out⟩
     · have d1:decide (k<row.length)=false:=by simpa using hkn
       have hkl:k=t.low.length:=by have:=Hrow.out; omega
       have hfin:OutM wr w2.heap.size (w2.heap.size+1) v7 ((List.range (i+1)).flatMap (rowE t t.low.length)):=by
        have:=HR7.out.out;rw[hkl] at this;rw[flat_succ,Hrow2.out,← List.append_assoc,← List.append_assoc];exact this
       have Hfin:=qq hfin;clear hfin hkl;go_wp2_with fail;go_roundg (t.low.length - (i+1))
       case measure=>omega
       case rel=>exact⟨i+1,v7,by omega,rfl,by simp,Hfin.out,HR7.out.bel⟩
  · have d0:decide (i<t.low.length)=false:=by simpa using hin
    have hie:i=t.low.length:=by omega
    have hend:OutM wO w2.heap.size (w2.heap.size+1) v (ownE t t.low.length):=by
     have:=Hout.out;rw[hie] at this;exact this
    obtain⟨⟨A,c,rfl⟩,hk,how⟩:=hend;have y0:wO.cell? ⟨w2.heap.size,0,none⟩=some (.slice A (ownE t t.low.length).length c):=hk.cell 0;have Hret:=qq (IneqsV.of_own4 how);have Hend:=qq (HWW.out wO Hbel.out);clear hie hk how;go_wp2_with fail;exact bodyPost_ret (v:=.tuple #[.slice A (ownE t t.low.length).length c,.int .i64 0]) (by simp[results,Tryz.results90,go_sem]) rfl ⟨A,c,rfl,Hret.out,Hend.out⟩
theorem ineqs5_any (K:Nat) (t:TabD) (v:Value) (w:World) (hok:OkTab K t) (hrng:RngT K t) (hK:K≤6) (hv:TabV w w.heap.size v t):
 Calls Tryz.prog 90 #[v] w fun e w'=>∃ A c,e=.returned (.tuple #[.slice A (ownE t K).length c,.int .i64 0])∧IneqsV w' w'.heap.size A (ownE t K).length c (ownE t K)∧Below w.heap.size w w':=ineqs5_wide K t v w hok hrng (by omega) hv
end Go.Proofs.YtdmakpmbknindaaGreatDoor
