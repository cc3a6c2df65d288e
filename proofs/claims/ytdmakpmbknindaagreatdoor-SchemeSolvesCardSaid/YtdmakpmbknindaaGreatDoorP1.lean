import Derived.Test.YtdmakpmbknindaaGreatDoorP0
import Derived.Test.YtdmakpmbknindaaGreatDoorM16
set_option linter.unusedVariables false
set_option linter.unusedSimpArgs false
set_option maxHeartbeats 1000000
namespace Go.Proofs.YtdmakpmbknindaaGreatDoor
theorem firstGo_neg:∀ (asg:List Int) (xs:List IneqD) (i:Int),0≤i→((firstGo asg xs i<0→∀ x∈xs,holdsX asg x=true)∧((∀ x∈xs,holdsX asg x=true)→firstGo asg xs i = -1))
 | asg,[],i,hi=>⟨fun _ x hx=>absurd hx (by simp),fun _=>rfl⟩
 | asg,x :: r,i,hi=>by
   have ih:=firstGo_neg asg r (i+1) (by omega);unfold firstGo
   split
   · rename_i h
     refine⟨fun q y hy=>?_,fun q=>ih.2 fun y hy=>q y (List.mem_cons_of_mem _ hy)⟩
     rcases qk.1 hy with rfl | hy
     · exact h
     · exact ih.1 q y hy
   · rename_i h
     exact⟨fun q=>by omega,fun q=>absurd (q x List.mem_cons_self) h⟩
theorem holdsAll_neg {asg:List Int} {xs:List IneqD} (h1:(holdsAll asg xs).1<0):(∀ x∈xs,mayX x=true)∧(∀ x∈xs,badX asg x=false)∧∀ x∈xs,holdsX asg x=true:=by
 unfold holdsAll at h1
 split at h1
 · rename_i q1
   split at h1
   · simp at h1
   · rename_i q2
     exact⟨fun x hx=>List.all_eq_true.1 q1 x hx,fun x hx=>by
      have:=List.any_eq_false.1 (by simpa using q2) x hx
      simpa using this,(firstGo_neg asg xs 0 (Int.le_refl _)).1 h1⟩
 · simp at h1
theorem holdsAll_yes {asg:List Int} {xs:List IneqD} (h1:∀ x∈xs,mayX x=true) (h2:∀ x∈xs,badX asg x=false) (h3:∀ x∈xs,holdsX asg x=true):holdsAll asg xs=(-1,0):=by
 unfold holdsAll
 rw[if_pos (List.all_eq_true.2 h1),if_neg (by
  rw[Bool.not_eq_true,List.any_eq_false];intro x hx
  rw[h2 x hx]; simp),(firstGo_neg asg xs 0 (Int.le_refl _)).2 h3]
theorem LeastSolL.holds {N:Nat} {low:List Int} {xs:List IneqD} {a:List Int} (hok:OkS (N:Int) low xs) (h:LeastSolL xs (low0 N low) a) (hr:∀ v,v<N→1≤a.getD v 0∧a.getD v 0≤3):holdsAll a xs=(-1,0):=by
 have hl:a.length=N:=by rw[h.sol.len,low0_len hok]
 have hx:∀ x∈xs,mayX x=true:=fun x hx=>by
  have:=hok.may x hx;unfold mayL at this;simp only[Bool.and_eq_true] at this;exact this.1.1
 exact holdsAll_yes hx (fun x hx=>(holdsQ_iff (OverL.of_may (hok.may x hx)) hl hr).1) (fun x hx=>(holdsQ_iff (OverL.of_may (hok.may x hx)) hl hr).2.2 (h.sol.hold x hx))
end Go.Proofs.YtdmakpmbknindaaGreatDoor
namespace Go.Proofs.YtdmakpmbknindaaGreatDoor
open Go.RowKit
theorem cloneQ_any (A:Option Addr) (n c:Nat) (xs:List IneqD) (w:World) (hx:IneqsV w w.heap.size A n c xs) (hbig:n≤1048576):
 Calls Tryz.prog 32 #[.slice A n c] w fun e w'=>∃ A' c',e=.returned (.slice A' n c')∧w'.ownsRow w.heap.size 70 4 (.slice A' n c') n (cellsQ xs)∧Below w.heap.size w w':=by
 obtain⟨i0,hi0,hz0,hz1,hz2⟩:=info_parts ineqInfo;have hq:=fun w a n c n' c'=>Lib.run_eql_slice_nil (P:=Tryz.prog) w 28 70 a n c n' c' Tryz.underlying28;have hl:=hx.len
 rcases A with _ | a
 · have hn:n=0:=by
    rcases Nat.eq_zero_or_pos n with h | h
    · exact h
    · obtain⟨_,_,e,_⟩:=hx.at_ h
      cases e
   subst hn;obtain rfl:=List.eq_nil_of_length_eq_zero hl;clear hx
   go_enter Tryz.func32,Tryz.ntmps32
   go_wp2_with fail;go_ret;exact⟨none,0,rfl,World.ownsRow_nil _ _ _ _,Below.refl _ _⟩
 · have hr1:=hx.rd4.keep (w':=w.alloc (Obj.cells #[] 70)) (fun p hp=>World.cell?_alloc_lt _ _ p hp)
   go_enter Tryz.func32,Tryz.ntmps32
   go_wp2_with (at_builtin; refine wpList_append_rd _ rfl _ _ 28 rfl w.heap.size 70 i0 _ 4 32 Tryz.underlying28 hi0 hz0 hz1 hz2 rfl (by omega) _ 0 [] rfl (World.ownsRow_lit w #[] 0 (Nat.le_refl _) (Nat.zero_le _) rfl) w.heap.size (some a) n c (cellsQ xs) rfl hr1 (cellsQ_one xs) (by unfold maxLen; omega) (by omega) (by simp) ?_; intro v1 w1 hown1 hg1 hat1; obtain⟨A1,c1,rfl⟩:=ownsRow_form hown1)
   go_ret;rw[Nat.zero_add] at hown1
   exact⟨A1,c1,rfl,by simpa using hown1,((Below.refl _ _).alloc (Nat.le_refl _) _).grown hg1 (by simp) (fun k hk=>by have hk':some w.heap.size=some k:=hk; injection hk' with h; omega)⟩
section
variable {N:Nat} {n:Int} {xs:List IneqD} {keep:List Int} {t u:TabD} {er:Int}
def clampE (l:List Int):List Int:=l.map fun z=>if 1≤z∧z≤3 then z else 1
theorem clamp_at {l:List Int} {v:Nat} (h:v<l.length):(clampE l).getD v 0=if 1≤l.getD v 0∧l.getD v 0≤3 then l.getD v 0 else 1:=by
 unfold clampE;rw[getE_at (by simpa using h),List.getElem_map,getE_at h]
theorem clamp_len (l:List Int):(clampE l).length=l.length:=by simp[clampE]
theorem clamp_inR {l:List Int} (h:l.length=N):InR N (clampE l):=by
 refine⟨by rw[clamp_len,h],fun v hv=>?_⟩
 rw[clamp_at (by omega)]
 split <;> omega
theorem okV_iff {l:List Int} {v:Int}:okV l v=true↔v<l.length∧1≤l.getD v.toNat 0∧l.getD v.toNat 0≤3:=by
 unfold okV oneB atV;simp only[Bool.and_eq_true,decide_eq_true_eq]
theorem clamp_ok {l:List Int} {v:Int} (h0:0≤v) (h:okV l v=true):atK (clampE l) v=atK l v:=by
 obtain⟨h1,h2⟩:=okV_iff.1 h
 have hv:v.toNat<l.length:=by omega
 have hc:=clamp_at hv;rw[if_pos h2] at hc
 have h3:okV (clampE l) v=true:=okV_iff.2 ⟨by rw[clamp_len]; exact h1,by rw[hc]; exact h2⟩
 unfold atK;rw[if_pos h,if_pos h3];unfold atV;exact hc
theorem clamp_sol {all:List Int} (hok:OkS (N:Int) [] xs) (hl:all.length=N) (h1:(holdsAll all xs).1<0):SolE N xs (clampE all):=by
 obtain⟨_,hb,hh⟩:=holdsAll_neg h1;refine⟨clamp_inR hl,fun x hx=>?_⟩;have hov:=OverL.of_may (hok.may x hx);have hin:=clamp_inR (N:=N) hl;refine(holdsQ_iff hov hin.1 hin.2).2.1 ?_;have hbx:=hb x hx;have hhx:=hh x hx;unfold badX badQ at hbx;unfold holdsX at hhx;rw[Bool.or_eq_false_iff] at hbx
 have e1:leftQ (clampE all) x.lv x.lc=leftQ all x.lv x.lc:=by
  unfold leftQ
  by_cases h0:x.lc=0
  · rw[if_pos h0,if_pos h0]
    refine clamp_ok (hov.lv h0).1 ?_;have:=hbx.1
    simpa[h0] using this
  · rw[if_neg h0,if_neg h0]
 have e2:rightQ (clampE all) x.c x.r=rightQ all x.c x.r:=by
  unfold rightQ
  by_cases h0:0≤x.r
  · rw[if_pos h0,if_pos h0,clamp_ok h0 (by have:=hbx.2; simpa[h0] using this)]
  · rw[if_neg h0,if_neg h0]
 unfold holdsQ at hhx ⊢;rw[e1,e2];exact hhx
def ownA (keep:List Int) (all:List Int):List Int:=(keep.map Int.toNat).map fun v=>all.getD v 0
theorem exact_fore {all:List Int} (h:TableR N xs keep t) (hl:all.length=N) (h1:(holdsAll all xs).1<0) (hn:noneB (ownA keep all)=false):LetsA keep.length t (ownA keep all):=by
 have hs:=clamp_sol h.ok hl h1
 have e:ownA keep all=(keep.map Int.toNat).map fun v=>(clampE all).getD v 0:=by
  refine List.map_congr_left fun v hv=>?_
  have hv2:v<all.length:=by rw[hl]; exact h.nat v hv
  rw[clamp_at hv2,if_pos];obtain⟨i,hi,he⟩:=List.getElem_of_mem hv;have:=noneB_rng hn i (by simpa[ownA] using hi)
  have e2:(ownA keep all).getD i 0=all.getD v 0:=by
   unfold ownA;rw[kept_at hi,he]
  rw[e2] at this;exact this
 refine⟨by simp[ownA],hn,?_⟩
 refine h.tab.lets _ ?_;rw[e];exact⟨_,hs,rfl⟩
theorem setE_self {kn:List Nat} {a:List Int} (hlt:∀ v∈kn,v<N) (hd:kn.Nodup) {i:Nat} (hi:i<kn.length):(setE (List.replicate N 1) kn a kn.length).getD (kn.getD i 0) 0=a.getD i 0:=by
 obtain⟨j,hj,e,e2⟩:=(setE_at (low:=List.replicate N 1) (a:=a) (fun v hv=>by rw[List.length_replicate]; exact hlt v hv) kn.length (Nat.le_refl _) (kn.getD i 0)).2 ⟨i,hi,rfl⟩
 have hij:j=i:=by
  rw[List.getD_eq_getElem?_getD,List.getD_eq_getElem?_getD,qj hj,qj hi] at e;exact nodup_at hd hj hi e
 rw[e2,hij]
theorem lets_rng {K:Nat} {a:List Int} (h:LetsA K t a):InR K a:=⟨h.1,fun v hv=>noneB_rng h.2.1 v (by rw[h.1]; exact hv)⟩
theorem exact_ok {a:List Int} (h:TableR N xs keep t) (hN:N≤1000) (ha:LetsA keep.length t a):OkS (N:Int) (setE (List.replicate N 1) (keep.map Int.toNat) a keep.length) (xs++freeE (keep.map Int.toNat) a):=by
 have hl:(keep.map Int.toNat).length=keep.length:=List.length_map _;have hr:=lets_rng ha
 refine⟨by omega,.inr (by rw[setE_len]; simp),fun x hx=>?_,setE_rng (fun i hi=>hr.2 i (by rw[← hr.1]; exact hi)) _ (by rw[hr.1]; exact Nat.le_refl _)⟩
 rcases List.mem_append.1 hx with q | q
 · exact h.ok.may x q
 · obtain⟨i,hi,rfl⟩:=mem_free.1 q
   have:=hr.2 i (by rw[← hl]; exact hi)
   exact may_free (keep_lt h.nat hi) hN this.1 this.2
theorem exact_back {a is core:List Int} (h:TableR N xs keep t) (hN:N≤1000) (hx:xs.length≤1000) (hk:keep.length≤1000) (ha:LetsA keep.length t a) (hS:SolveR (N:Int) (setE (List.replicate N 1) (keep.map Int.toNat) a keep.length) (xs++freeE (keep.map Int.toNat) a) is core er):er=0∧is.length=N∧∀ i,i<keep.length→is.getD ((keep.map Int.toNat).getD i 0) 0=a.getD i 0:=by
 have hl:(keep.map Int.toNat).length=keep.length:=List.length_map _;have hr:=lets_rng ha;obtain⟨f,hf,he⟩:=h.exact hr ha.2.2;have hnat:=h.nat;have hnd:=h.keeps.nat
 have hex:∃ f,SolE N xs f∧∀ i,i<(keep.map Int.toNat).length→f.getD ((keep.map Int.toNat).getD i 0) 0=a.getD i 0:=⟨f,hf,fun i hi=>by
  rw[he,kept_at hi,List.getD_eq_getElem?_getD (l:=keep.map Int.toNat),qj hi]
  rfl⟩
 have hok2:=exact_ok h hN ha
 have hiff:=(free_iff (a:=a) h.ok.well hnat hnd fun i hi=>hr.2 i (by rw[← hl]; exact hi)).2 hex
 rw[hl] at hiff;obtain⟨g,hg⟩:=hiff
 have hslen:(setE (List.replicate N 1) (keep.map Int.toNat) a keep.length).length=N:=by rw[setE_len]; simp
 obtain⟨h0,_,hls⟩:=hS.solv (by omega) (by rw[List.length_append,free_len,hl]; omega) hok2 (by rw[low0_self hslen]; exact hg)
 rw[low0_self hslen] at hls
 refine⟨h0,by rw[hls.sol.len,hslen],fun i hi=>?_⟩
 have hi2:i<(keep.map Int.toNat).length:=by rw[hl]; exact hi
 have h1:=hls.sol.low ((keep.map Int.toNat).getD i 0) (by rw[hslen]; exact keep_lt hnat hi2)
 have h2:=setE_self (a:=a) hnat hnd hi2;rw[hl] at h2;rw[h2] at h1;have h3:=hold_var (u:=(keep.map Int.toNat).getD i 0) (hls.sol.hold _ (List.mem_append_right _ (mem_free.2 ⟨i,hi2,rfl⟩))) rfl rfl;have h4:is.getD ((keep.map Int.toNat).getD i 0) 0≤a.getD i 0:=h3;omega
end
end Go.Proofs.YtdmakpmbknindaaGreatDoor
namespace Go.Proofs.YtdmakpmbknindaaGreatDoor
open Go.ChangeShapes Go.WideShapes Go.ChangeAt Go.RowKit
open Go.ChangeMaps (open_string shut_string)
section
variable {H:Type} {enc:TypeId × Value→H} {P:Program}
theorem rd_of_cells {w:World} {a:Addr} {n:Nat} {xs:List Value} (size:Nat) (hsz:0<size) (hl:xs.length=n * size) (hc:∀ i u,xs[i]?=some u→w.cell? (a.add i)=some u):Rd w w.heap.size size (some a) n xs:=by
 refine⟨hl,fun hn=>?_⟩;obtain⟨b,o,sp⟩:=a
 have h0:0<xs.length:=by rw[hl]; exact Nat.mul_pos hn hsz
 have hc0:=hc 0 _ (qj h0)
 have hs:sp=none:=by
  have:(Addr.add ⟨b,o,sp⟩ 0)=⟨b,o,sp⟩:=by simp[Addr.add]
  rw[this] at hc0;exact World.cell?_spot hc0
 subst hs;refine⟨b,o,rfl,?_,fun j u hu=>?_⟩
 · have:=World.block_lt_of_cell? _ _ hc0
   simpa[Addr.add] using this
 · have:=hc j u hu
   rw[show(Addr.add ⟨b,o,none⟩ j)=⟨b,o+j,none⟩ from by unfold Addr.add; split <;> simp_all] at this
   exact this
theorem rd_ints {r:Reach} {b0:Nat} {w:World} {t e:TypeId} {k:IntKind} {v:Value} {d:DataW H} {ps:List MemPlace} (ht:P.underlying t=some (.slice e)) (he:P.underlying e=some (.int k)) (hc:P.cellsOf e=1)
 (hval:Value.okWide P w r b0 t v) (h:DataW.Trod enc P w 0 (fun _=>true) true t v d ps):
 ∃ (A:Option Addr) (n c:Nat) (us:List Int),v=.slice A n c∧Rd w w.heap.size 1 A n (us.map (Value.int k))∧n≤c∧c≤maxLen∧us.length=n∧∀ u∈us,(Lit.int k u).wf=true:=by
 obtain⟨A,n,c,rfl⟩:=okWide_slice ht hval;obtain⟨fuel,hf⟩:=h
 rcases open_ints ht he hc hf with ⟨hcs,_⟩ | ⟨a,l,c',zs,hcs,_,hl,hm,hz,_,hcell,hwz⟩
 · simp[Value.cells] at hcs
   obtain⟨rfl,rfl,rfl⟩:=hcs
   exact⟨none,0,0,[],rfl,Rd.nil,Nat.le_refl _,Nat.zero_le _,rfl,by simp⟩
 · simp[Value.cells] at hcs
   obtain⟨rfl,rfl,rfl⟩:=hcs;simp only[if_true] at hz
   have hlen:(zs.take n).length=n:=by rw[List.length_take,hz]; omega
   refine⟨_,n,c,zs.take n,rfl,rd_of_cells 1 (by omega) (by rw[List.length_map,hlen,Nat.mul_one]) (fun i u hu=>?_),hl,hm,hlen,fun u hu=>hwz u (List.mem_of_mem_take hu)⟩;rw[List.getElem?_map] at hu;obtain⟨z,hz',rfl⟩:=Option.map_eq_some_iff.1 hu
   have hi:i<n:=by
    have:=(List.getElem?_eq_some_iff.1 hz').1;omega
   rw[List.getElem?_take,if_pos hi] at hz';have:=hcell i (by omega);rw[this];simp[List.getD,hz']
end
end Go.Proofs.YtdmakpmbknindaaGreatDoor
namespace Go.Proofs.YtdmakpmbknindaaGreatDoor
open Go.ChangeShapes Go.WideShapes Go.ChangeAt Go.RowKit Go.Deep Go.Joins
section
variable {H:Type} {enc:TypeId × Value→H} {w:World}
theorem rd_ints_c {P:Program} {t e:TypeId} {k:IntKind} {m:Nat} {v:Value} {y:DataW H × List MemPlace} (ht:P.underlying t=some (.slice e)) (he:P.underlying e=some (.int k)) (hc:P.cellsOf e=1)
 (h:DataW.trod enc P w 0 (fun _=>true) true m t [v]=some y):∃ A n c us,v=.slice A n c∧RdI k w w.heap.size A n c us∧∀ u∈us,(Lit.int k u).wf=true:=by
 rcases open_ints ht he hc h with ⟨hcs,_⟩ | ⟨a,l,c',zs,hcs,_,hl,hm,hz,_,hcell,hwz⟩
 · injection hcs with hcs _
   subst hcs
   exact⟨none,0,0,[],rfl,RdI.nil,by simp⟩
 · injection hcs with hcs _
   subst hcs;simp only[if_true] at hz
   have hlen:(zs.take l).length=l:=by rw[List.length_take,hz]; omega
   refine⟨some a,l,c',zs.take l,rfl,⟨rd_of_cells 1 (by omega) (by rw[List.length_map,hlen,Nat.mul_one]) (fun i u hu=>?_),hl,hm⟩,fun u hu=>hwz u (List.mem_of_mem_take hu)⟩;rw[List.getElem?_map] at hu;obtain⟨z,hz',rfl⟩:=Option.map_eq_some_iff.1 hu
   have hi:i<l:=by
    have:=(List.getElem?_eq_some_iff.1 hz').1;omega
   rw[List.getElem?_take,if_pos hi] at hz';have:=hcell i (by omega);rw[this];simp[List.getD,hz']
end
end Go.Proofs.YtdmakpmbknindaaGreatDoor
namespace Go.Proofs.YtdmakpmbknindaaGreatDoor
open Go.ChangeShapes Go.WideShapes Go.ChangeAt Go.RowKit Go.Deep Go.Joins
section
variable {H:Type} {enc:TypeId × Value→H} {w:World} {P:Program}
def Light (P:Program) (t:TypeId) (d:DataW H):Prop:=∀ x∈d.weights P t,x≤reachBytes
theorem light_of {ts:List TypeId} {ds:List (DataW H)} (h:(DataW.weightsEach P ts ds).all (· ≤ reachBytes)=true) {j:Nat} {t:TypeId} {d:DataW H} (ht:ts[j]?=some t) (hd:ds[j]?=some d):Light P t d:=fun x hx=>by
 have:=List.all_eq_true.1 h _ (DataW.weights_mem_each ht hd x hx)
 simpa using this
theorem weightsAll_mem {e:TypeId}:∀ {l:List (DataW H)} {d:DataW H},d∈l→∀ x∈d.weights P e,x∈DataW.weightsAll P e l
 | y :: l,d,hd,x,hx=>by
   simp only[DataW.weightsAll,List.mem_append]
   rcases qk.1 hd with rfl | hd
   · exact .inl hx
   · exact .inr (weightsAll_mem hd x hx)
 | [],d,hd,_,_=>by simp at hd
theorem Light.slice {t e:TypeId} {elems spare:List (DataW H)} (hu:P.underlying t=some (.slice e)) (h:Light P t (.slice elems spare)):(elems.length+spare.length) * P.bytesOf e≤reachBytes∧∀ d∈elems,Light P e d:=by
 refine⟨h _ (by simp[DataW.weights,hu]),fun d hd x hx=>h x ?_⟩;simp only[DataW.weights,hu,qk,List.mem_append];exact .inr (.inl (weightsAll_mem hd x hx))
theorem Light.agg {t:TypeId} {fs:Array Field} {parts:List (DataW H)} (hu:P.underlying t=some (.struct fs)) (h:Light P t (.agg parts)) {i:Nat} {ft:TypeId} {p:DataW H} (hf:(fs.toList.map (·.type))[i]?=some ft) (hp:parts[i]?=some p):Light P ft p:=fun x hx=>
 h x (by simp only[DataW.weights,hu]; exact DataW.weights_mem_each hf hp x hx)
theorem rows_in {X:Type} [Inhabited X] {t e:TypeId} (k:Nat) (El:List Value→X→Prop) (ht:P.underlying t=some (.slice e)) (hk:P.cellsOf e=k) (hk0:0<k)
 (hel:∀ (n:Nat) (cs':List Value) (D:DataW H) (Pl:List MemPlace),cs'.length=k→DataW.trod enc P w 0 (fun _=>true) true n e cs'=some (D,Pl)→Light P e D→∃ x,El cs' x)
 {fuel:Nat} {cs:List Value} {x:DataW H × List MemPlace} (h:DataW.trod enc P w 0 (fun _=>true) true fuel t cs=some x) (hl:Light P t x.1):
 ∃ (A:Option Addr) (n c:Nat) (xs:List X),cs=[.slice A n c]∧xs.length=n∧n≤c∧c≤maxLen∧n * P.bytesOf e≤reachBytes ∧
  (0<n→∃ b off,A=some ⟨b,off,none⟩∧b<w.heap.size∧∀ i (hi:i<xs.length),∃ cs':List Value,cs'.length=k∧(∀ j (hj:j<cs'.length),w.cell? ⟨b,off+i * k+j,none⟩=some cs'[j])∧El cs' xs[i]) ∧
  (∀ y∈xs,∃ cs',El cs' y):=by
 rcases open_slice ht h with ⟨hcs,_⟩ | ⟨a,l,c',m,n',D,Pl,hcs,hb,hln,hm,hmm,hx,hi⟩
 · exact⟨none,0,0,[],hcs,rfl,Nat.le_refl _,Nat.zero_le _,by omega,fun h=>absurd h (by omega),by simp⟩
 · simp only[if_true] at hmm
   subst hmm;subst hx;have hL:=Light.slice ht hl
   have hall:∀ i,i<l→∃ x:X,∃ b off,a=⟨b,off,none⟩∧b<w.heap.size∧∃ cs':List Value,cs'.length=k∧(∀ j (hj:j<cs'.length),w.cell? ⟨b,off+i * k+j,none⟩=some cs'[j])∧El cs' x:=by
    intro i hin;obtain⟨cs',hc,ht'⟩:=hi i (by omega);rw[hk] at hc;obtain⟨_,hcl,hat⟩:=World.cells?_some hc;obtain⟨x,hx⟩:=hel _ _ _ _ hcl ht' (hL.2 _ (List.mem_map.2 ⟨i,List.mem_range.2 hin,rfl⟩));obtain⟨b,off,sp⟩:=a
    have hs:sp=none:=by
     obtain⟨cs0,hc0,_⟩:=hi 0 (by omega);rw[hk] at hc0;have d0:=(World.cells?_some hc0).2.2 0 (by omega);simp only[Nat.zero_mul,Nat.add_zero,Addr.add,if_true] at d0
     rw[qj (by rw[(World.cells?_some hc0).2.1]; exact hk0)] at d0
     exact spot_none d0
    subst hs;simp only[Go.Deep.add_add] at hat;have h0:=hat 0 (by omega);rw[addr_add,qj (by omega)] at h0;refine⟨x,b,off,rfl,World.block_lt_of_cell? _ _ h0,cs',hcl,fun j hj=>?_,hx⟩;have hj':=hat j (by omega);rw[addr_add,qj hj] at hj';rw[Nat.add_assoc];exact hj'
   obtain⟨f,hf⟩:=choose_lt hall
   refine⟨some a,l,m,(List.range l).map f,hcs,by simp,hln,hm,?_,fun hn=>?_,fun y hy=>?_⟩
   · have:=hL.1
     simp only[List.length_map,List.length_range] at this;exact Nat.le_trans (Nat.mul_le_mul_right _ (by omega)) this
   · obtain⟨b,off,rfl,hb,_⟩:=hf 0 hn
     refine⟨b,off,rfl,hb,fun i hi=>?_⟩;rw[List.length_map,List.length_range] at hi;obtain⟨b',off',e,_,h'⟩:=hf i hi
     injection e with e1 e2 _
     subst e1; subst e2
     simpa using h'
   · obtain⟨i,hi,rfl⟩:=List.mem_map.1 hy
     obtain⟨_,_,_,_,cs',_,_,hw⟩:=hf i (List.mem_range.1 hi);exact⟨cs',hw⟩
theorem field_in {t:TypeId} {fs:Array Field} {fuel:Nat} {cs:List Value} {x:DataW H × List MemPlace} (ht:P.underlying t=some (.struct fs)) (h:DataW.trod enc P w 0 (fun _=>true) true fuel t cs=some x) (hl:Light P t x.1):
 ∃ n,cs.length=P.cellsOf t∧∀ (i:Nat) (f:Field),fs[i]?=some f→∃ y:DataW H × List MemPlace,DataW.trod enc P w 0 (fun _=>true) true n f.type ((cs.drop f.offset).take (P.cellsOf f.type))=some y∧Light P f.type y.1:=by
 obtain⟨xs,n,rfl,rfl,hcl,hxl,hf⟩:=DataW.trod_struct ht h;refine⟨n,hcl,fun i f hfi=>?_⟩;have h1:=hf i f hfi
 have hi:i<xs.length:=by rw[hxl]; exact(Array.getElem?_eq_some_iff.1 hfi).1
 rw[qj hi] at h1;refine⟨_,h1,hl.agg ht (i:=i) ?_ ?_⟩
 · rw[List.getElem?_map,Array.getElem?_toList,hfi]; rfl
 · rw[List.getElem?_map,qj hi]; rfl
end
end Go.Proofs.YtdmakpmbknindaaGreatDoor
