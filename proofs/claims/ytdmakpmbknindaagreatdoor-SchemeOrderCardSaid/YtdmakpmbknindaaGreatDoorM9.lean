import Derived.Test.YtdmakpmbknindaaGreatDoorM8
import Derived.Test.YtdmakpmbknindaaGreatDoorM4
import Derived.Test.YtdmakpmbknindaaGreatDoorM5
namespace Go.Proofs.YtdmakpmbknindaaGreatDoor
set_option linter.unusedVariables false
set_option linter.unusedSimpArgs false
open Go.RowKit Go.Shelf
attribute [local go_sem] Oper.semAt_some
structure LnE (N gT bT bU:Nat) (DS:List Nat) (w W:World) (s:List Int × Int):Prop where
 row:Blk W gT 22 (s.1.map (Value.int .u8)).toArray
 bt:Blk W bT 35 #[.slice (some ⟨gT,0,none⟩) N N]
 bu:Blk W bU 22 #[.int .u8 s.2]
 mark:∀ D∈DS,W.heap[D]?=some (.deferred (some []))
 bel:Below w.heap.size w W
section
variable {N gT bT bU B:Nat} {DS:List Nat} {w A C:World} {s:List Int × Int}
theorem LnE.below (h:LnE N gT bT bU DS w A s) (hb:Below B A C) (h1:gT<B) (h2:bT<B) (h3:bU<B) (h4:∀ D∈DS,D<B) (hw:w.heap.size≤B):LnE N gT bT bU DS w C s:=
 ⟨h.row.below hb h1,h.bt.below hb h2,h.bu.below hb h3,fun D hD=>(hb.block D (h4 D hD)).trans (h.mark D hD),h.bel.trans (hb.mono hw)⟩
theorem LnE.up (h:LnE N gT bT bU DS w A s) (h1:gT≠bU) (h2:bT≠bU) (h3:∀ D∈DS,D≠bU) (h4:w.heap.size≤bU) (u:Int):LnE N gT bT bU DS w (A.setCell ⟨bU,0,none⟩ (.int .u8 u)) (s.1,u):=
 ⟨h.row.other h1.symm _ _,h.bt.other h2.symm _ _,by simpa using h.bu.set_ 0 (.int .u8 u),fun D hD=>by rw[Below.heap_setCell _ _ _ _ (h3 D hD)]; exact h.mark D hD,h.bel.setCell (p:=⟨bU,0,none⟩) h4 _⟩
theorem LnE.to (h:LnE N gT bT bU DS w A s) (h1:bU≠gT) (h2:bT≠gT) (h3:∀ D∈DS,D≠gT) (h4:w.heap.size≤gT) (r:Nat) (m:Int):LnE N gT bT bU DS w (A.setCell ⟨gT,r,none⟩ (.int .u8 m)) (s.1.set r m,s.2):=by
 refine⟨?_,h.bt.other h2.symm _ _,h.bu.other h1.symm _ _,fun D hD=>by rw[Below.heap_setCell _ _ _ _ (h3 D hD)]; exact h.mark D hD,h.bel.setCell (p:=⟨gT,r,none⟩) h4 _⟩
 have:=h.row.set_ r (.int .u8 m);rw[List.map_set]
 simpa using this
end
set_option maxRecDepth 100000 in
set_option maxHeartbeats 4000000 in
theorem line_any (N:Nat) (Aw:Option Addr) (cw:Nat) (xs:List IneqD) (v:Nat) (w:World) (hN:N≤1048576) (hv:v<N) (hw:WellE N xs) (hx3:∀ x∈xs,x.c≤3) (hxl:xs.length≤1048576) (hweb:WebR w w.heap.size Aw N cw xs):
 Calls Tryz.prog 109 #[.slice Aw N cw,.int .i64 v,.int .i64 N] w fun e w'=>∃ gT to up,e=.returned (.tuple #[.slice (some ⟨gT,0,none⟩) N N,.int .u8 up])∧Blk w' gT 22 (to.map (Value.int .u8)).toArray∧LineE N xs v to up∧w.heap.size≤gT∧Below w.heap.size w w':=by
 refine(callsIn_wide (n:=10)).1 ?_;have hro:Fence.wide.round=none:=rfl;have hone:=blk_new w #[.int .u8 3] 22;have hb1:=below_box (w:=w) (Obj.cells #[.int .u8 3] 22);have hrep:=repeat_mult (.int .u8 3) rfl N hN ⟨w.heap.size,0,none⟩ 1 (w.alloc (Obj.cells #[.int .u8 3] 22)) (hone.cell 0) (by simp);have Hrep:=qq hrep;have Hb1:=qq hb1;have Hweb:=qq hweb;have Hw:=qq hw;have Hx3:=qq hx3;clear hone hb1 hrep hweb hw hx3;refine callsIn_of_wp_marks Tryz.func109 rfl trivial ?_ hro;simp only[Tryz.ntmps109,List.size_toArray,List.length_cons,List.length_nil,Nat.reduceAdd,Nat.reduceSub,Array.replicate_succ,Array.replicate_zero,List.push_toArray,List.append_toArray,List.nil_append,List.cons_append]
 gi_wp2_with (refine⟨trivial,?_⟩; gi_at_call 31; refine(callsIn_wide.2 Hrep.out).mono ?_; rintro e w1 ⟨gT,rfl,hrow,hgT,hb2⟩)
 obtain⟨W2,hW2⟩:∃ W2,(w1.alloc (Obj.cells #[.slice (some ⟨gT,0,none⟩) N N] 35)).alloc (Obj.cells #[.int .u8 3] 22)=W2:=⟨_,rfl⟩
 have hb12:Below w1.heap.size w1 W2:=by rw[← hW2]; exact((Below.refl _ _).alloc (Nat.le_refl _) _).alloc (by simp) _
 have hs1:w.heap.size≤w1.heap.size:=Nat.le_trans Hb1.out.size hb2.size
 have hs2:W2.heap.size=w1.heap.size+1+1:=by rw[← hW2]; simp
 have hln:LnE N gT w1.heap.size (w1.heap.size+1) [] w W2 (List.replicate N 3,3):=by
  refine⟨?_,?_,?_,fun D hD=>absurd hD (by simp),Hb1.out.trans ((hb2.trans (hb12.mono hb2.size)).mono Hb1.out.size)⟩
  · rw[List.map_replicate]; exact hrow.below hb12 hrow.lt
  · rw[← hW2]; exact(blk_new w1 _ _).alloc _
  · rw[← hW2]
    have:=blk_new (w1.alloc (Obj.cells #[.slice (some ⟨gT,0,none⟩) N N] 35)) #[.int .u8 3] 22;rwa [World.size_alloc] at this
 have hgT0:w.heap.size≤gT:=by have:=Hb1.out.size; omega
 have hgT1:gT<w1.heap.size:=hrow.lt;have Hln:=qq hln;have HW2:=qq hW2;clear hrow hb2 hb12 hln hW2 Hrep hgT;rw[HW2.out];refine wpIn_loop_rounds 3 ?_;rw[roundsIn_succ]
 gi_wp2_with (refine⟨trivial,?_⟩; gi_at_call 144; refine(reach_in Fence.wide _ trivial hro _ _ _ _ _ _).mono ?_; rintro e w3 ⟨rfl,rfl⟩)
 have hS1:(List.replicate N (3:Int),(3:Int)).1.length=N:=by simp
 have hDS:∀ D∈([]:List Nat),D<W2.heap.size∧D≠gT∧D≠w1.heap.size+1:=fun D hD=>absurd hD (by simp);obtain⟨W5,hW5⟩:∃ W5,((W2.alloc (Obj.cells #[.slice Aw N cw] 148)).alloc (Obj.cells #[.int .i64 v] 3)).alloc (Obj.cells #[.int .u8 2] 22)=W5:=⟨_,rfl⟩
 have hb5:Below W2.heap.size W2 W5:=by rw[← hW5]; exact(((Below.refl _ _).alloc (Nat.le_refl _) _).alloc (by simp) _).alloc (by simp; omega) _
 have hs5:W5.heap.size=W2.heap.size+1+1+1:=by rw[← hW5]; simp
 have k5a:Blk W5 W2.heap.size 148 #[.slice Aw N cw]:=by rw[← hW5]; exact((blk_new W2 _ _).alloc _).alloc _
 have k5b:Blk W5 (W2.heap.size+1) 3 #[.int .i64 v]:=by
  rw[← hW5];have:=(blk_new (W2.alloc (Obj.cells #[.slice Aw N cw] 148)) #[.int .i64 v] 3).alloc (Obj.cells #[.int .u8 2] 22);rwa [World.size_alloc] at this
 have k5c:Blk W5 (W2.heap.size+1+1) 22 #[.int .u8 2]:=by
  rw[← hW5];have:=blk_new ((W2.alloc (Obj.cells #[.slice Aw N cw] 148)).alloc (Obj.cells #[.int .i64 v] 3)) #[.int .u8 2] 22;rwa [World.size_alloc,World.size_alloc] at this
 have hln5:=Hln.out.below hb5 (by omega) (by omega) (by omega) (fun D hD=>(hDS D hD).1) (by omega);rw[hW5]
 have hga:W2.heap.size=w1.heap.size+1+1:=by omega
 rw[hga] at k5a k5b k5c
 refine wpIn_range_cells (α:=PairE N) hro (by omega) (gf:=161) (lb:=#[.pointer (some ⟨w1.heap.size+1+1,0,none⟩),.pointer (some ⟨w1.heap.size+1+1+1,0,none⟩),.pointer (some ⟨w1.heap.size+1+1+1+1,0,none⟩)]) rfl trivial (enters_of Tryz.func161 (by kernel_rfl) rfl)
  (reach1_stops Fence.wide _ trivial hro (by omega) (w1.heap.size+1+1) (w1.heap.size+1+1+1) (w1.heap.size+1+1+1+1) w.heap.size N [gT,w1.heap.size+1] Aw cw xs v 2 W5 hN hv (by omega) Hw.out Hx3.out hxl k5a k5b k5c (fun s hs=>by simp at hs; omega) (by simp; omega) (by simp; omega) (by simp; omega) (by omega) (Hweb.out.below hln5.bel))
  (fun h k=>⟨h.1.trans k.1,h.2.trans k.2⟩) (fun A o o' h ho=>⟨(Below.refl _ A).grown (grownBy_putObj' A _ o') (by have:=(Array.getElem?_eq_some_iff.1 h).1; omega) (fun k e=>by cases e; omega),KeepC.record h ho o'⟩) (Below.refl _ _) (fun _=>rfl)
  (fun(pre:List (PairE N)) W=>LnE N gT w1.heap.size (w1.heap.size+1) ([]) w W (lineS ((List.replicate N 3,3)) (pre.map Subtype.val))) (fun pre A B h hb=>h.below hb (by omega) (by omega) (by omega) (fun D hD=>by have:=(hDS D hD).1; omega) (by omega)) (by simpa[lineS] using hln5) ?round ?done
 case round=>
  rintro l pre ⟨⟨r0,m⟩,hx0,hx1,hx2,hx4⟩ A B hsB hIB hlen;have hx0 : -1≤r0:=hx0;have hx1:r0<(N:Int):=hx1
  have hbl:(lineS ((List.replicate N 3,3)) (pre.map Subtype.val)).1.length=N:=by rw[lineS_len]; first | exact hS1 | exact hS2
  obtain⟨s',hs'⟩:∃ s',lineS ((List.replicate N 3,3)) (pre.map Subtype.val)=s':=⟨_,rfl⟩;rw[hs'] at hIB hbl;have t8:B.cell? ⟨w1.heap.size,0,none⟩=some (.slice (some ⟨gT,0,none⟩) N N):=hIB.bt.cell 0;have t9:B.cell? ⟨w1.heap.size+1,0,none⟩=some (.int .u8 s'.2):=hIB.bu.cell 0;have f9:=hIB.bu.frozen 0;have hmn:=@run_min2 Tryz.prog;have HIB:=qq hIB;have Hs':=qq hs';clear hIB hs' k5a k5b k5c hln5 hb5 hW5;dsimp only[encE]
  by_cases hneg:r0<0
  · have d1:decide (r0<0)=true:=by simpa using hneg
    have hk:∀ k,k=W5.heap.size∨k=W5.heap.size+1→(B.setCell ⟨w1.heap.size+1,0,none⟩ (.int .u8 (min s'.2 m))).heap[k]?=B.heap[k]?:=fun k hk=>Below.heap_setCell _ _ _ _ (by show k≠w1.heap.size+1; omega)
    have hkp:Below w.heap.size B (B.setCell ⟨w1.heap.size+1,0,none⟩ (.int .u8 (min s'.2 m))):=(Below.refl _ B).setCell (p:=⟨w1.heap.size+1,0,none⟩) (by show w.heap.size≤w1.heap.size+1; omega) _
    have hkc:KeepC [gT,w1.heap.size+1] B (B.setCell ⟨w1.heap.size+1,0,none⟩ (.int .u8 (min s'.2 m))):=KeepC.setCell (by simp) _
    have hnew:=HIB.out.up (by omega) (by omega) (fun D hD=>by have:=(hDS D hD).2; omega) (by omega) (min s'.2 m)
    have hsn:lineS ((List.replicate N 3,3)) ((pre++[(⟨(r0,m),hx0,hx1,hx2,hx4⟩:PairE N)]).map Subtype.val)=(s'.1,min s'.2 m):=by
     rw[List.map_append];show lineS _ (_++[(r0,m)])=_;rw[lineS_snoc,Hs'.out,if_pos hneg]
    rw[← hsn] at hnew;have Hk:=qq hk;have Hkp:=qq hkp;have Hkc:=qq hkc;have Hnew:=qq hnew;clear hk hkp hkc hnew hsn hneg
    gi_wp2
    exact⟨fun k hk=>Hk.out k (by omega),⟨Hkp.out,Hkc.out⟩,Hnew.out⟩
  · have d1:decide (r0<0)=false:=by simpa using hneg
    obtain⟨r,rfl⟩:∃ r:Nat,r0=(r:Int):=⟨r0.toNat,(Int.toNat_of_nonneg (by omega)).symm⟩
    have hrN:r<N:=by omega
    have t7:B.cell? ⟨gT,r,none⟩=some (.int .u8 (s'.1.getD r 0)):=by
     rw[HIB.out.row.cell r,qc,List.getElem?_map,qj (by omega),List.getD_eq_getElem?_getD,qj (by omega)];rfl
    have f7:=HIB.out.row.frozen r
    have k7:(0:Int)≤(r:Int):=by omega
    have hk:∀ k,k=W5.heap.size∨k=W5.heap.size+1→(B.setCell ⟨gT,r,none⟩ (.int .u8 m)).heap[k]?=B.heap[k]?:=fun k hk=>Below.heap_setCell _ _ _ _ (by show k≠gT; omega)
    have hkp:Below w.heap.size B (B.setCell ⟨gT,r,none⟩ (.int .u8 m)):=(Below.refl _ B).setCell (p:=⟨gT,r,none⟩) (by show w.heap.size≤gT; omega) _
    have hkc:KeepC [gT,w1.heap.size+1] B (B.setCell ⟨gT,r,none⟩ (.int .u8 m)):=KeepC.setCell (by simp) _
    have hnew:=HIB.out.to (by omega) (by omega) (fun D hD=>by have:=(hDS D hD).2; omega) (by omega) r m
    have hsn:lineS ((List.replicate N 3,3)) ((pre++[(⟨((r:Int),m),hx0,hx1,hx2,hx4⟩:PairE N)]).map Subtype.val)=(s'.1.set r m,s'.2):=by
     rw[List.map_append];show lineS _ (_++[((r:Int),m)])=_;rw[lineS_snoc,Hs'.out,if_neg hneg];rfl
    rw[← hsn] at hnew;have Hk:=qq hk;have Hkp:=qq hkp;have Hkc:=qq hkc;have Hnew:=qq hnew;clear hk hkp hkc hnew hsn hneg
    gi_wp2
    exact⟨fun k hk=>Hk.out k (by omega),⟨Hkp.out,Hkc.out⟩,Hnew.out⟩
 case done=>
  intro ys2 W6 hall2 hln6 hD2;obtain⟨y2,hy2⟩:∃ y,ys2.map (fun x:PairE N=>x.val)=y:=⟨_,rfl⟩;obtain⟨q2,hq2⟩:∃ q,lineS (List.replicate N 3,3) y2=q:=⟨_,rfl⟩
  have hS2:q2.1.length=N:=by rw[← hq2,lineS_len]; exact hS1
  rw[show ys2.map Subtype.val=y2 from hy2,hq2] at hln6
  rw[hy2] at hall2;have hs6:W5.heap.size<W6.heap.size:=(Array.getElem?_eq_some_iff.1 hD2).1;obtain⟨D5,hD5⟩:∃ D,W5.heap.size=D:=⟨_,rfl⟩
  have hln6':LnE N gT w1.heap.size (w1.heap.size+1) [D5] w W6 q2:=⟨hln6.row,hln6.bt,hln6.bu,fun D hD=>by simp at hD; rw[hD,← hD5]; exact hD2,hln6.bel⟩
  have hDS2:∀ D∈[D5],D<W6.heap.size∧D≠gT∧D≠w1.heap.size+1:=fun D hD=>by simp at hD; subst hD; omega
  have Hln6:=qq hln6';have Hall2:=qq hall2;have Hq2:=qq hq2;have hws6:=hln6.bel.size;clear hln6 hln6' hall2 hq2 k5a k5b k5c hln5 hb5 hW5 hy2 hD2
  have hdd:w1.heap.size+1+1+1+1+1=D5:=by omega
  clear hs5 hga
  gi_wp2
  rw[roundsIn_succ]
  gi_wp2_with (refine⟨trivial,?_⟩; gi_at_call 144; refine(reach_in Fence.wide _ trivial hro _ _ _ _ _ _).mono ?_; rintro e w7 ⟨rfl,rfl⟩)
  obtain⟨W5,hW5⟩:∃ W5,((W6.alloc (Obj.cells #[.slice Aw N cw] 148)).alloc (Obj.cells #[.int .i64 v] 3)).alloc (Obj.cells #[.int .u8 1] 22)=W5:=⟨_,rfl⟩
  have hb5:Below W6.heap.size W6 W5:=by rw[← hW5]; exact(((Below.refl _ _).alloc (Nat.le_refl _) _).alloc (by simp) _).alloc (by simp; omega) _
  have hs5:W5.heap.size=W6.heap.size+1+1+1:=by rw[← hW5]; simp
  have k5a:Blk W5 W6.heap.size 148 #[.slice Aw N cw]:=by rw[← hW5]; exact((blk_new W6 _ _).alloc _).alloc _
  have k5b:Blk W5 (W6.heap.size+1) 3 #[.int .i64 v]:=by
   rw[← hW5];have:=(blk_new (W6.alloc (Obj.cells #[.slice Aw N cw] 148)) #[.int .i64 v] 3).alloc (Obj.cells #[.int .u8 1] 22);rwa [World.size_alloc] at this
  have k5c:Blk W5 (W6.heap.size+1+1) 22 #[.int .u8 1]:=by
   rw[← hW5];have:=blk_new ((W6.alloc (Obj.cells #[.slice Aw N cw] 148)).alloc (Obj.cells #[.int .i64 v] 3)) #[.int .u8 1] 22;rwa [World.size_alloc,World.size_alloc] at this
  have hln5:=Hln6.out.below hb5 (by omega) (by omega) (by omega) (fun D hD=>(hDS2 D hD).1) (by omega);rw[hW5]
  have hga:W6.heap.size=W6.heap.size:=by omega
  rw[hga] at k5a k5b k5c
  refine wpIn_range_cells (α:=PairE N) hro (by omega) (gf:=161) (lb:=#[.pointer (some ⟨W6.heap.size,0,none⟩),.pointer (some ⟨W6.heap.size+1,0,none⟩),.pointer (some ⟨W6.heap.size+1+1,0,none⟩)]) rfl trivial (enters_of Tryz.func161 (by kernel_rfl) rfl)
   (reach1_stops Fence.wide _ trivial hro (by omega) (W6.heap.size) (W6.heap.size+1) (W6.heap.size+1+1) w.heap.size N [gT,w1.heap.size+1] Aw cw xs v 1 W5 hN hv (by omega) Hw.out Hx3.out hxl k5a k5b k5c (fun s hs=>by simp at hs; omega) (by simp; omega) (by simp; omega) (by simp; omega) (by omega) (Hweb.out.below hln5.bel))
   (fun h k=>⟨h.1.trans k.1,h.2.trans k.2⟩) (fun A o o' h ho=>⟨(Below.refl _ A).grown (grownBy_putObj' A _ o') (by have:=(Array.getElem?_eq_some_iff.1 h).1; omega) (fun k e=>by cases e; omega),KeepC.record h ho o'⟩) (Below.refl _ _) (fun _=>rfl)
   (fun(pre:List (PairE N)) W=>LnE N gT w1.heap.size (w1.heap.size+1) ([D5]) w W (lineS (q2) (pre.map Subtype.val))) (fun pre A B h hb=>h.below hb (by omega) (by omega) (by omega) (fun D hD=>by have:=(hDS2 D hD).1; omega) (by omega)) (by simpa[lineS] using hln5) ?round ?done
  case round=>
   rintro l pre ⟨⟨r0,m⟩,hx0,hx1,hx2,hx4⟩ A B hsB hIB hlen;have hx0 : -1≤r0:=hx0;have hx1:r0<(N:Int):=hx1
   have hbl:(lineS (q2) (pre.map Subtype.val)).1.length=N:=by rw[lineS_len]; first | exact hS1 | exact hS2
   obtain⟨s',hs'⟩:∃ s',lineS (q2) (pre.map Subtype.val)=s':=⟨_,rfl⟩;rw[hs'] at hIB hbl;have t8:B.cell? ⟨w1.heap.size,0,none⟩=some (.slice (some ⟨gT,0,none⟩) N N):=hIB.bt.cell 0;have t9:B.cell? ⟨w1.heap.size+1,0,none⟩=some (.int .u8 s'.2):=hIB.bu.cell 0;have f9:=hIB.bu.frozen 0;have hmn:=@run_min2 Tryz.prog;have HIB:=qq hIB;have Hs':=qq hs';clear hIB hs' k5a k5b k5c hln5 hb5 hW5;dsimp only[encE]
   by_cases hneg:r0<0
   · have d1:decide (r0<0)=true:=by simpa using hneg
     have hk:∀ k,k=W5.heap.size∨k=W5.heap.size+1→(B.setCell ⟨w1.heap.size+1,0,none⟩ (.int .u8 (min s'.2 m))).heap[k]?=B.heap[k]?:=fun k hk=>Below.heap_setCell _ _ _ _ (by show k≠w1.heap.size+1; omega)
     have hkp:Below w.heap.size B (B.setCell ⟨w1.heap.size+1,0,none⟩ (.int .u8 (min s'.2 m))):=(Below.refl _ B).setCell (p:=⟨w1.heap.size+1,0,none⟩) (by show w.heap.size≤w1.heap.size+1; omega) _
     have hkc:KeepC [gT,w1.heap.size+1] B (B.setCell ⟨w1.heap.size+1,0,none⟩ (.int .u8 (min s'.2 m))):=KeepC.setCell (by simp) _
     have hnew:=HIB.out.up (by omega) (by omega) (fun D hD=>by have:=(hDS2 D hD).2; omega) (by omega) (min s'.2 m)
     have hsn:lineS (q2) ((pre++[(⟨(r0,m),hx0,hx1,hx2,hx4⟩:PairE N)]).map Subtype.val)=(s'.1,min s'.2 m):=by
      rw[List.map_append];show lineS _ (_++[(r0,m)])=_;rw[lineS_snoc,Hs'.out,if_pos hneg]
     rw[← hsn] at hnew;have Hk:=qq hk;have Hkp:=qq hkp;have Hkc:=qq hkc;have Hnew:=qq hnew;clear hk hkp hkc hnew hsn hneg
     gi_wp2
     exact⟨fun k hk=>Hk.out k (by omega),⟨Hkp.out,Hkc.out⟩,Hnew.out⟩
   · have d1:decide (r0<0)=false:=by simpa using hneg
     obtain⟨r,rfl⟩:∃ r:Nat,r0=(r:Int):=⟨r0.toNat,(Int.toNat_of_nonneg (by omega)).symm⟩
     have hrN:r<N:=by omega
     have t7:B.cell? ⟨gT,r,none⟩=some (.int .u8 (s'.1.getD r 0)):=by
      rw[HIB.out.row.cell r,qc,List.getElem?_map,qj (by omega),List.getD_eq_getElem?_getD,qj (by omega)];rfl
     have f7:=HIB.out.row.frozen r
     have k7:(0:Int)≤(r:Int):=by omega
     have hk:∀ k,k=W5.heap.size∨k=W5.heap.size+1→(B.setCell ⟨gT,r,none⟩ (.int .u8 m)).heap[k]?=B.heap[k]?:=fun k hk=>Below.heap_setCell _ _ _ _ (by show k≠gT; omega)
     have hkp:Below w.heap.size B (B.setCell ⟨gT,r,none⟩ (.int .u8 m)):=(Below.refl _ B).setCell (p:=⟨gT,r,none⟩) (by show w.heap.size≤gT; omega) _
     have hkc:KeepC [gT,w1.heap.size+1] B (B.setCell ⟨gT,r,none⟩ (.int .u8 m)):=KeepC.setCell (by simp) _
     have hnew:=HIB.out.to (by omega) (by omega) (fun D hD=>by have:=(hDS2 D hD).2; omega) (by omega) r m
     have hsn:lineS (q2) ((pre++[(⟨((r:Int),m),hx0,hx1,hx2,hx4⟩:PairE N)]).map Subtype.val)=(s'.1.set r m,s'.2):=by
      rw[List.map_append];show lineS _ (_++[((r:Int),m)])=_;rw[lineS_snoc,Hs'.out,if_neg hneg];rfl
     rw[← hsn] at hnew;have Hk:=qq hk;have Hkp:=qq hkp;have Hkc:=qq hkc;have Hnew:=qq hnew;clear hk hkp hkc hnew hsn hneg
     gi_wp2
     exact⟨fun k hk=>Hk.out k (by omega),⟨Hkp.out,Hkc.out⟩,Hnew.out⟩
  case done=>
   intro ys1 W8 hall1 hln8 hD8;obtain⟨y1,hy1⟩:∃ y,ys1.map (fun x:PairE N=>x.val)=y:=⟨_,rfl⟩;obtain⟨⟨to,up⟩,hq1⟩:∃ q,lineS q2 y1=q:=⟨_,rfl⟩
   rw[show ys1.map Subtype.val=y1 from hy1,hq1] at hln8
   rw[hy1] at hall1;have hline:=line_of Hw.out hv Hall2.out hall1 (to:=to) (up:=up) (by rw[Hq2.out,hq1])
   have htl:to.length=N:=by
    have:=lineS_len q2 y1;rw[hq1] at this;exact this.trans hS2
   have htl2:(to,up).1.length=N:=htl;have t8:W8.cell? ⟨w1.heap.size,0,none⟩=some (.slice (some ⟨gT,0,none⟩) N N):=hln8.bt.cell 0
   have t7:W8.cell? ⟨gT,v,none⟩=some (.int .u8 (to.getD v 0)):=by
    rw[hln8.row.cell v,qc,List.getElem?_map,qj (by omega),List.getD_eq_getElem?_getD,qj (by omega)];rfl
   have f7:=hln8.row.frozen v
   have hnew:=hln8.to (by omega) (by omega) (fun D hD=>by have:=(hDS2 D hD).2; omega) (by omega) v 1
   have t8':(W8.setCell ⟨gT,v,none⟩ (.int .u8 1)).cell? ⟨w1.heap.size,0,none⟩=some (.slice (some ⟨gT,0,none⟩) N N):=hnew.bt.cell 0;have t9':(W8.setCell ⟨gT,v,none⟩ (.int .u8 1)).cell? ⟨w1.heap.size+1,0,none⟩=some (.int .u8 up):=hnew.bu.cell 0;have kt8:=fun d os=>cell_regrown t8' d os;have kt9:=fun d os=>cell_regrown t9' d os
   have hvi:(0:Int)≤(v:Int):=by omega
   have hvN:(v:Int)<N:=by omega
   have hD9:(W8.setCell ⟨gT,v,none⟩ (.int .u8 1)).heap[W5.heap.size]?=some (.deferred (some [])):=by
    rw[Below.heap_setCell _ _ _ _ (by show W5.heap.size≠gT; omega)]; exact hD8
   have hD7:=hnew.mark D5 (by simp);have Hnew:=qq hnew;have Hline:=qq hline;have Hd9:=qq hD9;have Hd7:=qq hD7;clear hln8 hall1 hline hq1 hy1 hD8 hnew hD9 hD7 t8' t9' k5a k5b k5c hln5 hb5 hW5
   gi_wp2
   rw[roundsIn_succ]
   gi_wp2
   refine wpIn_region_quiet_below hro (by kernel_rfl) (by kernel_rfl) ?_
   repeat (quiet_step_in (fail))
   refine wpQuietIn_nil ?_;intro _ hw';obtain⟨⟨dq,osq⟩,hw''⟩:=hw';subst hw'';obtain⟨W9,hW9⟩:∃ W9,Sort.grow (redrawn (W8.setCell ⟨gT,v,none⟩ (.int .u8 1)) dq) osq=W9:=⟨_,rfl⟩;have hbr:=below_regrown (W8.setCell ⟨gT,v,none⟩ (.int .u8 1)) dq osq;rw[hW9] at hbr ⊢;have hd9:=(hbr.block _ (Array.getElem?_eq_some_iff.1 Hd9.out).1).trans Hd9.out;have hd7:=(hbr.block _ (Array.getElem?_eq_some_iff.1 Hd7.out).1).trans Hd7.out;have hrow9:=Hnew.out.row.below hbr Hnew.out.row.lt;have hbel9:=Hnew.out.bel.trans (hbr.mono Hnew.out.bel.size);rw[hs5] at hd9;clear kt8 kt9 hW9 hbr
   gi_wp2
   have hw9:=hbel9.size;have hd79:(W9.putObj (W6.heap.size+1+1+1) (.deferred none)).heap[D5]?=some (.deferred (some [])):=(World.putObj_heap_other (by omega)).trans hd7;have hl9:W6.heap.size+1+1+1<W9.heap.size:=(Array.getElem?_eq_some_iff.1 hd9).1
   have hbA:=hbel9.trans ((Below.refl w.heap.size W9).grown (grownBy_putObj' W9 (W6.heap.size+1+1+1) (.deferred none)) (by omega) (fun k e=>by cases e; omega))
   have hbB:=hbA.trans ((Below.refl w.heap.size (W9.putObj (W6.heap.size+1+1+1) (.deferred none))).grown (grownBy_putObj' _ D5 (.deferred none)) (by have:=hbA.size; omega) (fun k e=>by cases e; omega))
   have hrA:Blk ((W9.putObj (W6.heap.size+1+1+1) (.deferred none)).putObj D5 (.deferred none)) gT 22 ((to.set v 1).map (Value.int .u8)).toArray:=(World.putObj_heap_other (by omega)).trans ((World.putObj_heap_other (by omega)).trans hrow9)
   refine⟨by simp,.inl ⟨_,_,rfl,run_takeDeferred hd9,?_⟩⟩
   refine⟨by simp,.inl ⟨_,_,rfl,run_takeDeferred hd79,?_⟩⟩
   exact⟨_,results_tmp2 rfl _ _ _,gT,_,_,rfl,hrA,Hline.out,hgT0,hbB⟩
end Go.Proofs.YtdmakpmbknindaaGreatDoor
namespace Go.Proofs.YtdmakpmbknindaaGreatDoor
set_option linter.unusedVariables false
set_option linter.unusedSimpArgs false
open Go.RowKit
theorem RowC.of_own {w:World} {base g n c:Nat} {t:TypeId} {k:IntKind} {us:List Int} (h:w.ownsRow base t 1 (.slice (some ⟨g,0,none⟩) n c) n (us.map (Value.int k))):RowC w g t k us∧us.length=n∧n≤c∧c≤maxLen∧base≤g:=by
 have hl:us.length=n:=by have:=h.1; simpa using this
 rcases h.2 with ⟨e0,_⟩ | ⟨g',cap,cur,e0,hb,hg,hn,hm,hs,ht⟩
 · cases e0
 · injection e0 with e1 _ e3
   injection e1 with e1
   injection e1 with e1
   subst e1; subst e3
   refine⟨⟨cur,hg,by omega,fun i hi=>?_⟩,hl,hn,hm,hb⟩
   have h1:(cur.toList.take (n * 1))[i]?=some (.int k us[i]):=by rw[ht]; simp[hi]
   rw[List.getElem?_take] at h1
   split at h1
   · simpa using h1
   · cases h1
theorem RowC.of_rep {w:World} {g n:Nat} {t:TypeId} {k:IntKind} {u:Int} (h:Blk w g t (List.replicate n (Value.int k u)).toArray):RowC w g t k (List.replicate n u):=
 ⟨_,h,by simp,fun i hi=>by
  have:i<n:=by simpa using hi
  simp[this]⟩
set_option maxHeartbeats 1000000 in
theorem clone_mult (a:Addr) (n c:Nat) (us:List Int) (w:World) (hr:RdI .u8 w w.heap.size (some a) n c us) (hbig:n≤1099511627776):
 Calls Tryz.prog 81 #[.slice (some a) n c] w fun e w'=>∃ g cc,e=.returned (.slice (some ⟨g,0,none⟩) n cc)∧w'.ownsRow w.heap.size 22 1 (.slice (some ⟨g,0,none⟩) n cc) n (us.map (Value.int .u8))∧Below w.heap.size w w':=by
 obtain⟨i0,hi0,hz0,hz1,hz2⟩:=info_parts multInfo;have hq:=fun w a n c n' c'=>Lib.run_eql_slice_nil (P:=Tryz.prog) w 35 22 a n c n' c' Tryz.underlying35;have hr1:=hr.1.keep (w':=w.alloc (Obj.cells #[] 22)) (fun p hp=>World.cell?_alloc_lt _ _ p hp)
 go_enter Tryz.func81,Tryz.ntmps81
 go_wp2_with (at_builtin; refine wpList_append_rd _ rfl _ _ 35 rfl w.heap.size 22 i0 _ 1 1 Tryz.underlying35 hi0 hz0 hz1 hz2 rfl (by omega) _ 0 [] rfl (World.ownsRow_lit w #[] 0 (Nat.le_refl _) (Nat.zero_le _) rfl) w.heap.size (some a) n c (us.map (Value.int .u8)) rfl hr1 (by intro v hv; obtain⟨x,_,rfl⟩:=List.mem_map.1 hv; rfl) (by unfold maxLen; omega) (by omega) (by simp) ?_; intro v1 w1 hown1 hg1 hat1)
 go_ret
 have hown:v1.ownBlock≠none:=by
  intro e
  rcases hat1 with h | h
  · rw[e] at h; cases h
  · rw[e] at h; cases h
 rcases hown1.2 with ⟨e0,_⟩ | ⟨g,cap,cur,e0,_⟩
 · rw[e0] at hown; exact absurd rfl hown
 · subst e0
   rw[Nat.zero_add] at hown1 ⊢
   exact⟨g,cap,rfl,by simpa using hown1,((Below.refl _ _).alloc (Nat.le_refl _) _).grown hg1 (by simp) (fun k hk=>by have hk':some w.heap.size=some k:=hk; injection hk' with h; omega)⟩
theorem notMay_any (x:IneqD) (n:Int) (b:Nat) (w:World) (hb:w.cell? ⟨b,0,none⟩=some (.int .i64 n)):
 Calls Tryz.prog 79 #[.agg #[.int .i64 x.lv,.int .u8 x.lc,.int .u8 x.c,.int .i64 x.r],.pointer (some ⟨b,0,none⟩)] w fun e w'=>e=.returned (.bool (!mayL x n))∧Below w.heap.size w w':=by
 have hbl:=block_lt_of_cell hb;have hX:=blk_new w #[.int .i64 x.lv,.int .u8 x.lc,.int .u8 x.c,.int .i64 x.r] 70;have hb0:=below_box (w:=w) (Obj.cells #[.int .i64 x.lv,.int .u8 x.lc,.int .u8 x.c,.int .i64 x.r] 70);have hb1:(w.alloc (Obj.cells #[.int .i64 x.lv,.int .u8 x.lc,.int .u8 x.c,.int .i64 x.r] 70)).cell? ⟨b,0,none⟩=some (.int .i64 n):=(World.cell?_alloc_lt _ _ ⟨b,0,none⟩ hbl).trans hb
 go_enter Tryz.func79,Tryz.ntmps79
 go_wp2_with fail;refine(leastMay_any x n _).mono ?_;rintro e w1 ⟨rfl,hb2⟩;have hw:=hb0.trans (hb2.mono hb0.size);obtain⟨m,hm⟩:∃ m,mayL x n=m:=⟨_,rfl⟩;rw[hm];have HM:=qq hm;clear hm;go_wp2_with fail;go_ret
 exact⟨by rw[HM.out]; rfl,hw⟩
set_option maxHeartbeats 1000000 in
theorem indexL_any (b:Nat) (n:Int) (A:Option Addr) (nl c:Nat) (xs:List IneqD) (w:World) (hr:IneqsV w w.heap.size A nl c xs) (hb:w.cell? ⟨b,0,none⟩=some (.int .i64 n)):
 Calls Tryz.prog 128 #[.slice A nl c,.func (.func 79) #[] #[.pointer (some ⟨b,0,none⟩)]] w fun e w'=>∃ z:Int,e=.returned (.int .i64 z)∧decide (z≥0)=xs.any (fun x=>!mayL x n)∧Below w.heap.size w w':=by
 have hlen:=hr.len;have hcm:=hr.2.2.1;have hnc:=hr.2.1;have Hr:=qq hr;have Hb:=qq hb;have hbl:=block_lt_of_cell hb;clear hr hb;unfold maxLen at hcm
 go_enter Tryz.func128,Tryz.ntmps128
 go_wp2_with fail
 go_loopg [5,8] nl (fun g _ i wr=>∃ k:Nat,k≤nl∧g=nl - k∧i=.int .i64 k∧(∀ j (h:j<xs.length),j<k→mayL xs[j] n=true)∧Below w.heap.size w wr)
 case atStart=>exact⟨0,Nat.zero_le _,rfl,rfl,fun j _ h=>absurd h (by omega),Below.refl _ _⟩
 case round=>
  obtain⟨k,hk,rfl,rfl,hno,hbel⟩:=hrel;have Hno:=qq hno;have Hbel:=qq hbel;clear hno
  by_cases hlt:k<nl
  · obtain⟨b',off,rfl,hb',hcell⟩:=(Hr.out.below hbel).at_ (by omega)
    have hk':k<xs.length:=by omega
    obtain⟨e0,e1,e2,e3⟩:=hcell k hk';have hq:=notMay_any xs[k] n b wr ((hbel.cell (p:=⟨b,0,none⟩) hbl).trans Hb.out);generalize hx:xs[k]=x at e0 e1 e2 e3 hq;have Hx:=qq hx;have Hq:=qq hq
    have i1:(0:Int)≤(k:Int):=by omega
    have i2:(k:Int)<nl:=by omega
    clear hcell hq hx hbel;go_wp2_with fail
    refine Hq.out.mono ?_; rintro e w1 ⟨rfl,hb1⟩
    have hw1:=Hbel.out.trans (hb1.mono Hbel.out.size)
    cases hm:mayL x n
    · have HF:Hid (xs.any (fun x=>!mayL x n)=true):=List.any_eq_true.2 ⟨_,List.getElem_mem hk',by rw[Hx.out,hm]; rfl⟩
      clear hm hb1;go_wp2_with fail;go_ret
      exact⟨_,rfl,by rw[HF.out]; simp,hw1⟩
    · have Hm:=qq hm
      clear hm hb1;go_wp2_with fail;go_roundg (nl - (k+1))
      case measure=>omega
      case rel=>
       refine⟨k+1,by omega,rfl,by go_num,fun j hj hjk=>?_,hw1⟩
       rcases Nat.lt_or_ge j k with h | h
       · exact Hno.out j hj h
       · have:j=k:=by omega
         subst this
         rw[Hx.out]; exact Hm.out
  · have HF:Hid (xs.any (fun x=>!mayL x n)=false):=by
     show _=_;rw[List.any_eq_false];intro x hx;obtain⟨j,hj,rfl⟩:=List.getElem_of_mem hx
     rw[Hno.out j hj (by omega)]; simp
    clear hbel;go_wp2_with fail;go_ret
    exact⟨-1,rfl,by rw[HF.out]; simp,Hbel.out⟩
theorem containsL_any (b:Nat) (n:Int) (A:Option Addr) (nl c:Nat) (xs:List IneqD) (w:World) (hr:IneqsV w w.heap.size A nl c xs) (hb:w.cell? ⟨b,0,none⟩=some (.int .i64 n)):
 Calls Tryz.prog 78 #[.slice A nl c,.func (.func 79) #[] #[.pointer (some ⟨b,0,none⟩)]] w fun e w'=>e=.returned (.bool (xs.any (fun x=>!mayL x n)))∧Below w.heap.size w w':=by
 go_enter Tryz.func78,Tryz.ntmps78
 go_wp2_with fail
 refine(indexL_any b n A nl c xs _ hr hb).mono ?_; rintro e w1 ⟨z,rfl,hz,hb1⟩
 have HZ:=qq hz;clear hz;go_wp2_with fail;go_ret
 exact⟨by rw[← HZ.out]; rfl,hb1⟩
end Go.Proofs.YtdmakpmbknindaaGreatDoor
