import Derived.Test.YtdmakpmbknindaaGreatDoorM8
import Derived.RangeFuncNested
import Derived.RangeFuncBound
import Derived.RangeFuncCalls
import Derived.RangeFuncLeaves
import Derived.Shelf.Abstract
import Derived.Shelf.RegionOpen
import Derived.TacticsInMore
import Derived.LoopNIn
import Derived.LoopIn
import Derived.Sort.LoopGhostIn
import Derived.Lib.QuietBelowIn
set_option linter.unusedVariables false
set_option linter.unusedSimpArgs false
set_option maxHeartbeats 4000000
set_option maxRecDepth 100000
namespace Go.Proofs.YtdmakpmbknindaaGreatDoor
open Go.RowKit Go.Shelf
attribute [local go_sem] Oper.semAt_some
theorem reach_in (F:Fence) (n:Nat) (hf:F.fn 144) (hro:F.round=none) (A:Option Addr) (nw cw:Nat) (v c:Int) (w:World):
 CallsIn F n Tryz.prog 144 #[.slice A nw cw,.int .i64 v,.int .u8 c] w fun e w'=>e=.returned (.func (.func 161) #[] #[.pointer (some ⟨w.heap.size,0,none⟩),.pointer (some ⟨w.heap.size+1,0,none⟩),.pointer (some ⟨w.heap.size+1+1,0,none⟩)])∧w'=((w.alloc (.cells #[.slice A nw cw] 148)).alloc (.cells #[.int .i64 v] 3)).alloc (.cells #[.int .u8 c] 22):=by
 refine callsIn_of_wp Tryz.func144 rfl hf ?_ hro;simp only[Tryz.ntmps144,List.size_toArray,List.length_cons,List.length_nil,Nat.reduceAdd,Nat.reduceSub,Array.replicate_succ,Array.replicate_zero,List.push_toArray,List.append_toArray,List.nil_append,List.cons_append]
 gi_wp2
 go_ret;exact⟨rfl,rfl⟩
def WebR (w:World) (B:Nat) (A:Option Addr) (N c:Nat) (xs:List IneqD):Prop:=
 N≤c∧c≤maxLen∧(0<N→∃ b off,A=some ⟨b,off,none⟩∧b<B∧∀ u,u<N→∃ A' c',w.cell? ⟨b,off+u,none⟩=some (.slice A' (webE xs u).length c')∧IneqsV w B A' (webE xs u).length c' (webE xs u))
theorem WebR.below {w w':World} {B N c:Nat} {A:Option Addr} {xs:List IneqD} (h:WebR w B A N c xs) (hb:Below B w w'):WebR w' B A N c xs:=by
 refine⟨h.1,h.2.1,fun hn=>?_⟩;obtain⟨b,off,e,hbB,hc⟩:=h.2.2 hn;refine⟨b,off,e,hbB,fun u hu=>?_⟩;obtain⟨A',c',h1,h2⟩:=hc u hu;exact⟨A',c',(hb.cell (p:=⟨b,off+u,none⟩) hbB).trans h1,h2.below hb⟩
def flagsE (N:Nat) (Q:List Nat):List Bool:=(List.range N).map fun r=>decide (r∈Q)
theorem flagsE_get {N:Nat} {Q:List Nat} {r:Nat} (h:r<N):(flagsE N Q)[r]?=some (decide (r∈Q)):=by
 unfold flagsE;rw[List.getElem?_map,List.getElem?_range h];rfl
theorem flagsE_set {N:Nat} {Q:List Nat} {r:Nat}:(flagsE N Q).set r true=flagsE N (Q++[r]):=by
 apply List.ext_getElem?
 intro i;rw[List.getElem?_set]
 by_cases hi:i<N
 · rw[flagsE_get (Q:=Q++[r]) hi]
   by_cases e:r=i
   · subst e
     rw[if_pos rfl,if_pos (by simp[flagsE]; exact hi)]
     simp
   · rw[if_neg e,flagsE_get (Q:=Q) hi]
     simp[show ¬ i=r from fun h=>e h.symm]
 · have h1:(flagsE N (Q++[r]))[i]?=none:=List.getElem?_eq_none (by simp[flagsE]; omega)
   have h2:(flagsE N Q)[i]?=none:=List.getElem?_eq_none (by simp[flagsE]; omega)
   rw[h1]
   by_cases e:r=i
   · subst e
     rw[if_pos rfl,if_neg (by simp[flagsE]; omega)]
   · rw[if_neg e,h2]
theorem flagsE_none (N:Nat):flagsE N []=List.replicate N false:=by
 apply List.ext_getElem?
 intro i
 by_cases hi:i<N
 · rw[flagsE_get hi,List.getElem?_replicate,if_pos hi]; simp
 · rw[List.getElem?_eq_none (by simp[flagsE]; omega),List.getElem?_eq_none (by simp; omega)]
abbrev PairE (N:Nat) := { y:Int × Int // -1≤y.1∧y.1<(N:Int)∧1≤y.2∧y.2≤3 }
structure ItE (N:Nat) (gw gv gc gb n0:Nat) (Aw:Option Addr) (cw v:Nat) (c:Int) (W wr:World) (Q:List Nat) (rest:List Nat) (v6:Value):Prop where
 bw:Blk wr gw 148 #[.slice Aw N cw]
 bv:Blk wr gv 3 #[.int .i64 v]
 bc:Blk wr gc 22 #[.int .u8 c]
 fl:Blk wr gb 4 ((flagsE N Q).map Value.bool).toArray
 q:QueueM wr W.heap.size v6 (rest.map fun(r:Nat)=>(r:Int))
 sep:v6.ownBlock≠some gb
 bel:Below n0 W wr
section
variable {N gw gv gc gb n0:Nat} {Aw:Option Addr} {cw v:Nat} {c:Int} {W wr w':World} {Q rest:List Nat} {v6:Value} {S:List Nat}
theorem ItE.kept (h:ItE N gw gv gc gb n0 Aw cw v c W wr Q rest v6) (hS:∀ s∈S,s<W.heap.size) (h1:gw∉S) (h2:gv∉S) (h3:gc∉S) (hb:W.heap.size≤gb) (hk:KeepC S wr w') (hbel:Below n0 wr w'):ItE N gw gv gc gb n0 Aw cw v c W w' Q rest v6:=by
 refine⟨hk.cell h.bw h1,hk.cell h.bv h2,hk.cell h.bc h3,hk.cell h.fl fun hs=>by have:=hS _ hs; omega,?_,h.sep,h.bel.trans hbel⟩
 obtain⟨b,off,cap,cs,e,q1,q2,q3⟩:=h.q
 exact⟨b,off,cap,cs,e,q1,hk.cell q2 fun hs=>by have:=hS _ hs; omega,q3⟩
theorem ItE.fresh (h:ItE N gw gv gc gb n0 Aw cw v c W wr Q rest v6) (hn:n0≤wr.heap.size) (hb:Below wr.heap.size wr w'):ItE N gw gv gc gb n0 Aw cw v c W w' Q rest v6:=
 ⟨h.bw.below hb h.bw.lt,h.bv.below hb h.bv.lt,h.bc.below hb h.bc.lt,h.fl.below hb h.fl.lt,h.q.keep fun b hb'=>hb.block b (h.q.lt hb').2,h.sep,h.bel.trans (hb.mono hn)⟩
theorem ItE.flag {r:Nat} (h:ItE N gw gv gc gb n0 Aw cw v c W wr Q rest v6) (h1:gw≠gb) (h2:gv≠gb) (h3:gc≠gb) (hn:n0≤gb):ItE N gw gv gc gb n0 Aw cw v c W (wr.setCell ⟨gb,r,none⟩ (.bool true)) (Q++[r]) rest v6:=by
 refine⟨h.bw.other h1.symm _ _,h.bv.other h2.symm _ _,h.bc.other h3.symm _ _,?_,h.q.keep fun b hb=>Below.heap_setCell _ _ _ _ (fun e=>h.sep (by rw[hb,e])),h.sep,h.bel.setCell (p:=⟨gb,r,none⟩) hn _⟩;have:=h.fl.set_ r (.bool true);rw[← flagsE_set,List.map_set]
 simpa using this
theorem ItE.append {r:Nat} {w7:World} {v7:Value} (h:ItE N gw gv gc gb n0 Aw cw v c W wr Q rest v6) (hq:QueueM w7 W.heap.size v7 ((rest.map fun(r:Nat)=>(r:Int))++[(r:Int)])) (hg:wr.grownBy w7 v6.ownBlock) (hd:v7.ownBlock=v6.ownBlock∨∃ k,v7.ownBlock=some k∧wr.heap.size≤k)
 (lw:gw<W.heap.size) (lv:gv<W.heap.size) (lc:gc<W.heap.size) (hn:n0≤W.heap.size):ItE N gw gv gc gb n0 Aw cw v c W w7 Q (rest++[r]) v7:=by
 have hne:∀ g,g<W.heap.size→some g≠v6.ownBlock:=fun g hg' e=>by have:=(h.q.lt e.symm).1; omega
 refine⟨h.bw.grown hg (hne _ lw),h.bv.grown hg (hne _ lv),h.bc.grown hg (hne _ lc),h.fl.grown hg fun e=>h.sep e.symm,by simpa using hq,?_,h.bel.grown hg (Nat.le_trans hn h.bel.size) fun k e=>?_⟩
 · rcases hd with e | ⟨k,e,hk⟩
   · rw[e]; exact h.sep
   · rw[e]
     intro e2
     injection e2 with e2
     have:=h.fl.lt;omega
 · have:=(h.q.lt e).1
   omega
end
end Go.Proofs.YtdmakpmbknindaaGreatDoor
namespace Go.Proofs.YtdmakpmbknindaaGreatDoor
open Go.RowKit Go.Shelf
attribute [local go_sem] Oper.semAt_some
def encE (N:Nat) (y:PairE N):Array Value:=#[.int .i64 y.1.1,.int .u8 y.1.2]
theorem reach1_stops (F:Fence) (n:Nat) (hf:F.fn 161) (hro:F.round=none) (hn:1≤n) (gw gv gc n0 N:Nat) (S:List Nat) (Aw:Option Addr) (cw:Nat) (xs:List IneqD) (v:Nat) (c:Int) (w:World)
 (hN:N≤1048576) (hv:v<N) (hc:1≤c∧c≤3) (hw:WellE N xs) (hx3:∀ x∈xs,x.c≤3) (hxl:xs.length≤1048576)
 (hbw:Blk w gw 148 #[.slice Aw N cw]) (hbv:Blk w gv 3 #[.int .i64 v]) (hbc:Blk w gc 22 #[.int .u8 c]) (hS:∀ s∈S,s<w.heap.size) (s1:gw∉S) (s2:gv∉S) (s3:gc∉S) (hn0:n0≤w.heap.size) (hweb:WebR w n0 Aw N cw xs):
 SeqC F n Tryz.prog 161 #[.pointer (some ⟨gw,0,none⟩),.pointer (some ⟨gv,0,none⟩),.pointer (some ⟨gc,0,none⟩)] (encE N) (fun A B=>Below n0 A B∧KeepC S A B) (fun ys=>AllE N xs c v (ys.map (·.1))) ((N+1) * (xs.length+1)) w:=by
 intro l J W hW hJ hY h0;have hwebW:=hweb.below (hW.mono hn0);have hbw1:=hbw.below hW hbw.lt;have hbv1:=hbv.below hW hbv.lt;have hbc1:=hbc.below hW hbc.lt;have w0:W.cell? ⟨gw,0,none⟩=some (.slice Aw N cw):=hbw1.cell 0;have lv:=hbv1.lt;have lw:=hbw1.lt;have lcc:=hbc1.lt;obtain⟨i0,hi0,hz0,hz1,hz2⟩:=info_parts intInfo;have hb1:=below_box (w:=W) (Obj.cells (falses N) 4);have hr1:=blk_new W (falses N) 4;have v1:(W.alloc (Obj.cells (falses N) 4)).cell? ⟨gv,0,none⟩=some (.int .i64 v):=(hbv1.below hb1 hbv1.lt).cell 0
 have f1:(W.alloc (Obj.cells (falses N) 4)).cell? ⟨W.heap.size,v,none⟩=some (.bool false):=by
  rw[hr1.cell v];unfold falses;simp[hv]
 have f2:=hr1.frozen v;have hb2:=below_box (w:=W) (Obj.cells ((falses N).setIfInBounds v (.bool true)) 4);have hr2:=blk_new W ((falses N).setIfInBounds v (.bool true)) 4
 have hfl:(falses N).setIfInBounds v (.bool true)=((flagsE N [v]).map Value.bool).toArray:=by
  unfold falses;rw[qd,← List.map_set,← flagsE_none,flagsE_set];rfl
 have v2:(W.alloc (Obj.cells ((falses N).setIfInBounds v (.bool true)) 4)).cell? ⟨gv,0,none⟩=some (.int .i64 v):=(hbv1.below hb2 hbv1.lt).cell 0;obtain⟨W3,hW3⟩:∃ W3,(W.alloc (Obj.cells ((falses N).setIfInBounds v (.bool true)) 4)).alloc (Obj.cells #[.int .i64 v] 3)=W3:=⟨_,rfl⟩
 have hb3:Below W.heap.size W W3:=by rw[← hW3]; exact hb2.alloc (by simp) _
 have hrow:W3.ownsRow W.heap.size 3 1 (.slice (some ⟨W.heap.size+1,0,none⟩) 1 1) 1 ([(v:Int)].map (Value.int .i64)):=by
  rw[← hW3];have hz:=World.alloc_heap_new (W.alloc (Obj.cells ((falses N).setIfInBounds v (.bool true)) 4)) (Obj.cells #[.int .i64 v] 3);rw[World.size_alloc] at hz
  exact⟨rfl,.inr ⟨W.heap.size+1,1,_,rfl,by omega,hz,Nat.le_refl _,by unfold maxLen; omega,rfl,rfl⟩⟩
 have hit:ItE N gw gv gc W.heap.size n0 Aw cw v c W W3 [v] [v] (.slice (some ⟨W.heap.size+1,0,none⟩) 1 1):=
  ⟨hbw1.below hb3 hbw1.lt,hbv1.below hb3 hbv1.lt,hbc1.below hb3 hbc1.lt,by rw[← hW3,← hfl]; exact hr2.alloc _,QueueM.own hrow (by omega),by simp[Value.ownBlock],hb3.mono (by have:=hW.size; omega)⟩
 have hsz:=hW.size
 have hS2:∀ s∈S,s<W.heap.size:=fun s hs=>by have:=hS s hs; omega
 have HS2:=qq hS2;have hmk:=make_bools N hN
 have k1:(0:Int)≤(v:Int):=by omega
 have k2:(v:Int)<N:=by omega
 have N63:N≤9223372036854775807:=by omega
 have HJ:=qq hJ;have Hit:=qq hit;have HW3:=qq hW3;have Hb3:=qq hb3;clear hb1 hr1 hb2 hr2 hfl hb3 hrow hit hW3;have HY:=qq hY;have H0:=qq h0;have Hweb:=qq hwebW;have Hw:=qq hw;have Hx3:=qq hx3;have Hbw:=qq hbw1;have Hbv:=qq hbv1;have Hbc:=qq hbc1;have HW:=qq hW;have HS:=qq hS;clear hwebW hbw1 hbv1 hbc1 hJ hY h0 hw hx3 hbw hbv hbc hweb hW hS hS2;refine callsIn_of_wp Tryz.func161 rfl hf ?_ hro;simp only[Tryz.ntmps161,List.size_toArray,List.length_cons,List.length_nil,Nat.reduceAdd,Nat.reduceSub,Array.replicate_succ,Array.replicate_zero,List.push_toArray,List.append_toArray,List.nil_append,List.cons_append]
 gi_wp2
 rw[HW3.out];have Hj3:=qq (HJ.out _ _ _ H0.out Hb3.out)
 gi_loopg [6] (N+1) (fun gh v6 wr=>∃ (Q:List Nat) (p:Nat) (pre:List (PairE N)),gh+p=N+1∧p≤Q.length∧BfsE N xs c v Q p 0 (pre.map (·.1))∧ItE N gw gv gc W.heap.size n0 Aw cw v c W wr Q (Q.drop p) v6∧J pre wr)
 case atStart=>exact⟨[v],0,[],by omega,by simp,BfsE.start hv,Hit.out,Hj3.out⟩
 case round=>
  obtain⟨Q,p,pre,hgh,hpq,hB,hI,hJp⟩:=hrel;have HB:=qq hB;have HJp:=qq hJp;clear hB hJp
  by_cases hlt:p<Q.length
  · obtain⟨u,hu⟩:∃ u,Q[p]?=some u:=⟨_,qj hlt⟩
    have hun:u<N:=HB.out.lt u (List.mem_of_getElem? hu)
    have hdr:Q.drop p=u :: Q.drop (p+1):=by
     rw[List.drop_eq_getElem_cons hlt];rw[qj hlt] at hu
     injection hu with hu
     rw[hu]
    have hq:=hI.q;rw[hdr] at hq;obtain⟨b,off,cap,rfl,hcap,hmx,hcq⟩:=hq.cells;have e0:=hcq 0 (by simp);obtain⟨R,hR⟩:∃ R,Q.drop (p+1)=R:=⟨_,rfl⟩;simp only[hR,List.map_cons,List.length_cons,List.length_map,qe,Nat.add_zero] at e0 hcap hq hI ⊢;have HI:=qq hI
    have d0:decide (((R.length+1:Nat):Int)>0)=true:=by simp
    have hsw:W.heap.size≤wr.heap.size:=hI.fl.lt |> Nat.le_of_lt
    obtain⟨bx,ox,rfl,hbxn,hcx⟩:=Hweb.out.2.2 (by omega);obtain⟨Ax,cx,e1w,hrow⟩:=hcx u hun;have e1:=(hI.bel.cell (p:=⟨bx,ox+u,none⟩) hbxn).trans e1w;have Hrow:=qq hrow;have wq:wr.cell? ⟨gw,0,none⟩=some (.slice (some ⟨bx,ox,none⟩) N cw):=hI.bw.cell 0;have kw:=fun d os=>cell_regrown wq d os;have k0:=fun d os=>cell_regrown e0 d os;have ke:=fun d os=>cell_regrown e1 d os
    have hu1:(0:Int)≤(u:Int):=by omega
    have hu2:(u:Int)<N:=by omega
    have HR:=qq hR;have Hdr:=qq hdr;have Hu:=qq hu;clear wq e0 e1 e1w hcq hcx hrow hq hdr hu hR
    gi_wp2
    refine wpIn_region_quiet_below hro (by kernel_rfl) (by kernel_rfl) ?_
    repeat (quiet_step_in (fail))
    refine wpQuietIn_nil ?_;intro _ hw';obtain⟨⟨dq,osq⟩,hw''⟩:=hw';subst hw'';have hbr:=below_regrown wr dq osq;obtain⟨W5,hW5⟩:∃ W5,Sort.grow (redrawn wr dq) osq=W5:=⟨_,rfl⟩;rw[hW5] at hbr ⊢;have HI5:=qq (HI.out.fresh (by omega) hbr);have HJ5:=qq (HJ.out _ _ _ HJp.out (hbr.mono hsw));have hmx2:=@run_max2 Tryz.prog;have hs5:=hbr.size;have hkl:(webE xs u).length≤1048576:=Nat.le_trans (web_len xs u) hxl;clear kw k0 ke hbr hW5 hI HI HJp
    gi_wp2
    gi_loopg [6,29] ((webE xs u).length+1) (fun gh v6 i wr=>∃ (Q:List Nat) (j:Nat) (pre:List (PairE N)),gh+j=(webE xs u).length+1∧j≤(webE xs u).length∧i=.int .i64 j∧p<Q.length∧Q[p]?=some u∧BfsE N xs c v Q p j (pre.map (·.1))∧ItE N gw gv gc W.heap.size n0 (some ⟨bx,ox,none⟩) cw v c W wr Q (Q.drop p) v6∧J pre wr)
    case atStart=>exact⟨Q,0,pre,by omega,by omega,rfl,hlt,Hu.out,HB.out,HI5.out,HJ5.out⟩
    case round=>
     obtain⟨Q2,j,pre2,hgh2,hjk,rfl,hp2,hu2',hB2,hI2,hJ2⟩:=hrel;have hsw2:W.heap.size≤wr.heap.size:=hI2.bel.size;have HB2:=qq hB2;have HI2:=qq hI2;have HJ2:=qq hJ2;have Hu2:=qq hu2';clear hB2 hJ2 hu2'
     by_cases hj:j<(webE xs u).length
     · have d1:decide (j<(webE xs u).length)=true:=by simpa using hj
       obtain⟨x,hx⟩:∃ x,(webE xs u)[j]=x:=⟨_,rfl⟩;have hxm:=mem_web.1 (List.getElem_mem hj);rw[hx] at hxm;have hxc:=(Hw.out x hxm.1).2;have hxc3:=Hx3.out x hxm.1;have hxr:=(Hw.out x hxm.1).1.r
       have hstep:=fun(Q':List Nat) (ys':List (Int × Int))=>@BfsE.step N xs c v Q2 p j (pre2.map (·.1)) HB2.out Hw.out u Hu2.out hj Q' ys'
       simp only[hx] at hstep;obtain⟨bq,oq,rfl,hbq,hcell⟩:=(Hrow.out.below hI2.bel).at_ (by omega);obtain⟨q0,q1,q2,q3⟩:=hcell j hj;rw[hx] at q0 q1 q2 q3;have hfew:=HB2.out.few Hu2.out hj;rw[List.length_map] at hfew;have hbxx:=below_box (w:=wr) (Obj.cells #[.int .i64 x.lv,.int .u8 x.lc,.int .u8 x.c,.int .i64 x.r] 70);have hI8:=HI2.out.fresh (by omega) hbxx;have hJ8:=HJ.out _ _ _ HJ2.out (hbxx.mono hsw2);have c8:(wr.alloc (Obj.cells #[.int .i64 x.lv,.int .u8 x.lc,.int .u8 x.c,.int .i64 x.r] 70)).cell? ⟨gc,0,none⟩=some (.int .u8 c):=hI8.bc.cell 0
       have k3:(0:Int)≤(j:Int):=by omega
       have k4:(j:Int)<(webE xs u).length:=by omega
       have Hstep:=qq hstep;have HI8:=qq hI8;have HJ8:=qq hJ8;have Hhx:=qq hx;have Hxm:=qq hxm;clear hstep hcell hx hxm hI8 hbxx
       by_cases hr:x.r<0
       · have d2:decide (x.r<0)=true:=by simpa using hr
         have hs:=Hstep.out Q2 (pre2.map (·.1)++[(-1,max c x.c)]) (.inl ⟨hr,rfl,rfl⟩)
         obtain⟨fn,tmps,assign,body,hy,hR⟩:=HY.out pre2 ⟨(-1,max c x.c),by refine⟨?_,?_,?_,?_⟩ <;> simp <;> omega⟩ _ hJ8 hfew
         dsimp only[encE] at hy;have Hs:=qq hs;clear hs hr hJ8
         gi_wp2
         refine hR.mono ?_; rintro e W9 ⟨rfl,hJ9,hb9,hk9⟩
         have hI9:=HI8.out.kept HS2.out s1 s2 s3 (Nat.le_refl _) hk9 hb9
         gi_wp2
         gi_roundg ((webE xs u).length - j)
         case measure=>omega
         case rel=>exact⟨Q2,j+1,_,by omega,by omega,by go_num,hp2,Hu2.out,by simpa using Hs.out,hI9,hJ9⟩
       · obtain⟨r,hrr⟩:∃ r:Nat,x.r=(r:Int):=⟨x.r.toNat,(Int.toNat_of_nonneg (by omega)).symm⟩
         simp only[hrr] at q3 c8 HI8 HJ8 hJ8 Hstep
         have hrN:r<N:=by omega
         have d2:decide ((r:Int)<0)=false:=by simp
         clear hr
         by_cases hcc:x.c≤c
         · have d3:decide (x.c≤c)=true:=by simpa using hcc
           obtain⟨q,hq⟩:∃ q,decide (r∈Q2)=q:=⟨_,rfl⟩
           have f8:(wr.alloc (Obj.cells #[.int .i64 x.lv,.int .u8 x.lc,.int .u8 x.c,.int .i64 r] 70)).cell? ⟨W.heap.size,r,none⟩=some (.bool q):=by
            rw[HI8.out.fl.cell r,← hq,qc,List.getElem?_map,flagsE_get hrN];rfl
           have k5:(0:Int)≤(r:Int):=by omega
           have k6:(r:Int)<N:=by omega
           cases q with
           | true=>
             have hs:=Hstep.out Q2 (pre2.map (·.1)) (.inr (.inr ⟨by omega,.inr (by simpa using hq),rfl,rfl⟩))
             have Hs:=qq hs;clear hs hq hJ8
             gi_wp2
             gi_roundg ((webE xs u).length - j)
             case measure=>omega
             case rel=>exact⟨Q2,j+1,pre2,by omega,by omega,by go_num,hp2,Hu2.out,Hs.out,HI8.out,HJ8.out⟩
           | false=>
             have hs:=Hstep.out (Q2++[r]) (pre2.map (·.1)++[((r:Int),c)]) (.inr (.inl ⟨by omega,hcc,by simpa using hq,by simp,rfl⟩))
             have Hs:=qq hs;have hlq:=HB2.out.len;have f9:(wr.alloc (Obj.cells #[.int .i64 x.lv,.int .u8 x.lc,.int .u8 x.c,.int .i64 r] 70)).frozen? ⟨W.heap.size,r,none⟩=false:=HI8.out.fl.frozen r;have hwl:W.heap.size<wr.heap.size:=HI2.out.fl.lt;have hIf:=HI2.out.flag (r:=r) (by omega) (by omega) (by omega) (by omega);have hbf:=(Below.refl W.heap.size wr).setCell (p:=⟨W.heap.size,r,none⟩) (Nat.le_refl _) (.bool true);have hsf:(wr.setCell ⟨W.heap.size,r,none⟩ (.bool true)).heap.size=wr.heap.size:=World.size_setCell _ _ _;have hby:=below_box (w:=wr.setCell ⟨W.heap.size,r,none⟩ (.bool true)) (Obj.cells #[.int .i64 x.lv,.int .u8 x.lc,.int .u8 x.c,.int .i64 r] 70);have hx9:=blk_new (wr.setCell ⟨W.heap.size,r,none⟩ (.bool true)) #[.int .i64 x.lv,.int .u8 x.lc,.int .u8 x.c,.int .i64 r] 70;rw[hsf] at hby hx9
             have hI9:=hIf.fresh (by omega) (by rw[hsf]; exact hby)
             have hJ9:=HJ.out _ _ _ HJ2.out (hbf.trans (hby.mono (by omega)));obtain⟨W9,hW9⟩:∃ W9,(wr.setCell ⟨W.heap.size,r,none⟩ (.bool true)).alloc (Obj.cells #[.int .i64 x.lv,.int .u8 x.lc,.int .u8 x.c,.int .i64 r] 70)=W9:=⟨_,rfl⟩
             have hs9:W9.heap.size=wr.heap.size+1:=by rw[← hW9,World.size_alloc,hsf]
             rw[hW9] at hI9 hJ9 hx9;have hbz:=below_box (w:=W9) (Obj.cells #[.int .i64 r] 3);have hI10:=hI9.fresh (by omega) hbz;have hJ10:=HJ.out _ _ _ hJ9 (hbz.mono (by omega));have hx10:=hx9.below hbz (by omega);have hz10:=(blk_new W9 #[.int .i64 r] 3).cell 0;rw[hs9] at hz10
             have hQl:((Q2.drop p).map fun(r:Nat)=>(r:Int)).length≤N:=by rw[List.length_map,List.length_drop]; omega
             obtain⟨W10,hW10⟩:∃ W10,W9.alloc (Obj.cells #[.int .i64 r] 3)=W10:=⟨_,rfl⟩
             have hs10:W10.heap.size=wr.heap.size+1+1:=by rw[← hW10,World.size_alloc,hs9]
             rw[hW10] at hI10 hJ10 hx10 hz10;rw[← hW9] at hW10;have HI10:=qq hI10;have HJ10:=qq hJ10;have HX10:=qq hx10;have HW10:=qq hW10;clear hs hq hJ8 hIf hbf hsf hby hI9 hJ9 hx9 hbz hI10 hJ10 hx10 hW9 hW10
             gi_wp2_with (gi_at_builtin; rw[HW10.out]; refine wpListIn_append_queue W10 rfl (.tmp 61) (.tmp 64) 30 rfl W.heap.size i0 _ 8 Tryz.underlying30 hi0 hz0 hz1 hz2 rfl u6 _ rfl HI10.out.q ⟨wr.heap.size+1,0,none⟩ r rfl (by rw[Addr.add_lit]; exact hz10) (by unfold maxLen; omega) (by omega) (by omega) ?_; intro v7 w7 hq7 hg7 hd7; have hne7:some wr.heap.size≠u6.ownBlock:=(fun e=>by have:=(HI2.out.q.lt e.symm).2; omega); have hx7:=HX10.out.grown hg7 hne7; have hI7:=HI10.out.append hq7 hg7 hd7 lw lv lcc (by omega); have hJ7:=HJ.out _ _ _ HJ10.out ((Below.refl W.heap.size W10).grown hg7 (by omega) (fun k e=>(HI10.out.q.lt e).1)); have g3:w7.cell? ⟨wr.heap.size,3,none⟩=some (.int .i64 r):=hx7.cell 3; have g4:w7.cell? ⟨gc,0,none⟩=some (.int .u8 c):=hI7.bc.cell 0; obtain⟨fn,tmps,assign,body,hy,hR⟩:=HY.out pre2 ⟨((r:Int),c),by refine⟨?_,?_,?_,?_⟩ <;> simp <;> omega⟩ w7 hJ7 hfew; dsimp only[encE] at hy; have HI7:=qq hI7; clear hI7 hJ7 hx7 hq7 hg7 hd7 hne7)
             refine hR.mono ?_; rintro e W11 ⟨rfl,hJ11,hb11,hk11⟩
             have hI11:=HI7.out.kept HS2.out s1 s2 s3 (Nat.le_refl _) hk11 hb11
             have hp5:p<(Q2++[r]).length:=by rw[List.length_append]; omega
             have hu5:(Q2++[r])[p]?=some u:=by rw[List.getElem?_append_left hp2]; exact Hu2.out
             have hd5:(Q2++[r]).drop p=Q2.drop p++[r]:=List.drop_append_of_le_length (by omega);have HD5:=qq hd5;have HU5:=qq hu5;clear hd5 hu5
             gi_wp2
             gi_roundg ((webE xs u).length - j)
             case measure=>omega
             case rel=>exact⟨Q2++[r],j+1,_,by omega,by omega,by go_num,hp5,HU5.out,by simpa using Hs.out,by rw[HD5.out]; exact hI11,hJ11⟩
         · have d3:decide (x.c≤c)=false:=by simpa using hcc
           have hs:=Hstep.out Q2 (pre2.map (·.1)) (.inr (.inr ⟨by omega,.inl hcc,rfl,rfl⟩))
           have Hs:=qq hs;clear hs hcc hJ8
           gi_wp2
           gi_roundg ((webE xs u).length - j)
           case measure=>omega
           case rel=>exact⟨Q2,j+1,pre2,by omega,by omega,by go_num,hp2,Hu2.out,Hs.out,HI8.out,HJ8.out⟩
     · have hjk':j=(webE xs u).length:=by omega
       have d1:decide (j<(webE xs u).length)=false:=by simpa using hj
       have hB3:=HB2.out.next Hu2.out hjk'
       have hdr2:Q2.drop p=u :: Q2.drop (p+1):=by
        have h:=Hu2.out;rw[List.drop_eq_getElem_cons hp2];rw[qj hp2] at h
        injection h with h
        rw[h]
       have hI3:=HI2.out;rw[hdr2] at hI3;obtain⟨b2,off2,cap2,rfl,hcap2,hmx3,_⟩:=hI3.q.cells;obtain⟨R2,hR2⟩:∃ R,Q2.drop (p+1)=R:=⟨_,rfl⟩;simp only[hR2,List.map_cons,List.length_cons,List.length_map] at hI3 hcap2 ⊢;have HR2:=qq hR2;have HB3:=qq hB3
       have hp3:p+1≤Q2.length:=by omega
       have hql:=hB3.len
       by_cases hcp:cap2=1
       · subst hcp
         obtain rfl:R2=[]:=List.eq_nil_of_length_eq_zero (by omega)
         have hI4:ItE N gw gv gc W.heap.size n0 (some ⟨bx,ox,none⟩) cw v c W wr Q2 [] (.slice (some ⟨b2,off2,none⟩) 0 0):=
          ⟨hI3.bw,hI3.bv,hI3.bc,hI3.fl,hI3.q.last,by have:=hI3.sep; simpa[Value.ownBlock] using this,hI3.bel⟩
         have HI4:=qq hI4;clear hI4 hI3 hB3 hdr2 hR2
         gi_wp2
         gi_roundg (N - p)
         case measure=>omega
         case rel=>exact⟨Q2,p+1,pre2,by omega,hp3,HB3.out,by rw[HR2.out]; exact HI4.out,HJ2.out⟩
       · have hI4:ItE N gw gv gc W.heap.size n0 (some ⟨bx,ox,none⟩) cw v c W wr Q2 R2 (.slice (some ⟨b2,off2+1,none⟩) R2.length (cap2 - 1)):=
          ⟨hI3.bw,hI3.bv,hI3.bc,hI3.fl,hI3.q.tail,by have:=hI3.sep; simpa[Value.ownBlock] using this,hI3.bel⟩
         have HI4:=qq hI4;clear hI4 hI3 hB3 hdr2 hR2
         gi_wp2
         gi_roundg (N - p)
         case measure=>omega
         case rel=>exact⟨Q2,p+1,pre2,by omega,hp3,HB3.out,by rw[HR2.out]; exact HI4.out,HJ2.out⟩
  · have hpe:p=Q.length:=by omega
    have hq:=hI.q;have hnil:Q.drop p=[]:=List.drop_of_length_le (by omega);rw[hnil] at hq;obtain⟨b,off,cap,rfl,hcap,hmx,hcq⟩:=hq.cells;have hdone:=HB.out.done hpe;have Hdone:=qq hdone
    have d0:decide ((0:Int)>0)=false:=by decide
    clear hq hI hcq hdone;simp only[List.map_nil,List.length_nil]
    gi_wp2
    go_end0
    exact⟨⟨_,rfl⟩,pre,Hdone.out,HJp.out⟩
end Go.Proofs.YtdmakpmbknindaaGreatDoor
namespace Go.Proofs.YtdmakpmbknindaaGreatDoor
open Go.RowKit Go.Shelf
attribute [local go_sem] Oper.semAt_some
structure LnE (N gT bT bU:Nat) (DS:List Nat) (w W:World) (s:List Int × Int):Prop where
 row:Blk W gT 22 (s.1.map (Value.int .u8)).toArray
 bt:Blk W bT 35 #[.slice (some ⟨gT,0,none⟩) N N]
 bu:Blk W bU 22 #[.int .u8 s.2]
 mark:∀ D∈DS,W.heap[D]?=some (.deferred (some []))
 bel:Below w.heap.size w W
section
variable {N gT bT bU B:Nat} {DS:List Nat} {w A C:World} {s:List Int × Int}
theorem LnE.below (h:LnE N gT bT bU DS w A s) (hb:Below B A C) (h1:gT<B) (h2:bT<B) (h3:bU<B) (h4:∀ D∈DS,D<B) (hw:w.heap.size≤B):LnE N gT bT bU DS w C s:=
 ⟨h.row.below hb h1,h.bt.below hb h2,h.bu.below hb h3,fun D hD=>(hb.block D (h4 D hD)).trans (h.mark D hD),h.bel.trans (hb.mono hw)⟩
theorem LnE.up (h:LnE N gT bT bU DS w A s) (h1:gT≠bU) (h2:bT≠bU) (h3:∀ D∈DS,D≠bU) (h4:w.heap.size≤bU) (u:Int):LnE N gT bT bU DS w (A.setCell ⟨bU,0,none⟩ (.int .u8 u)) (s.1,u):=
 ⟨h.row.other h1.symm _ _,h.bt.other h2.symm _ _,by simpa using h.bu.set_ 0 (.int .u8 u),fun D hD=>by rw[Below.heap_setCell _ _ _ _ (h3 D hD)]; exact h.mark D hD,h.bel.setCell (p:=⟨bU,0,none⟩) h4 _⟩
theorem LnE.to (h:LnE N gT bT bU DS w A s) (h1:bU≠gT) (h2:bT≠gT) (h3:∀ D∈DS,D≠gT) (h4:w.heap.size≤gT) (r:Nat) (m:Int):LnE N gT bT bU DS w (A.setCell ⟨gT,r,none⟩ (.int .u8 m)) (s.1.set r m,s.2):=by
 refine⟨?_,h.bt.other h2.symm _ _,h.bu.other h1.symm _ _,fun D hD=>by rw[Below.heap_setCell _ _ _ _ (h3 D hD)]; exact h.mark D hD,h.bel.setCell (p:=⟨gT,r,none⟩) h4 _⟩
 have:=h.row.set_ r (.int .u8 m);rw[List.map_set]
 simpa using this
end
theorem line_any (N:Nat) (Aw:Option Addr) (cw:Nat) (xs:List IneqD) (v:Nat) (w:World) (hN:N≤1048576) (hv:v<N) (hw:WellE N xs) (hx3:∀ x∈xs,x.c≤3) (hxl:xs.length≤1048576) (hweb:WebR w w.heap.size Aw N cw xs):
 Calls Tryz.prog 109 #[.slice Aw N cw,.int .i64 v,.int .i64 N] w fun e w'=>∃ gT to up,e=.returned (.tuple #[.slice (some ⟨gT,0,none⟩) N N,.int .u8 up])∧Blk w' gT 22 (to.map (Value.int .u8)).toArray∧LineE N xs v to up∧w.heap.size≤gT∧Below w.heap.size w w':=by
 refine(callsIn_wide (n:=10)).1 ?_;have hro:Fence.wide.round=none:=rfl;have hone:=blk_new w #[.int .u8 3] 22;have hb1:=below_box (w:=w) (Obj.cells #[.int .u8 3] 22);have hrep:=repeat_mult (.int .u8 3) rfl N hN ⟨w.heap.size,0,none⟩ 1 (w.alloc (Obj.cells #[.int .u8 3] 22)) (hone.cell 0) (by simp);have Hrep:=qq hrep;have Hb1:=qq hb1;have Hweb:=qq hweb;have Hw:=qq hw;have Hx3:=qq hx3;clear hone hb1 hrep hweb hw hx3;refine callsIn_of_wp_marks Tryz.func109 rfl trivial ?_ hro;simp only[Tryz.ntmps109,List.size_toArray,List.length_cons,List.length_nil,Nat.reduceAdd,Nat.reduceSub,Array.replicate_succ,Array.replicate_zero,List.push_toArray,List.append_toArray,List.nil_append,List.cons_append]
 gi_wp2_with (refine⟨trivial,?_⟩; gi_at_call 31; refine(callsIn_wide.2 Hrep.out).mono ?_; rintro e w1 ⟨gT,rfl,hrow,hgT,hb2⟩)
 obtain⟨W2,hW2⟩:∃ W2,(w1.alloc (Obj.cells #[.slice (some ⟨gT,0,none⟩) N N] 35)).alloc (Obj.cells #[.int .u8 3] 22)=W2:=⟨_,rfl⟩
 have hb12:Below w1.heap.size w1 W2:=by rw[← hW2]; exact((Below.refl _ _).alloc (Nat.le_refl _) _).alloc (by simp) _
 have hs1:w.heap.size≤w1.heap.size:=Nat.le_trans Hb1.out.size hb2.size
 have hs2:W2.heap.size=w1.heap.size+1+1:=by rw[← hW2]; simp
 have hln:LnE N gT w1.heap.size (w1.heap.size+1) [] w W2 (List.replicate N 3,3):=by
  refine⟨?_,?_,?_,fun D hD=>absurd hD (by simp),Hb1.out.trans ((hb2.trans (hb12.mono hb2.size)).mono Hb1.out.size)⟩
  · rw[List.map_replicate]; exact hrow.below hb12 hrow.lt
  · rw[← hW2]; exact(blk_new w1 _ _).alloc _
  · rw[← hW2]
    have:=blk_new (w1.alloc (Obj.cells #[.slice (some ⟨gT,0,none⟩) N N] 35)) #[.int .u8 3] 22;rwa [World.size_alloc] at this
 have hgT0:w.heap.size≤gT:=by have:=Hb1.out.size; omega
 have hgT1:gT<w1.heap.size:=hrow.lt;have Hln:=qq hln;have HW2:=qq hW2;clear hrow hb2 hb12 hln hW2 Hrep hgT;rw[HW2.out];refine wpIn_loop_rounds 3 ?_;rw[roundsIn_succ]
 gi_wp2_with (refine⟨trivial,?_⟩; gi_at_call 144; refine(reach_in Fence.wide _ trivial hro _ _ _ _ _ _).mono ?_; rintro e w3 ⟨rfl,rfl⟩)
 have hS1:(List.replicate N (3:Int),(3:Int)).1.length=N:=by simp
 have hDS:∀ D∈([]:List Nat),D<W2.heap.size∧D≠gT∧D≠w1.heap.size+1:=fun D hD=>absurd hD (by simp);obtain⟨W5,hW5⟩:∃ W5,((W2.alloc (Obj.cells #[.slice Aw N cw] 148)).alloc (Obj.cells #[.int .i64 v] 3)).alloc (Obj.cells #[.int .u8 2] 22)=W5:=⟨_,rfl⟩
 have hb5:Below W2.heap.size W2 W5:=by rw[← hW5]; exact(((Below.refl _ _).alloc (Nat.le_refl _) _).alloc (by simp) _).alloc (by simp; omega) _
 have hs5:W5.heap.size=W2.heap.size+1+1+1:=by rw[← hW5]; simp
 have k5a:Blk W5 W2.heap.size 148 #[.slice Aw N cw]:=by rw[← hW5]; exact((blk_new W2 _ _).alloc _).alloc _
 have k5b:Blk W5 (W2.heap.size+1) 3 #[.int .i64 v]:=by
  rw[← hW5];have:=(blk_new (W2.alloc (Obj.cells #[.slice Aw N cw] 148)) #[.int .i64 v] 3).alloc (Obj.cells #[.int .u8 2] 22);rwa [World.size_alloc] at this
 have k5c:Blk W5 (W2.heap.size+1+1) 22 #[.int .u8 2]:=by
  rw[← hW5];have:=blk_new ((W2.alloc (Obj.cells #[.slice Aw N cw] 148)).alloc (Obj.cells #[.int .i64 v] 3)) #[.int .u8 2] 22;rwa [World.size_alloc,World.size_alloc] at this
 have hln5:=Hln.out.below hb5 (by omega) (by omega) (by omega) (fun D hD=>(hDS D hD).1) (by omega);rw[hW5]
 have hga:W2.heap.size=w1.heap.size+1+1:=by omega
 rw[hga] at k5a k5b k5c
 refine wpIn_range_cells (α:=PairE N) hro (by omega) (gf:=161) (lb:=#[.pointer (some ⟨w1.heap.size+1+1,0,none⟩),.pointer (some ⟨w1.heap.size+1+1+1,0,none⟩),.pointer (some ⟨w1.heap.size+1+1+1+1,0,none⟩)]) rfl trivial (enters_of Tryz.func161 (by kernel_rfl) rfl)
  (reach1_stops Fence.wide _ trivial hro (by omega) (w1.heap.size+1+1) (w1.heap.size+1+1+1) (w1.heap.size+1+1+1+1) w.heap.size N [gT,w1.heap.size+1] Aw cw xs v 2 W5 hN hv (by omega) Hw.out Hx3.out hxl k5a k5b k5c (fun s hs=>by simp at hs; omega) (by simp; omega) (by simp; omega) (by simp; omega) (by omega) (Hweb.out.below hln5.bel))
  (fun h k=>⟨h.1.trans k.1,h.2.trans k.2⟩) (fun A o o' h ho=>⟨(Below.refl _ A).grown (grownBy_putObj' A _ o') (by have:=(Array.getElem?_eq_some_iff.1 h).1; omega) (fun k e=>by cases e; omega),KeepC.record h ho o'⟩) (Below.refl _ _) (fun _=>rfl)
  (fun(pre:List (PairE N)) W=>LnE N gT w1.heap.size (w1.heap.size+1) ([]) w W (lineS ((List.replicate N 3,3)) (pre.map Subtype.val))) (fun pre A B h hb=>h.below hb (by omega) (by omega) (by omega) (fun D hD=>by have:=(hDS D hD).1; omega) (by omega)) (by simpa[lineS] using hln5) ?round ?done
 case round=>
  rintro l pre ⟨⟨r0,m⟩,hx0,hx1,hx2,hx4⟩ A B hsB hIB hlen;have hx0 : -1≤r0:=hx0;have hx1:r0<(N:Int):=hx1
  have hbl:(lineS ((List.replicate N 3,3)) (pre.map Subtype.val)).1.length=N:=by rw[lineS_len]; first | exact hS1 | exact hS2
  obtain⟨s',hs'⟩:∃ s',lineS ((List.replicate N 3,3)) (pre.map Subtype.val)=s':=⟨_,rfl⟩;rw[hs'] at hIB hbl;have t8:B.cell? ⟨w1.heap.size,0,none⟩=some (.slice (some ⟨gT,0,none⟩) N N):=hIB.bt.cell 0;have t9:B.cell? ⟨w1.heap.size+1,0,none⟩=some (.int .u8 s'.2):=hIB.bu.cell 0;have f9:=hIB.bu.frozen 0;have hmn:=@run_min2 Tryz.prog;have HIB:=qq hIB;have Hs':=qq hs';clear hIB hs' k5a k5b k5c hln5 hb5 hW5;dsimp only[encE]
  by_cases hneg:r0<0
  · have d1:decide (r0<0)=true:=by simpa using hneg
    have hk:∀ k,k=W5.heap.size∨k=W5.heap.size+1→(B.setCell ⟨w1.heap.size+1,0,none⟩ (.int .u8 (min s'.2 m))).heap[k]?=B.heap[k]?:=fun k hk=>Below.heap_setCell _ _ _ _ (by show k≠w1.heap.size+1; omega)
    have hkp:Below w.heap.size B (B.setCell ⟨w1.heap.size+1,0,none⟩ (.int .u8 (min s'.2 m))):=(Below.refl _ B).setCell (p:=⟨w1.heap.size+1,0,none⟩) (by show w.heap.size≤w1.heap.size+1; omega) _
    have hkc:KeepC [gT,w1.heap.size+1] B (B.setCell ⟨w1.heap.size+1,0,none⟩ (.int .u8 (min s'.2 m))):=KeepC.setCell (by simp) _
    have hnew:=HIB.out.up (by omega) (by omega) (fun D hD=>by have:=(hDS D hD).2; omega) (by omega) (min s'.2 m)
    have hsn:lineS ((List.replicate N 3,3)) ((pre++[(⟨(r0,m),hx0,hx1,hx2,hx4⟩:PairE N)]).map Subtype.val)=(s'.1,min s'.2 m):=by
     rw[List.map_append];show lineS _ (_++[(r0,m)])=_;rw[lineS_snoc,Hs'.out,if_pos hneg]
    rw[← hsn] at hnew;have Hk:=qq hk;have Hkp:=qq hkp;have Hkc:=qq hkc;have Hnew:=qq hnew;clear hk hkp hkc hnew hsn hneg
    gi_wp2
    exact⟨fun k hk=>Hk.out k (by omega),⟨Hkp.out,Hkc.out⟩,Hnew.out⟩
  · have d1:decide (r0<0)=false:=by simpa using hneg
    obtain⟨r,rfl⟩:∃ r:Nat,r0=(r:Int):=⟨r0.toNat,(Int.toNat_of_nonneg (by omega)).symm⟩
    have hrN:r<N:=by omega
    have t7:B.cell? ⟨gT,r,none⟩=some (.int .u8 (s'.1.getD r 0)):=by
     rw[HIB.out.row.cell r,qc,List.getElem?_map,qj (by omega),List.getD_eq_getElem?_getD,qj (by omega)];rfl
    have f7:=HIB.out.row.frozen r
    have k7:(0:Int)≤(r:Int):=by omega
    have hk:∀ k,k=W5.heap.size∨k=W5.heap.size+1→(B.setCell ⟨gT,r,none⟩ (.int .u8 m)).heap[k]?=B.heap[k]?:=fun k hk=>Below.heap_setCell _ _ _ _ (by show k≠gT; omega)
    have hkp:Below w.heap.size B (B.setCell ⟨gT,r,none⟩ (.int .u8 m)):=(Below.refl _ B).setCell (p:=⟨gT,r,none⟩) (by show w.heap.size≤gT; omega) _
    have hkc:KeepC [gT,w1.heap.size+1] B (B.setCell ⟨gT,r,none⟩ (.int .u8 m)):=KeepC.setCell (by simp) _
    have hnew:=HIB.out.to (by omega) (by omega) (fun D hD=>by have:=(hDS D hD).2; omega) (by omega) r m
    have hsn:lineS ((List.replicate N 3,3)) ((pre++[(⟨((r:Int),m),hx0,hx1,hx2,hx4⟩:PairE N)]).map Subtype.val)=(s'.1.set r m,s'.2):=by
     rw[List.map_append];show lineS _ (_++[((r:Int),m)])=_;rw[lineS_snoc,Hs'.out,if_neg hneg];rfl
    rw[← hsn] at hnew;have Hk:=qq hk;have Hkp:=qq hkp;have Hkc:=qq hkc;have Hnew:=qq hnew;clear hk hkp hkc hnew hsn hneg
    gi_wp2
    exact⟨fun k hk=>Hk.out k (by omega),⟨Hkp.out,Hkc.out⟩,Hnew.out⟩
 case done=>
  intro ys2 W6 hall2 hln6 hD2;obtain⟨y2,hy2⟩:∃ y,ys2.map (fun x:PairE N=>x.val)=y:=⟨_,rfl⟩;obtain⟨q2,hq2⟩:∃ q,lineS (List.replicate N 3,3) y2=q:=⟨_,rfl⟩
  have hS2:q2.1.length=N:=by rw[← hq2,lineS_len]; exact hS1
  rw[show ys2.map Subtype.val=y2 from hy2,hq2] at hln6
  rw[hy2] at hall2;have hs6:W5.heap.size<W6.heap.size:=(Array.getElem?_eq_some_iff.1 hD2).1;obtain⟨D5,hD5⟩:∃ D,W5.heap.size=D:=⟨_,rfl⟩
  have hln6':LnE N gT w1.heap.size (w1.heap.size+1) [D5] w W6 q2:=⟨hln6.row,hln6.bt,hln6.bu,fun D hD=>by simp at hD; rw[hD,← hD5]; exact hD2,hln6.bel⟩
  have hDS2:∀ D∈[D5],D<W6.heap.size∧D≠gT∧D≠w1.heap.size+1:=fun D hD=>by simp at hD; subst hD; omega
  have Hln6:=qq hln6';have Hall2:=qq hall2;have Hq2:=qq hq2;have hws6:=hln6.bel.size;clear hln6 hln6' hall2 hq2 k5a k5b k5c hln5 hb5 hW5 hy2 hD2
  have hdd:w1.heap.size+1+1+1+1+1=D5:=by omega
  clear hs5 hga
  gi_wp2
  rw[roundsIn_succ]
  gi_wp2_with (refine⟨trivial,?_⟩; gi_at_call 144; refine(reach_in Fence.wide _ trivial hro _ _ _ _ _ _).mono ?_; rintro e w7 ⟨rfl,rfl⟩)
  obtain⟨W5,hW5⟩:∃ W5,((W6.alloc (Obj.cells #[.slice Aw N cw] 148)).alloc (Obj.cells #[.int .i64 v] 3)).alloc (Obj.cells #[.int .u8 1] 22)=W5:=⟨_,rfl⟩
  have hb5:Below W6.heap.size W6 W5:=by rw[← hW5]; exact(((Below.refl _ _).alloc (Nat.le_refl _) _).alloc (by simp) _).alloc (by simp; omega) _
  have hs5:W5.heap.size=W6.heap.size+1+1+1:=by rw[← hW5]; simp
  have k5a:Blk W5 W6.heap.size 148 #[.slice Aw N cw]:=by rw[← hW5]; exact((blk_new W6 _ _).alloc _).alloc _
  have k5b:Blk W5 (W6.heap.size+1) 3 #[.int .i64 v]:=by
   rw[← hW5];have:=(blk_new (W6.alloc (Obj.cells #[.slice Aw N cw] 148)) #[.int .i64 v] 3).alloc (Obj.cells #[.int .u8 1] 22);rwa [World.size_alloc] at this
  have k5c:Blk W5 (W6.heap.size+1+1) 22 #[.int .u8 1]:=by
   rw[← hW5];have:=blk_new ((W6.alloc (Obj.cells #[.slice Aw N cw] 148)).alloc (Obj.cells #[.int .i64 v] 3)) #[.int .u8 1] 22;rwa [World.size_alloc,World.size_alloc] at this
  have hln5:=Hln6.out.below hb5 (by omega) (by omega) (by omega) (fun D hD=>(hDS2 D hD).1) (by omega);rw[hW5]
  have hga:W6.heap.size=W6.heap.size:=by omega
  rw[hga] at k5a k5b k5c
  refine wpIn_range_cells (α:=PairE N) hro (by omega) (gf:=161) (lb:=#[.pointer (some ⟨W6.heap.size,0,none⟩),.pointer (some ⟨W6.heap.size+1,0,none⟩),.pointer (some ⟨W6.heap.size+1+1,0,none⟩)]) rfl trivial (enters_of Tryz.func161 (by kernel_rfl) rfl)
   (reach1_stops Fence.wide _ trivial hro (by omega) (W6.heap.size) (W6.heap.size+1) (W6.heap.size+1+1) w.heap.size N [gT,w1.heap.size+1] Aw cw xs v 1 W5 hN hv (by omega) Hw.out Hx3.out hxl k5a k5b k5c (fun s hs=>by simp at hs; omega) (by simp; omega) (by simp; omega) (by simp; omega) (by omega) (Hweb.out.below hln5.bel))
   (fun h k=>⟨h.1.trans k.1,h.2.trans k.2⟩) (fun A o o' h ho=>⟨(Below.refl _ A).grown (grownBy_putObj' A _ o') (by have:=(Array.getElem?_eq_some_iff.1 h).1; omega) (fun k e=>by cases e; omega),KeepC.record h ho o'⟩) (Below.refl _ _) (fun _=>rfl)
   (fun(pre:List (PairE N)) W=>LnE N gT w1.heap.size (w1.heap.size+1) ([D5]) w W (lineS (q2) (pre.map Subtype.val))) (fun pre A B h hb=>h.below hb (by omega) (by omega) (by omega) (fun D hD=>by have:=(hDS2 D hD).1; omega) (by omega)) (by simpa[lineS] using hln5) ?round ?done
  case round=>
   rintro l pre ⟨⟨r0,m⟩,hx0,hx1,hx2,hx4⟩ A B hsB hIB hlen;have hx0 : -1≤r0:=hx0;have hx1:r0<(N:Int):=hx1
   have hbl:(lineS (q2) (pre.map Subtype.val)).1.length=N:=by rw[lineS_len]; first | exact hS1 | exact hS2
   obtain⟨s',hs'⟩:∃ s',lineS (q2) (pre.map Subtype.val)=s':=⟨_,rfl⟩;rw[hs'] at hIB hbl;have t8:B.cell? ⟨w1.heap.size,0,none⟩=some (.slice (some ⟨gT,0,none⟩) N N):=hIB.bt.cell 0;have t9:B.cell? ⟨w1.heap.size+1,0,none⟩=some (.int .u8 s'.2):=hIB.bu.cell 0;have f9:=hIB.bu.frozen 0;have hmn:=@run_min2 Tryz.prog;have HIB:=qq hIB;have Hs':=qq hs';clear hIB hs' k5a k5b k5c hln5 hb5 hW5;dsimp only[encE]
   by_cases hneg:r0<0
   · have d1:decide (r0<0)=true:=by simpa using hneg
     have hk:∀ k,k=W5.heap.size∨k=W5.heap.size+1→(B.setCell ⟨w1.heap.size+1,0,none⟩ (.int .u8 (min s'.2 m))).heap[k]?=B.heap[k]?:=fun k hk=>Below.heap_setCell _ _ _ _ (by show k≠w1.heap.size+1; omega)
     have hkp:Below w.heap.size B (B.setCell ⟨w1.heap.size+1,0,none⟩ (.int .u8 (min s'.2 m))):=(Below.refl _ B).setCell (p:=⟨w1.heap.size+1,0,none⟩) (by show w.heap.size≤w1.heap.size+1; omega) _
     have hkc:KeepC [gT,w1.heap.size+1] B (B.setCell ⟨w1.heap.size+1,0,none⟩ (.int .u8 (min s'.2 m))):=KeepC.setCell (by simp) _
     have hnew:=HIB.out.up (by omega) (by omega) (fun D hD=>by have:=(hDS2 D hD).2; omega) (by omega) (min s'.2 m)
     have hsn:lineS (q2) ((pre++[(⟨(r0,m),hx0,hx1,hx2,hx4⟩:PairE N)]).map Subtype.val)=(s'.1,min s'.2 m):=by
      rw[List.map_append];show lineS _ (_++[(r0,m)])=_;rw[lineS_snoc,Hs'.out,if_pos hneg]
     rw[← hsn] at hnew;have Hk:=qq hk;have Hkp:=qq hkp;have Hkc:=qq hkc;have Hnew:=qq hnew;clear hk hkp hkc hnew hsn hneg
     gi_wp2
     exact⟨fun k hk=>Hk.out k (by omega),⟨Hkp.out,Hkc.out⟩,Hnew.out⟩
   · have d1:decide (r0<0)=false:=by simpa using hneg
     obtain⟨r,rfl⟩:∃ r:Nat,r0=(r:Int):=⟨r0.toNat,(Int.toNat_of_nonneg (by omega)).symm⟩
     have hrN:r<N:=by omega
     have t7:B.cell? ⟨gT,r,none⟩=some (.int .u8 (s'.1.getD r 0)):=by
      rw[HIB.out.row.cell r,qc,List.getElem?_map,qj (by omega),List.getD_eq_getElem?_getD,qj (by omega)];rfl
     have f7:=HIB.out.row.frozen r
     have k7:(0:Int)≤(r:Int):=by omega
     have hk:∀ k,k=W5.heap.size∨k=W5.heap.size+1→(B.setCell ⟨gT,r,none⟩ (.int .u8 m)).heap[k]?=B.heap[k]?:=fun k hk=>Below.heap_setCell _ _ _ _ (by show k≠gT; omega)
     have hkp:Below w.heap.size B (B.setCell ⟨gT,r,none⟩ (.int .u8 m)):=(Below.refl _ B).setCell (p:=⟨gT,r,none⟩) (by show w.heap.size≤gT; omega) _
     have hkc:KeepC [gT,w1.heap.size+1] B (B.setCell ⟨gT,r,none⟩ (.int .u8 m)):=KeepC.setCell (by simp) _
     have hnew:=HIB.out.to (by omega) (by omega) (fun D hD=>by have:=(hDS2 D hD).2; omega) (by omega) r m
     have hsn:lineS (q2) ((pre++[(⟨((r:Int),m),hx0,hx1,hx2,hx4⟩:PairE N)]).map Subtype.val)=(s'.1.set r m,s'.2):=by
      rw[List.map_append];show lineS _ (_++[((r:Int),m)])=_;rw[lineS_snoc,Hs'.out,if_neg hneg];rfl
     rw[← hsn] at hnew;have Hk:=qq hk;have Hkp:=qq hkp;have Hkc:=qq hkc;have Hnew:=qq hnew;clear hk hkp hkc hnew hsn hneg
     gi_wp2
     exact⟨fun k hk=>Hk.out k (by omega),⟨Hkp.out,Hkc.out⟩,Hnew.out⟩
  case done=>
   intro ys1 W8 hall1 hln8 hD8;obtain⟨y1,hy1⟩:∃ y,ys1.map (fun x:PairE N=>x.val)=y:=⟨_,rfl⟩;obtain⟨⟨to,up⟩,hq1⟩:∃ q,lineS q2 y1=q:=⟨_,rfl⟩
   rw[show ys1.map Subtype.val=y1 from hy1,hq1] at hln8
   rw[hy1] at hall1;have hline:=line_of Hw.out hv Hall2.out hall1 (to:=to) (up:=up) (by rw[Hq2.out,hq1])
   have htl:to.length=N:=by
    have:=lineS_len q2 y1;rw[hq1] at this;exact this.trans hS2
   have htl2:(to,up).1.length=N:=htl;have t8:W8.cell? ⟨w1.heap.size,0,none⟩=some (.slice (some ⟨gT,0,none⟩) N N):=hln8.bt.cell 0
   have t7:W8.cell? ⟨gT,v,none⟩=some (.int .u8 (to.getD v 0)):=by
    rw[hln8.row.cell v,qc,List.getElem?_map,qj (by omega),List.getD_eq_getElem?_getD,qj (by omega)];rfl
   have f7:=hln8.row.frozen v
   have hnew:=hln8.to (by omega) (by omega) (fun D hD=>by have:=(hDS2 D hD).2; omega) (by omega) v 1
   have t8':(W8.setCell ⟨gT,v,none⟩ (.int .u8 1)).cell? ⟨w1.heap.size,0,none⟩=some (.slice (some ⟨gT,0,none⟩) N N):=hnew.bt.cell 0;have t9':(W8.setCell ⟨gT,v,none⟩ (.int .u8 1)).cell? ⟨w1.heap.size+1,0,none⟩=some (.int .u8 up):=hnew.bu.cell 0;have kt8:=fun d os=>cell_regrown t8' d os;have kt9:=fun d os=>cell_regrown t9' d os
   have hvi:(0:Int)≤(v:Int):=by omega
   have hvN:(v:Int)<N:=by omega
   have hD9:(W8.setCell ⟨gT,v,none⟩ (.int .u8 1)).heap[W5.heap.size]?=some (.deferred (some [])):=by
    rw[Below.heap_setCell _ _ _ _ (by show W5.heap.size≠gT; omega)]; exact hD8
   have hD7:=hnew.mark D5 (by simp);have Hnew:=qq hnew;have Hline:=qq hline;have Hd9:=qq hD9;have Hd7:=qq hD7;clear hln8 hall1 hline hq1 hy1 hD8 hnew hD9 hD7 t8' t9' k5a k5b k5c hln5 hb5 hW5
   gi_wp2
   rw[roundsIn_succ]
   gi_wp2
   refine wpIn_region_quiet_below hro (by kernel_rfl) (by kernel_rfl) ?_
   repeat (quiet_step_in (fail))
   refine wpQuietIn_nil ?_;intro _ hw';obtain⟨⟨dq,osq⟩,hw''⟩:=hw';subst hw'';obtain⟨W9,hW9⟩:∃ W9,Sort.grow (redrawn (W8.setCell ⟨gT,v,none⟩ (.int .u8 1)) dq) osq=W9:=⟨_,rfl⟩;have hbr:=below_regrown (W8.setCell ⟨gT,v,none⟩ (.int .u8 1)) dq osq;rw[hW9] at hbr ⊢;have hd9:=(hbr.block _ (Array.getElem?_eq_some_iff.1 Hd9.out).1).trans Hd9.out;have hd7:=(hbr.block _ (Array.getElem?_eq_some_iff.1 Hd7.out).1).trans Hd7.out;have hrow9:=Hnew.out.row.below hbr Hnew.out.row.lt;have hbel9:=Hnew.out.bel.trans (hbr.mono Hnew.out.bel.size);rw[hs5] at hd9;clear kt8 kt9 hW9 hbr
   gi_wp2
   have hw9:=hbel9.size;have hd79:(W9.putObj (W6.heap.size+1+1+1) (.deferred none)).heap[D5]?=some (.deferred (some [])):=(World.putObj_heap_other (by omega)).trans hd7;have hl9:W6.heap.size+1+1+1<W9.heap.size:=(Array.getElem?_eq_some_iff.1 hd9).1
   have hbA:=hbel9.trans ((Below.refl w.heap.size W9).grown (grownBy_putObj' W9 (W6.heap.size+1+1+1) (.deferred none)) (by omega) (fun k e=>by cases e; omega))
   have hbB:=hbA.trans ((Below.refl w.heap.size (W9.putObj (W6.heap.size+1+1+1) (.deferred none))).grown (grownBy_putObj' _ D5 (.deferred none)) (by have:=hbA.size; omega) (fun k e=>by cases e; omega))
   have hrA:Blk ((W9.putObj (W6.heap.size+1+1+1) (.deferred none)).putObj D5 (.deferred none)) gT 22 ((to.set v 1).map (Value.int .u8)).toArray:=(World.putObj_heap_other (by omega)).trans ((World.putObj_heap_other (by omega)).trans hrow9)
   refine⟨by simp,.inl ⟨_,_,rfl,run_takeDeferred hd9,?_⟩⟩
   refine⟨by simp,.inl ⟨_,_,rfl,run_takeDeferred hd79,?_⟩⟩
   exact⟨_,results_tmp2 rfl _ _ _,gT,_,_,rfl,hrA,Hline.out,hgT0,hbB⟩
end Go.Proofs.YtdmakpmbknindaaGreatDoor
