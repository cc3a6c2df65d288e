import Derived.Test.YtdmakpmbknindaaGreatDoorR7
set_option linter.unusedVariables false
set_option linter.unusedSimpArgs false
set_option maxHeartbeats 8000000
set_option maxRecDepth 100000
namespace Go.Proofs.YtdmakpmbknindaaGreatDoor
open Go.RowKit
def RetSeen (l1 l2:List Int) (w:World) (e:Ending) (w':World):Prop:=
 ∃ A1 n1 c1 A2 n2 c2,e=.returned (.agg #[.slice A1 n1 c1,.slice A2 n2 c2])∧RdI .i64 w' w'.heap.size A1 n1 c1 l1∧RdI .i64 w' w'.heap.size A2 n2 c2 l2∧Below w.heap.size w w'
theorem refVars_any {t:TyD} {l1 l2:List Int} (h1:varsT t=l1) (h2:multsT t=l2) (A:Option Addr) (m cp:Nat) (w:World) (hl:TysV w w.heap.size A m cp t.l) (hn:nodes t≤1099511627776):
 Calls Tryz.prog 10 #[.agg #[.int .u8 t.k,.int .i64 t.n,.int .i64 t.v,.int .u8 t.c,.slice A m cp]] w (RetSeen l1 l2 w):=by
 obtain⟨W,hW⟩:∃ W,((w.alloc (Obj.cells #[.int .u8 t.k,.int .i64 t.n,.int .i64 t.v,.int .u8 t.c,.slice A m cp] 27)).alloc (Obj.cells #[.slice none 0 0,.slice none 0 0] 32)).alloc (Obj.cells #[.slice none 0 0,.slice none 0 0] 32)=W:=⟨_,rfl⟩
 have hb:Below w.heap.size w W:=by rw[← hW]; exact((Below.refl _ _).alloc (Nat.le_refl _) _).alloc (by simp) _ |>.alloc (by simp; omega) _
 have hsz:W.heap.size=w.heap.size+1+1+1:=by rw[← hW]; simp
 have hz:Blk W w.heap.size 27 #[.int .u8 t.k,.int .i64 t.n,.int .i64 t.v,.int .u8 t.c,.slice A m cp]:=by
  rw[← hW]; exact((blk_new w _ _).alloc _).alloc _
 have hy:Blk W (w.heap.size+1) 32 #[.slice none 0 0,.slice none 0 0]:=by
  rw[← hW]; have:=(blk_new (w.alloc (Obj.cells #[.int .u8 t.k,.int .i64 t.n,.int .i64 t.v,.int .u8 t.c,.slice A m cp] 27)) #[.slice none 0 0,.slice none 0 0] 32).alloc (Obj.cells #[.slice none 0 0,.slice none 0 0] 32)
  rwa [World.size_alloc] at this
 have hx:Blk W (w.heap.size+1+1) 32 #[.slice none 0 0,.slice none 0 0]:=by
  rw[← hW]; have:=blk_new ((w.alloc (Obj.cells #[.int .u8 t.k,.int .i64 t.n,.int .i64 t.v,.int .u8 t.c,.slice A m cp] 27)).alloc (Obj.cells #[.slice none 0 0,.slice none 0 0] 32)) #[.slice none 0 0,.slice none 0 0] 32
  rwa [World.size_alloc,World.size_alloc] at this
 have hq:=see_any (w.heap.size+1+1) w.heap.size W t A m cp (hl.below hb) W [] [] none 0 none 0 (Below.refl _ _) ⟨hx,World.ownsRow_nil _ _ _ _,World.ownsRow_nil _ _ _ _,fun a b h=>by cases h⟩ (by omega) (by simpa using hn) (by simpa using hn)
 have e1:addAll [] (allV t)=l1:=h1;have e2:addAll [] (allM t)=l2:=h2;rw[e1,e2] at hq;have z0:=hz.cell 0;have z1:=hz.cell 1;have z2:=hz.cell 2;have z3:=hz.cell 3;have z4:=hz.cell 4;have HW:=qq hW;have Hb:=qq hb;have Hy:=qq hy;have Hq:=qq hq;clear hW hb hsz hz hy hx hq e1 e2 h1 h2 hl
 go_enter Tryz.func10,Tryz.ntmps10
 go_wp2_with fail;rw[HW.out];go_wp2_with fail
 refine Hq.out.mono ?_; rintro e w1 ⟨rfl,⟨A1,c1,A2,c2,hs⟩,ho⟩
 have hy1:=Hy.out.sout ho (by omega) (by decide);have hb1:=Hb.out.trans (ho.1.mono (by omega));have x0:=hs.1.cell 0;have x1:=hs.1.cell 1;have y0:=hy1.cell 0;have y1:=hy1.cell 1;have f0:=hy1.frozen 0;have f1:=hy1.frozen 1
 have hle:w.heap.size≤w.heap.size+1:=by omega
 have hne:w.heap.size+1+1≠w.heap.size+1:=by omega
 have hs9:Blk ((w1.setCell ⟨w.heap.size+1,0,none⟩ (.slice A1 l1.length c1)).setCell ⟨w.heap.size+1,1,none⟩ (.slice A2 l2.length c2)) (w.heap.size+1) 32 #[.slice A1 l1.length c1,.slice A2 l2.length c2]:=(hy1.set_ 0 (.slice A1 l1.length c1)).set_ 1 (.slice A2 l2.length c2);have hb9:=(hb1.setCell (p:=⟨w.heap.size+1,0,none⟩) hle (.slice A1 l1.length c1)).setCell (p:=⟨w.heap.size+1,1,none⟩) hle (.slice A2 l2.length c2)
 have hlt:∀ (W':World) (i:Nat) (v:Value) (n:Nat) (v2:Value) (xs:List Value),W'.ownsRow (w.heap.size+1+1+1) 3 1 v2 n xs→(W'.setCell ⟨w.heap.size+1,i,none⟩ v).ownsRow (w.heap.size+1+1+1) 3 1 v2 n xs:=fun W' i v n v2 xs h=>ownsRow_setCell_below h (by show w.heap.size+1<w.heap.size+1+1+1; omega) v
 have r1:=RdI.of_own (hlt _ 1 (.slice A2 l2.length c2) _ _ _ (hlt _ 0 (.slice A1 l1.length c1) _ _ _ hs.2.1));have r2:=RdI.of_own (hlt _ 1 (.slice A2 l2.length c2) _ _ _ (hlt _ 0 (.slice A1 l1.length c1) _ _ _ hs.2.2.1));have Hr1:=qq r1;have Hr2:=qq r2;have Hb9:=qq hb9;have Hs9:=qq hs9;clear hy1 hb1 hs9 hb9 hlt r1 r2 hs ho Hq Hy;go_wp2_with fail;generalize (w1.setCell ⟨w.heap.size+1,0,none⟩ (.slice A1 l1.length c1)).setCell ⟨w.heap.size+1,1,none⟩ (.slice A2 l2.length c2)=W9 at Hr1 Hr2 Hb9 Hs9 ⊢;have d0:=Hs9.out.cell 0;have d1:=Hs9.out.cell 1;exact bodyPost_ret (v:=.agg #[.slice A1 l1.length c1,.slice A2 l2.length c2]) (by simp[results,Tryz.results10,go_sem,d0,d1]) rfl ⟨A1,l1.length,c1,A2,l2.length,c2,rfl,Hr1.out,Hr2.out,Hb9.out⟩
end Go.Proofs.YtdmakpmbknindaaGreatDoor
namespace Go.Proofs.YtdmakpmbknindaaGreatDoor
open Go.RowKit
attribute [local go_sem ↓] Go.wp_at_zero Go.wp_at_succ
def RetK (K:Nat) (u:TyD) (w:World) (e:Ending) (w':World):Prop:=
 ∃ A m cp,e=.returned (.agg #[.int .u8 u.k,.int .i64 u.n,.int .i64 u.v,.int .u8 u.c,.slice A m cp])∧TysS w' (fun b=>b<K∨(w.heap.size≤b∧b<w'.heap.size)) A m cp u.l∧Below w.heap.size w w'
structure Three (t:TyD) (A:Option Addr) (m cp:Nat) (w W:World):Prop where
 eq:(w.alloc (Obj.cells #[.int .u8 t.k,.int .i64 t.n,.int .i64 t.v,.int .u8 t.c,.slice A m cp] 27)).alloc (Obj.cells #[.int .u8 0,.int .i64 0,.int .i64 0,.int .u8 0,.slice none 0 0] 27)=W
 bel:Below w.heap.size w W
 size:W.heap.size=w.heap.size+1+1
 bt:Blk W w.heap.size 27 #[.int .u8 t.k,.int .i64 t.n,.int .i64 t.v,.int .u8 t.c,.slice A m cp]
 br:Blk W (w.heap.size+1) 27 #[.int .u8 0,.int .i64 0,.int .i64 0,.int .u8 0,.slice none 0 0]
theorem three_new (t:TyD) (A:Option Addr) (m cp:Nat) (w:World):∃ W,Three t A m cp w W:=by
 obtain⟨W1,hW1⟩:∃ W,w.alloc (Obj.cells #[.int .u8 t.k,.int .i64 t.n,.int .i64 t.v,.int .u8 t.c,.slice A m cp] 27)=W:=⟨_,rfl⟩;have hb1:=below_box (w:=w) (Obj.cells #[.int .u8 t.k,.int .i64 t.n,.int .i64 t.v,.int .u8 t.c,.slice A m cp] 27);have x1:=blk_new w #[.int .u8 t.k,.int .i64 t.n,.int .i64 t.v,.int .u8 t.c,.slice A m cp] 27
 have hs1:W1.heap.size=w.heap.size+1:=by rw[← hW1]; simp
 rw[hW1] at hb1 x1;have hb2:=below_box (w:=W1) (Obj.cells #[.int .u8 0,.int .i64 0,.int .i64 0,.int .u8 0,.slice none 0 0] 27);have x2:=blk_new W1 #[.int .u8 0,.int .i64 0,.int .i64 0,.int .u8 0,.slice none 0 0] 27;rw[hs1] at x2
 exact⟨W1.alloc (Obj.cells #[.int .u8 0,.int .i64 0,.int .i64 0,.int .u8 0,.slice none 0 0] 27),by rw[hW1],hb1.trans (hb2.mono hb1.size),by simp[hs1],x1.below hb2 x1.lt,x2⟩
def OutAt (w:World) (g base:Nat) (R:Nat→Prop) (k n v c:Int) (l:List TyD) (A5:Option Addr) (c5:Nat):Prop:=
 Blk w g 27 #[.int .u8 k,.int .i64 n,.int .i64 v,.int .u8 c,.slice A5 l.length c5]∧OwnC w base 27 5 R (.slice A5 l.length c5) l.length (l.flatMap encT)∧R g∧g<base
theorem OutAt.below {w w':World} {g base:Nat} {R:Nat→Prop} {k n v c:Int} {l:List TyD} {A5:Option Addr} {c5:Nat} (h:OutAt w g base R k n v c l A5 c5) (hb:Below w.heap.size w w'):OutAt w' g base R k n v c l A5 c5:=
 ⟨h.1.below hb h.1.lt,h.2.1.beyond hb,h.2.2⟩
theorem OutAt.push {w w':World} {g base:Nat} {R:Nat→Prop} {k n v c:Int} {l:List TyD} {A5 A6:Option Addr} {c5 c6:Nat} (h:OutAt w g base R k n v c l A5 c5) (u:TyD) (ho:OwnC w' base 27 5 R (.slice A6 (l.length+1) c6) (l.length+1) (l.flatMap encT++encT u)) (hg:w.grownBy w' (Value.slice A5 l.length c5).ownBlock):
 OutAt (w'.setCell ⟨g,4,none⟩ (.slice A6 (l.length+1) c6)) g base R k n v c (l++[u]) A6 c6:=by
 have hgb:some g≠(Value.slice A5 l.length c5).ownBlock:=fun e=>by have:=(h.2.1.lt _ e.symm).1; have:=h.2.2.2; omega
 have hk:=h.1.grown hg hgb
 have e1:(l++[u]).length=l.length+1:=by simp
 have e2:(l++[u]).flatMap encT=l.flatMap encT++encT u:=by simp
 refine⟨?_,?_,h.2.2⟩
 · rw[e1]; exact hk.set_ 4 _
 · rw[e1,e2]; exact ho.set (by exact h.2.2.2) (by exact h.2.2.1) _
theorem OutAt.done {w:World} {g base K s:Nat} {k n v c:Int} {l:List TyD} {A5:Option Addr} {c5:Nat} (h:OutAt w g base (fun b=>K≤b∧b<base) k n v c l A5 c5) (hs:s≤base) (hK:K≤s):TysS w (fun b=>b<K∨(s≤b∧b<w.heap.size)) A5 l.length c5 l:=by
 have h2:=(h.2.1.cel (R':=fun b=>K≤b∧b<base) (fun _ h=>h) (fun b hb h=>by omega)).mono (S':=fun b=>b<K∨(s≤b∧b<w.heap.size)) fun b hb=>by
  have:=hb.2
  by_cases h:K≤b
  · exact .inr ⟨by have:¬ b<base:=fun h3=>this ⟨h,h3⟩; omega,hb.1⟩
  · exact .inl (by omega)
 obtain⟨A',m',c',e,h3⟩:=(sl_iff encT_len (by omega)).1 h2
 injection e with e1 e2 e3
 subst e1; subst e2; subst e3
 exact tysS_sl.2 h3
end Go.Proofs.YtdmakpmbknindaaGreatDoor
namespace Go.Proofs.YtdmakpmbknindaaGreatDoor
open Go.RowKit
attribute [local go_sem ↓] Go.wp_at_zero Go.wp_at_succ
def SnR (w:World) (g:Nat) (A1:Option Addr) (n1 c1:Nat) (l1:List Int) (A2:Option Addr) (n2 c2:Nat) (l2:List Int):Prop:=
 g<w.heap.size∧w.cell? ⟨g,0,none⟩=some (.slice A1 n1 c1)∧w.cell? ⟨g,1,none⟩=some (.slice A2 n2 c2)∧RdI .i64 w w.heap.size A1 n1 c1 l1∧RdI .i64 w w.heap.size A2 n2 c2 l2
theorem SnR.fresh {w w':World} {g:Nat} {A1:Option Addr} {n1 c1:Nat} {l1:List Int} {A2:Option Addr} {n2 c2:Nat} {l2:List Int} (h:SnR w g A1 n1 c1 l1 A2 n2 c2 l2) (hb:Below w.heap.size w w'):SnR w' g A1 n1 c1 l1 A2 n2 c2 l2:=
 ⟨Nat.lt_of_lt_of_le h.1 hb.size,(hb.cell (p:=⟨g,0,none⟩) h.1).trans h.2.1,(hb.cell (p:=⟨g,1,none⟩) h.1).trans h.2.2.1,RdI.fresh h.2.2.2.1 hb,RdI.fresh h.2.2.2.2 hb⟩
theorem refCanon_go (Kb g:Nat) (A1:Option Addr) (n1 c1:Nat) (l1:List Int) (A2:Option Addr) (n2 c2:Nat) (l2:List Int) (N:Nat):∀ (t:TyD),nodes t≤N→mayT t=true→∀ (A:Option Addr) (m cp:Nat) (w:World),TysV w w.heap.size A m cp t.l→Kb≤w.heap.size→SnR w g A1 n1 c1 l1 A2 n2 c2 l2 →
 Calls Tryz.prog 114 #[.pointer (some ⟨g,0,none⟩),.agg #[.int .u8 t.k,.int .i64 t.n,.int .i64 t.v,.int .u8 t.c,.slice A m cp]] w (RetK Kb (ren (idxN l1) (idxN l2) t) w):=by
 induction N with
 | zero=>intro t hN; exact absurd hN (by rw[nodes_eq t]; omega)
 | succ N ih=>
   intro t hN hm A m cp w hl hK hs;obtain⟨i0,hi0,hz0,hz1,hz2⟩:=info_parts typeInfo;obtain⟨U,hU⟩:∃ U,ren (idxN l1) (idxN l2)=U:=⟨_,rfl⟩;obtain⟨W,h3⟩:=three_new t A m cp w;have hlen:=hl.len;have m63:m≤9223372036854775807:=Nat.le_trans hl.2.1 hl.2.2.1
   have HN:Hid (∀ i (h:i<t.l.length),nodes t.l[i]≤N):=qq fun i h=>by have:=nodes_get h; omega
   have HM:=qq hm;have HL:=qq hl;have HS:=qq hs;have HW:=qq h3.eq;have Hb:=qq h3.bel;have Hz:=qq h3.bt;have Hy:=qq h3.br;have hsz:W.heap.size=w.heap.size+1+1:=h3.size;have hgw:g<w.heap.size:=hs.1;simp only[hU] at ih;have Ih:=qq ih;have HU:=qq hU;have z0:=h3.bt.cell 0;have z1:=h3.bt.cell 1;have z2:=h3.bt.cell 2;have z3:=h3.bt.cell 3;have z4:=h3.bt.cell 4
   have hle2:w.heap.size≤w.heap.size+1+1:=by omega
   have hlt0:w.heap.size<w.heap.size+1+1:=by omega
   clear h3 hl hm hN ih hU hs
   have HOut:Hid (OutAt (W.alloc (Obj.cells #[.int .u8 t.k,.int .i64 t.n,.int .i64 t.v,.int .u8 t.c,.slice none 0 0] 27)) (w.heap.size+1+1) (w.heap.size+1+1+1) (fun b=>Kb≤b∧b<w.heap.size+1+1+1) t.k t.n t.v t.c [] none 0):=qq ⟨by rw[← hsz]; exact blk_new W _ _,OwnC.nil,⟨by omega,by omega⟩,by omega⟩
   have Hbx:=qq (below_box (w:=W) (Obj.cells #[.int .u8 t.k,.int .i64 t.n,.int .i64 t.v,.int .u8 t.c,.slice none 0 0] 27));obtain⟨nv,hnv⟩:∃ v,(if t.k=1 then idxN l1 t.n else t.n)=v:=⟨_,rfl⟩;obtain⟨vv,hvv⟩:∃ v,(if t.k=7∧t.c=0 then idxN l2 t.v else t.v)=v:=⟨_,rfl⟩
   have HR:Hid (ren (idxN l1) (idxN l2) t=.mk t.k nv vv t.c (t.l.map U)):=qq (by
    by_cases h1:t.k=1
    · rw[if_pos h1] at hnv
      rw[if_neg (by omega)] at hvv;rw[ren_eq,if_pos h1,may_leaf HM.out (by omega),hnv,← hvv];have p:=may_plain HM.out (by omega);exact ty_ext h1.symm rfl p.1.symm p.2.symm rfl
    · rw[if_neg h1] at hnv
      by_cases h7:t.k=7∧t.c=0
      · rw[if_pos h7] at hvv
        rw[ren_eq,if_neg h1,if_pos h7,if_pos h7,hnv,hvv,HU.out,h7.2]
      · rw[if_neg h7] at hvv
        rw[ren_eq,if_neg h1,if_neg h7,if_neg h7,hnv,hvv,HU.out])
   have Hnv:=qq hnv;have Hvv:=qq hvv;clear hnv hvv
   go_enter Tryz.func114,Tryz.ntmps114
   go_upto_if 16 with fail
   rw[HW.out];obtain⟨W7,hW7⟩:∃ W7,W.alloc (Obj.cells #[.int .u8 t.k,.int .i64 t.n,.int .i64 t.v,.int .u8 t.c,.slice none 0 0] 27)=W7:=⟨_,rfl⟩;rw[hW7] at HOut Hbx ⊢;have hout:=HOut.out;have Hb7:=qq (Hb.out.trans (Hbx.out.mono Hb.out.size));have Hz7:=qq (Hz.out.below Hbx.out Hz.out.lt);have Hy7:=qq (Hy.out.below Hbx.out Hy.out.lt);clear hW7 HOut z0 z1 z2 z3 z4
   go_cut [] (fun wx=>OutAt wx (w.heap.size+1+1) (w.heap.size+1+1+1) (fun b=>Kb≤b∧b<w.heap.size+1+1+1) t.k nv t.v t.c [] none 0∧Below (w.heap.size+1+1) W7 wx)
   case first=>
    have hnv:=Hnv.out
    by_cases h1:t.k=1
    · have d1:(t.k==1)=true:=by simp[h1]
      rw[if_pos h1] at hnv;obtain⟨r,rfl⟩:∃ r,r=nv:=⟨_,rfl⟩;have Hr:=qq hnv;clear h1 hnv;go_wp2_with fail;have hS7:=HS.out.fresh Hb7.out;have s0:W7.cell? ⟨g,0,none⟩=some (.slice A1 n1 c1):=hS7.2.1;have xp:W7.cell? ⟨w.heap.size,1,none⟩=some (.int .i64 (t.n)):=Hz7.out.cell 1;have hq:=fun(W':World) (h:Below W7.heap.size W7 W')=>refAt_any A1 n1 c1 l1 (t.n) W' _ (hS7.2.2.2.1.below h) r Hr.out;have Hq:=qq hq;have hgs:=hS7.1;have hgg:w.heap.size+1+1<W7.heap.size:=hout.1.lt
      have hps:w.heap.size<W7.heap.size:=by omega
      have hbd:Below W7.heap.size W7 W7.drew:=Below.drew (Below.refl _ _);have Ho:=qq hout;clear hS7 hq hout;refine wp_region_noPanic ?_;refine wp_region_T (fun w'=>w'.cell? ⟨g,0,none⟩=some (.slice A1 n1 c1)∧w'.cell? ⟨w.heap.size,1,none⟩=some (.int .i64 (t.n))) 7 (by kernel_rfl) ⟨s0,xp⟩ (fun hHeld=>?_);refine nx0 0 ?_
      iterate 6 (refine nx (v:=?_) rfl (by kernel_rfl) (fun _ _ _ h=>h) (by rfl) ?_ (by assumption) ?_; rotate_left; focus (intro w hSw; (try dsimp only at hSw); first | (go_simp; done) | (go_simp; with_reducible rfl)); try simp only[Act.put,qg,qe,qf,qd,qh,qi,Nat.reduceAdd])
      refine nx9 ?_;refine wpAnyT_step (i:=6) (by kernel_rfl) rfl (fun K hK=>?_)
      (go_simp; refine(Hq.out _ hbd).mono ?_; rintro e w8 ⟨rfl,hb8⟩; have hb1:Below W7.heap.size W7 w8:=hbd.trans (hb8.mono hbd.size); have Hb8:=qq hb1; clear hb8 hb1)
      refine hK.out _ _ ⟨(Hb8.out.cell (p:=⟨g,0,none⟩) hgs).trans s0,(Hb8.out.cell (p:=⟨w.heap.size,1,none⟩) hps).trans xp⟩ ?_;clear hK K
      try simp only[Act.put,qg,qe,qf,qd,qh,qi]
      have hk8:=Ho.out.1.below Hb8.out Ho.out.1.lt;have f8:w8.frozen? ⟨w.heap.size+1+1,1,none⟩=false:=hk8.frozen 1;have y8:=hk8.cell 1;have HK8:=qq hk8;clear hk8;refine wpAnyT_seq 7 (by omega) (by rfl) (by kernel_rfl) ?_;simp only[List.drop_succ_cons,List.drop_zero];go_wp2_with fail;refine NoPanic.normal ?_;clear y8 f8 xp s0;go_wp2_with fail;go_meet;have hm8:Below (w.heap.size+1+1) W7 w8:=Hb8.out.mono (by omega);exact⟨⟨HK8.out.set_ 1 _,OwnC.nil,Ho.out.2.2⟩,hm8.setCell (p:=⟨w.heap.size+1+1,1,none⟩) (Nat.le_refl _) _⟩
    · have d1:(t.k==1)=false:=by simpa using h1
      rw[if_neg h1] at hnv;subst hnv;clear h1;go_wp2_with fail;go_meet;exact⟨hout,Below.refl _ _⟩
   case rest=>
    obtain⟨hout,hbc⟩:=hcut;replace Hb7:=qq (Hb7.out.trans (hbc.mono hle2));replace Hz7:=qq (Hz7.out.below hbc hlt0);replace Hy7:=qq (Hy7.out.below hbc (by omega));clear hbc;obtain⟨W8,hW8⟩:∃ W8,W8=wc:=⟨_,rfl⟩;subst hW8;obtain⟨Q,hQ⟩:∃ q,(decide (t.k=7)&&decide (t.c=0))=q:=⟨_,rfl⟩;have HQ:=qq hQ;clear hQ;go_upto_region 4 with fail
    go_cut [33] (fun s wx=>s=.bool Q∧wx=W8)
    case first=>
     have z0:=Hz7.out.cell 0;have z3:=Hz7.out.cell 3
     by_cases h7:t.k=7
     · have d7:(t.k==7)=true:=by simp[h7]
       by_cases hc:t.c=0
       · have dc:(t.c==0)=true:=by simp[hc]
         obtain rfl:Q=true:=by rw[← HQ.out]; simp[h7,hc]
         clear h7 hc;go_wp2_with fail;go_meet;exact⟨rfl,rfl⟩
       · have dc:(t.c==0)=false:=by simp[hc]
         obtain rfl:Q=false:=by rw[← HQ.out]; simp[hc]
         clear h7 hc;go_wp2_with fail;go_meet;exact⟨rfl,rfl⟩
     · have d7:(t.k==7)=false:=by simp[h7]
       obtain rfl:Q=false:=by rw[← HQ.out]; simp[h7]
       clear h7;go_wp2_with fail;go_meet;exact⟨rfl,rfl⟩
    case rest=>
    obtain⟨rfl,hwc⟩:=hcut;have hwd:=hwc.symm;subst hwd
    go_upto_if 33 with fail
    go_cut [] (fun wx=>OutAt wx (w.heap.size+1+1) (w.heap.size+1+1+1) (fun b=>Kb≤b∧b<w.heap.size+1+1+1) t.k nv vv t.c [] none 0∧Below (w.heap.size+1+1) W8 wx)
    case first=>
     have hvv:=Hvv.out;have hQ:=HQ.out
     cases Q with
     | true=>
       have h7:t.k=7∧t.c=0:=by simpa using hQ
       rw[if_pos h7] at hvv;obtain⟨r,rfl⟩:∃ r,r=vv:=⟨_,rfl⟩;have Hr:=qq hvv;clear h7 hvv hQ;go_wp2_with fail;have hS7:=HS.out.fresh Hb7.out;have s0:W8.cell? ⟨g,1,none⟩=some (.slice A2 n2 c2):=hS7.2.2.1;have xp:W8.cell? ⟨w.heap.size,2,none⟩=some (.int .i64 (t.v)):=Hz7.out.cell 2;have hq:=fun(W':World) (h:Below W8.heap.size W8 W')=>refAt_any A2 n2 c2 l2 (t.v) W' _ (hS7.2.2.2.2.below h) r Hr.out;have Hq:=qq hq;have hgs:=hS7.1;have hgg:w.heap.size+1+1<W8.heap.size:=hout.1.lt
       have hps:w.heap.size<W8.heap.size:=by omega
       have hbd:Below W8.heap.size W8 W8.drew:=Below.drew (Below.refl _ _);have Ho:=qq hout;clear hS7 hq hout;refine wp_region_noPanic ?_;refine wp_region_T (fun w'=>w'.cell? ⟨g,1,none⟩=some (.slice A2 n2 c2)∧w'.cell? ⟨w.heap.size,2,none⟩=some (.int .i64 (t.v))) 8 (by kernel_rfl) ⟨s0,xp⟩ (fun hHeld=>?_);refine nx0 0 ?_
       iterate 7 (refine nx (v:=?_) rfl (by kernel_rfl) (fun _ _ _ h=>h) (by rfl) ?_ (by assumption) ?_; rotate_left; focus (intro w hSw; (try dsimp only at hSw); first | (go_simp; done) | (go_simp; with_reducible rfl)); try simp only[Act.put,qg,qe,qf,qd,qh,qi,Nat.reduceAdd])
       refine nx9 ?_;refine wpAnyT_step (i:=7) (by kernel_rfl) rfl (fun K hK=>?_)
       (go_simp; refine(Hq.out _ hbd).mono ?_; rintro e w8 ⟨rfl,hb8⟩; have hb1:Below W8.heap.size W8 w8:=hbd.trans (hb8.mono hbd.size); have Hb8:=qq hb1; clear hb8 hb1)
       refine hK.out _ _ ⟨(Hb8.out.cell (p:=⟨g,1,none⟩) hgs).trans s0,(Hb8.out.cell (p:=⟨w.heap.size,2,none⟩) hps).trans xp⟩ ?_;clear hK K
       try simp only[Act.put,qg,qe,qf,qd,qh,qi]
       have hk8:=Ho.out.1.below Hb8.out Ho.out.1.lt;have f8:w8.frozen? ⟨w.heap.size+1+1,2,none⟩=false:=hk8.frozen 2;have y8:=hk8.cell 2;have HK8:=qq hk8;clear hk8;refine wpAnyT_seq 8 (by omega) (by rfl) (by kernel_rfl) ?_;simp only[List.drop_succ_cons,List.drop_zero];go_wp2_with fail;refine NoPanic.normal ?_;clear y8 f8 xp s0;go_wp2_with fail;go_meet;have hm8:Below (w.heap.size+1+1) W8 w8:=Hb8.out.mono (by omega);exact⟨⟨HK8.out.set_ 2 _,OwnC.nil,Ho.out.2.2⟩,hm8.setCell (p:=⟨w.heap.size+1+1,2,none⟩) (Nat.le_refl _) _⟩
     | false=>
       have h7:¬ (t.k=7∧t.c=0):=by simpa using hQ
       rw[if_neg h7] at hvv;subst hvv;clear h7 hQ;go_wp2_with fail;go_meet;exact⟨hout,Below.refl _ _⟩
    case rest=>
     obtain⟨hout,hbc⟩:=hcut;replace Hb7:=qq (Hb7.out.trans (hbc.mono hle2));replace Hz7:=qq (Hz7.out.below hbc hlt0);replace Hy7:=qq (Hy7.out.below hbc (by omega));clear hbc;obtain⟨W9,hW9⟩:∃ W9,W9=wc:=⟨_,rfl⟩;subst hW9;go_wp2_with fail;have HoutI:Hid (OutAt W9 (w.heap.size+1+1) (w.heap.size+1+1+1) (fun b=>Kb≤b∧b<w.heap.size+1+1+1) t.k (nv) (vv) (t.c) [] none 0):=qq hout;clear hout
     go_loopg [6] m (fun gh i wr=>∃ (k:Nat) (A5:Option Addr) (c5:Nat),k≤m∧gh=m - k∧i=.int .i64 k∧OutAt wr (w.heap.size+1+1) (w.heap.size+1+1+1) (fun b=>Kb≤b∧b<w.heap.size+1+1+1) t.k (nv) (vv) (t.c) ((t.l.take k).map U) A5 c5∧Below (w.heap.size+1+1) W9 wr)
     case atStart=>exact⟨0,none,0,Nat.zero_le _,rfl,rfl,HoutI.out,Below.refl _ _⟩
     case round=>
      obtain⟨k,A5,c5,hk,rfl,rfl,hO,hbel⟩:=hrel;have hW7r:=Hb7.out.trans (hbel.mono hle2);have hzr:=Hz7.out.below hbel hlt0;have z4:=hzr.cell 4
      by_cases hkm:k<m
      · have d0:decide (k<m)=true:=by simpa using hkm
        have hk':k<t.l.length:=by omega
        have hlk:((t.l.take k).map U).length=k:=by rw[List.length_map,List.length_take]; omega
        obtain⟨b,off,rfl,hb,hc⟩:=(HL.out.below hW7r).at_ (by omega);obtain⟨e0,e1,e2,e3,Ax,mx,cx,e4,hx⟩:=tyAt_iff.1 (hc k hk');have hmx:=mayT_kid HM.out hk';have hnx:=HN.out k hk'
        have hst:(t.l.take (k+1)).map U=(t.l.take k).map U++[U t.l[k]]:=by rw[List.take_succ_eq_append_getElem hk',List.map_append]; rfl
        obtain⟨x,hxk⟩:∃ x,t.l[k]=x:=⟨_,rfl⟩;rw[hxk] at e0 e1 e2 e3 hx hmx hnx hst
        have hsr:w.heap.size+1+1+1≤wr.heap.size:=by have:=hO.1.lt; omega
        have h0w:Below w.heap.size w wr:=hW7r;have h0K:Below Kb w wr:=hW7r.mono hK
        have hq:=fun(W':World) (h:Below wr.heap.size wr W')=>Ih.out x hnx hmx Ax mx cx W' (((hx.more (by omega)).fresh h)) (by have:=h.size; omega) ((HS.out.fresh h0w).fresh h)
        obtain⟨u,hu⟩:∃ u,U x=u:=⟨_,rfl⟩;rw[hu] at hst;simp only[hu] at hq;obtain⟨X,hX⟩:∃ X,(t.l.take k).map U=X:=⟨_,rfl⟩;rw[hX] at hO hlk hst;have x4:=hO.1.cell 4
        have hbr:b<wr.heap.size:=by omega
        have HO:=qq hO;have Hq:=qq hq;have Hu:=qq hu;have Hst:=qq hst;have Hlk:=qq hlk;have Hbel:=qq hbel;have Hzr:=qq hzr
        have k1:(0:Int)≤(k:Int):=by omega
        have k2:(k:Int)<m:=by omega
        clear hO hq hu hst hX hbel hzr hx hmx hnx hc hxk hW7r h0w h0K;rw[hlk] at x4;clear hlk;go_wp2_with fail;have hgs:w.heap.size+1+1<wr.heap.size:=HO.out.1.lt
        have hps:w.heap.size<wr.heap.size:=by omega
        have hbd:Below wr.heap.size wr wr.drew:=Below.drew (Below.refl _ _);refine wp_region_noPanic ?_;refine wp_region_T (fun w'=>w'.cell? ⟨w.heap.size+1+1,4,none⟩=some (.slice A5 k c5)∧w'.cell? ⟨w.heap.size,4,none⟩=some (.slice (some ⟨b,off,none⟩) m cp)∧w'.cell? ⟨b,off+k * 5,none⟩=some (.int .u8 x.k)∧w'.cell? ⟨b,off+k * 5+1,none⟩=some (.int .i64 x.n)∧w'.cell? ⟨b,off+k * 5+2,none⟩=some (.int .i64 x.v)∧w'.cell? ⟨b,off+k * 5+3,none⟩=some (.int .u8 x.c)∧w'.cell? ⟨b,off+k * 5+4,none⟩=some (.slice Ax mx cx)) 11 (by kernel_rfl) ⟨x4,z4,e0,e1,e2,e3,e4⟩ (fun hHeld=>?_);refine nx0 0 ?_
        iterate 8 (refine nx (v:=?_) rfl (by kernel_rfl) (fun _ _ _ h=>h) (by rfl) ?_ (by assumption) ?_; rotate_left; focus (intro w hSw; (try dsimp only at hSw); first | (go_simp; done) | (go_simp; with_reducible rfl)); try simp only[Act.put,qg,qe,qf,qd,qh,qi,Nat.reduceAdd])
        refine nx9 ?_;refine wpAnyT_step (i:=8) (by kernel_rfl) rfl (fun K hK=>?_)
        (go_simp; refine(Hq.out _ hbd).mono ?_; rintro e w1 ⟨A7,m7,c7,rfl,h7,hb7⟩; have hb1:Below wr.heap.size wr w1:=hbd.trans (hb7.mono hbd.size); have Hb1:=qq hb1; have H7:=qq h7; have hs1:=hb1.size; clear h7 hb7 hb1)
        refine hK.out _ _ ⟨(Hb1.out.cell (p:=⟨w.heap.size+1+1,4,none⟩) hgs).trans x4,(Hb1.out.cell (p:=⟨w.heap.size,4,none⟩) hps).trans z4,(Hb1.out.cell (p:=⟨b,off+k * 5,none⟩) hbr).trans e0,(Hb1.out.cell (p:=⟨b,off+k * 5+1,none⟩) hbr).trans e1,(Hb1.out.cell (p:=⟨b,off+k * 5+2,none⟩) hbr).trans e2,(Hb1.out.cell (p:=⟨b,off+k * 5+3,none⟩) hbr).trans e3,(Hb1.out.cell (p:=⟨b,off+k * 5+4,none⟩) hbr).trans e4⟩ ?_;clear hK K
        try simp only[Act.put,qg,qe,qf,qd,qh,qi]
        have y4:=(Hb1.out.cell (p:=⟨w.heap.size+1+1,4,none⟩) hgs).trans x4;have t4:=(Hb1.out.cell (p:=⟨w.heap.size,4,none⟩) hps).trans z4;have g0:=(Hb1.out.cell (p:=⟨b,off+k * 5,none⟩) hbr).trans e0;have g1:=(Hb1.out.cell (p:=⟨b,off+k * 5+1,none⟩) hbr).trans e1;have g2:=(Hb1.out.cell (p:=⟨b,off+k * 5+2,none⟩) hbr).trans e2;have g3:=(Hb1.out.cell (p:=⟨b,off+k * 5+3,none⟩) hbr).trans e3;have g4:=(Hb1.out.cell (p:=⟨b,off+k * 5+4,none⟩) hbr).trans e4
        have hgs1:w.heap.size+1+1<w1.heap.size:=by omega
        have hps1:w.heap.size<w1.heap.size:=by omega
        have hbr1:b<w1.heap.size:=by omega
        clear x4 z4 e0 e1 e2 e3 e4;refine wpAnyT_step (i:=8+1) (by kernel_rfl) rfl (fun K hK=>?_);go_simp;refine hK.out _ _ ⟨(World.cell?_alloc_lt _ _ ⟨w.heap.size+1+1,4,none⟩ hgs1).trans y4,(World.cell?_alloc_lt _ _ ⟨w.heap.size,4,none⟩ hps1).trans t4,(World.cell?_alloc_lt _ _ ⟨b,off+k * 5,none⟩ hbr1).trans g0,(World.cell?_alloc_lt _ _ ⟨b,off+k * 5+1,none⟩ hbr1).trans g1,(World.cell?_alloc_lt _ _ ⟨b,off+k * 5+2,none⟩ hbr1).trans g2,(World.cell?_alloc_lt _ _ ⟨b,off+k * 5+3,none⟩ hbr1).trans g3,(World.cell?_alloc_lt _ _ ⟨b,off+k * 5+4,none⟩ hbr1).trans g4⟩ ?_;clear hK K
        try simp only[Act.put,qg,qe,qf,qd,qh,qi]
        have hs0:=HO.out.2.1.lt
        have hcV:CelsV w1 (fun b=>b<w1.heap.size∧some b≠(Value.slice A5 X.length c5).ownBlock∧¬ (Kb≤b∧b<w.heap.size+1+1+1)) (encT u) [.int .u8 u.k,.int .i64 u.n,.int .i64 u.v,.int .u8 u.c,.slice A7 m7 c7]:=tyC (H7.out.mono fun q hq=>by
         rcases hq with hq | hq
         · refine⟨by omega,fun e=>?_,by omega⟩
           have:=(hs0 q e.symm).1;omega
         · have hq1:wr.heap.size≤q:=hq.1
           refine⟨hq.2,fun e=>?_,by omega⟩
           have:=(hs0 q e.symm).2
           omega)
        have hO1:=HO.out.2.1.beyond Hb1.out;have hlk:=Hlk.out;rw[hlk] at hcV hO1;have HcV:=qq hcV;have HO1:=qq hO1;have HB1:=qq (Hbel.out.trans (Hb1.out.mono (by omega)));clear hcV hO1 hs0 H7;refine wpAnyT_step (i:=8+2) (by kernel_rfl) rfl (fun K hK=>?_)
        (refine step_append_cel W9 w1 (by rfl) (.tmp 52) (.tmp 60) 25 (by rfl) (w.heap.size+1+1+1) 27 i0 _ 5 56 Tryz.underlying25 hi0 hz0 hz1 hz2 rfl (by omega) (fun b=>Kb≤b∧b<w.heap.size+1+1+1) (.slice A5 k c5) k _ (by rfl) [.int .u8 u.k,.int .i64 u.n,.int .i64 u.v,.int .u8 u.c,.slice A7 m7 c7] (encT u) rfl (by intro u hu; simp at hu; rcases hu with rfl | rfl | rfl | rfl | rfl <;> rfl) (by rfl) HO1.out HcV.out (by unfold maxLen; have:=mayT_len HM.out; omega) (by have:=mayT_len HM.out; omega) HB1.out (by omega) (by omega) ?_; intro A8 c8 w8 ho8 hbel8 hg8 hsz8 _; have hgb:some (w.heap.size+1+1)≠(Value.slice A5 k c5).ownBlock:=(fun e=>by have:=(HO1.out.lt _ e.symm).1; omega); have hpb:some w.heap.size≠(Value.slice A5 k c5).ownBlock:=(fun e=>by have:=(HO1.out.lt _ e.symm).1; omega); have hbb:some b≠(Value.slice A5 k c5).ownBlock:=(fun e=>by have:=(HO1.out.lt _ e.symm).1; omega); have hcg:∀ j,w8.cell? ⟨w.heap.size+1+1,j,none⟩=w1.cell? ⟨w.heap.size+1+1,j,none⟩:=(fun j=>World.cell?_of_block (hg8.block (w.heap.size+1+1) hgs1 hgb)); have hcp:∀ j,w8.cell? ⟨w.heap.size,j,none⟩=w1.cell? ⟨w.heap.size,j,none⟩:=(fun j=>World.cell?_of_block (hg8.block w.heap.size hps1 hpb)); have hcb:∀ j,w8.cell? ⟨b,j,none⟩=w1.cell? ⟨b,j,none⟩:=(fun j=>World.cell?_of_block (hg8.block b hbr1 hbb)))
        refine hK.out _ _ ⟨(hcg _).trans y4,(hcp _).trans t4,(hcb _).trans g0,(hcb _).trans g1,(hcb _).trans g2,(hcb _).trans g3,(hcb _).trans g4⟩ ?_;clear hK K
        try simp only[Act.put,qg,qe,qf,qd,qh,qi]
        have q4:=(hcg 4).trans y4;have fq:w8.frozen? ⟨w.heap.size+1+1,4,none⟩=false:=((HO.out.1.below Hb1.out HO.out.1.lt).grown hg8 hgb).frozen 4
        have Hpush:Hid (OutAt (w8.setCell ⟨w.heap.size+1+1,4,none⟩ (.slice A8 (k+1) c8)) (w.heap.size+1+1) (w.heap.size+1+1+1) (fun b=>Kb≤b∧b<w.heap.size+1+1+1) t.k (nv) (vv) (t.c) ((t.l.take (k+1)).map U) A8 c8):=by
         have h:=OutAt.push (HO.out.below Hb1.out) (A6:=A8) (c6:=c8) (w':=w8) u;rw[Hlk.out] at h;rw[Hst.out];exact qq (h ho8 hg8)
        have Hb8:=qq (hbel8.setCell (p:=⟨w.heap.size+1+1,4,none⟩) (Nat.le_refl _) (.slice A8 (k+1) c8));clear hcg hcp hcb hgb hpb hbb ho8 hbel8 hg8 y4 t4 g0 g1 g2 g3 g4;refine wpAnyT_seq 11 (by omega) (by rfl) (by kernel_rfl) ?_;simp only[List.drop_succ_cons,List.drop_zero];go_wp2_with fail;refine NoPanic.normal ?_;clear q4 fq;go_wp2_with fail;go_roundg (m - (k+1))
        case measure=>omega
        case rel=>exact⟨k+1,A8,c8,by omega,rfl,by go_num,Hpush.out,Hb8.out⟩
      · have d0:decide (k<m)=false:=by simpa using hkm
        have hall:t.l.take k=t.l:=List.take_of_length_le (by omega);rw[hall] at hO;have hT:=OutAt.done (s:=w.heap.size+1+1+1) hO (Nat.le_refl _) (by omega)
        have hlm:(t.l.map U).length=m:=by rw[List.length_map]; exact hlen
        have hk5:=hO.1;rw[hlm] at hk5 hT;have x0:=hk5.cell 0;have x1:=hk5.cell 1;have x2:=hk5.cell 2;have x3:=hk5.cell 3;have x4:=hk5.cell 4;have hyr:=Hy7.out.below hbel (by omega);have s0:=hyr.frozen 0;have s1:=hyr.frozen 1;have s2:=hyr.frozen 2;have s3:=hyr.frozen 3;have s4:=hyr.frozen 4;have r0:=hyr.cell 0;have r1:=hyr.cell 1;have r2:=hyr.cell 2;have r3:=hyr.cell 3;have r4:=hyr.cell 4
        have hg1:w.heap.size≤w.heap.size+1:=by omega
        have Hyr:=qq hyr;have HT5:=qq hT;have HbF:=qq hW7r;clear hO hk5 hT hyr hall hlm hbel hzr hW7r;go_wp2_with fail;have hyr:=Hyr.out;have hW7r:=HbF.out;have hs9:=((((hyr.set_ 0 (.int .u8 (t.k))).set_ 1 (.int .i64 ((nv)))).set_ 2 (.int .i64 (vv))).set_ 3 (.int .u8 (t.c))).set_ 4 (.slice A5 m c5);have hb9:=((((hW7r.setCell (p:=⟨w.heap.size+1,0,none⟩) hg1 (.int .u8 (t.k))).setCell (p:=⟨w.heap.size+1,1,none⟩) hg1 (.int .i64 ((nv)))).setCell (p:=⟨w.heap.size+1,2,none⟩) hg1 (.int .i64 (vv))).setCell (p:=⟨w.heap.size+1,3,none⟩) hg1 (.int .u8 (t.c))).setCell (p:=⟨w.heap.size+1,4,none⟩) hg1 (.slice A5 m c5);generalize hW9:((((((wr).setCell ⟨w.heap.size+1,0,none⟩ (.int .u8 (t.k))).setCell ⟨w.heap.size+1,1,none⟩ (.int .i64 ((nv)))).setCell ⟨w.heap.size+1,2,none⟩ (.int .i64 (vv))).setCell ⟨w.heap.size+1,3,none⟩ (.int .u8 (t.c))).setCell ⟨w.heap.size+1,4,none⟩ (.slice A5 m c5))=W9 at hs9 hb9 ⊢;replace hs9:Blk W9 (w.heap.size+1) 27 #[.int .u8 (t.k),.int .i64 ((nv)),.int .i64 (vv),.int .u8 (t.c),.slice A5 m c5]:=hs9;have d0':W9.cell? ⟨w.heap.size+1,0,none⟩=some (.int .u8 (t.k)):=hs9.cell 0;have d1':W9.cell? ⟨w.heap.size+1,1,none⟩=some (.int .i64 ((nv))):=hs9.cell 1;have d2':W9.cell? ⟨w.heap.size+1,2,none⟩=some (.int .i64 (vv)):=hs9.cell 2;have d3':W9.cell? ⟨w.heap.size+1,3,none⟩=some (.int .u8 (t.c)):=hs9.cell 3;have d4':W9.cell? ⟨w.heap.size+1,4,none⟩=some (.slice A5 m c5):=hs9.cell 4
        have hT9:TysS W9 (fun b=>b<Kb∨(w.heap.size≤b∧b<W9.heap.size)) A5 m c5 (t.l.map U):=by
         rw[← hW9];refine HT5.out.keep (fun b hb=>?_) fun p hp=>?_
         · rcases hb with hb | hb
           · exact .inl hb
           · exact .inr ⟨by omega,by simpa using hb.2⟩
         · have c1:∀ (W':World) (o:Nat) (v:Value),(W'.setCell ⟨w.heap.size+1,o,none⟩ v).cell? p=W'.cell? p:=fun W' o v=>World.cell?_setCell_other _ _ _ _ (fun e=>by
            have e1:w.heap.size+1=p.block:=by rw[← e]
            rcases hp with hp | hp <;> omega)
           rw[c1,c1,c1,c1,c1]
        exact bodyPost_ret (v:=.agg #[.int .u8 t.k,.int .i64 (nv),.int .i64 (vv),.int .u8 (t.c),.slice A5 m c5]) (by simp[results,Tryz.results114,go_sem,d0',d1',d2',d3',d4']) rfl (by rw[HR.out]; exact⟨A5,m,c5,rfl,hT9,hb9⟩)
end Go.Proofs.YtdmakpmbknindaaGreatDoor
namespace Go.Proofs.YtdmakpmbknindaaGreatDoor
open Go.RowKit
theorem refCanon_any {t u:TyD} (hu:canT t=u) (hm:mayT t=true) (A:Option Addr) (m cp:Nat) (w:World) (hl:TysV w w.heap.size A m cp t.l) (hn:nodes t≤1099511627776):
 Calls Tryz.prog 52 #[.agg #[.int .u8 t.k,.int .i64 t.n,.int .i64 t.v,.int .u8 t.c,.slice A m cp]] w (RetTy u w):=by
 obtain⟨W,hW⟩:∃ W,(w.alloc (Obj.cells #[.int .u8 t.k,.int .i64 t.n,.int .i64 t.v,.int .u8 t.c,.slice A m cp] 27)).alloc (Obj.cells #[.int .u8 0,.int .i64 0,.int .i64 0,.int .u8 0,.slice none 0 0] 27)=W:=⟨_,rfl⟩
 have hb:Below w.heap.size w W:=by rw[← hW]; exact((Below.refl _ _).alloc (Nat.le_refl _) _).alloc (by simp) _
 have hsz:W.heap.size=w.heap.size+1+1:=by rw[← hW]; simp
 have hz:Blk W w.heap.size 27 #[.int .u8 t.k,.int .i64 t.n,.int .i64 t.v,.int .u8 t.c,.slice A m cp]:=by
  rw[← hW]; exact(blk_new w _ _).alloc _
 have hy:Blk W (w.heap.size+1) 27 #[.int .u8 0,.int .i64 0,.int .i64 0,.int .u8 0,.slice none 0 0]:=by
  rw[← hW]; have:=blk_new (w.alloc (Obj.cells #[.int .u8 t.k,.int .i64 t.n,.int .i64 t.v,.int .u8 t.c,.slice A m cp] 27)) #[.int .u8 0,.int .i64 0,.int .i64 0,.int .u8 0,.slice none 0 0] 27
  rwa [World.size_alloc] at this
 obtain⟨l1,h1⟩:∃ l,varsT t=l:=⟨_,rfl⟩;obtain⟨l2,h2⟩:∃ l,multsT t=l:=⟨_,rfl⟩;have hlW:=TysV.fresh hl hb;have HW:=qq hW;have Hb:=qq hb;have Hz:=qq hz;have Hy:=qq hy;have HL:=qq hlW;have Hq:=qq (refVars_any h1 h2 A m cp W hlW hn)
 have HU:Hid (ren (idxN l1) (idxN l2) t=u):=qq (by rw[← hu,← h1,← h2]; rfl)
 have Hm:=qq hm;clear hW hb hz hy h1 h2 hlW hl hn hm hu
 go_enter Tryz.func52,Tryz.ntmps52
 go_wp2_with fail;rw[HW.out]
 refine Hq.out.mono ?_; rintro e w1 ⟨A1,n1,c1,A2,n2,c2,rfl,hr1,hr2,hb1⟩
 obtain⟨W2,hW2⟩:∃ W2,w1.alloc (Obj.cells #[.slice A1 n1 c1,.slice A2 n2 c2] 32)=W2:=⟨_,rfl⟩;have hbx:=below_box (w:=w1) (Obj.cells #[.slice A1 n1 c1,.slice A2 n2 c2] 32);have hx:=blk_new w1 #[.slice A1 n1 c1,.slice A2 n2 c2] 32;rw[hW2] at hbx hx;have hb12:=hb1.trans (hbx.mono hb1.size);have hs2:SnR W2 w1.heap.size A1 n1 c1 l1 A2 n2 c2 l2:=⟨hx.lt,hx.cell 0,hx.cell 1,RdI.fresh hr1 hbx,RdI.fresh hr2 hbx⟩;have hz2:=Hz.out.below hb12 Hz.out.lt;have hy2:=Hy.out.below hb12 Hy.out.lt;have z0:=hz2.cell 0;have z1:=hz2.cell 1;have z2:=hz2.cell 2;have z3:=hz2.cell 3;have z4:=hz2.cell 4;have hq:=refCanon_go 0 w1.heap.size A1 n1 c1 l1 A2 n2 c2 l2 (nodes t) t (Nat.le_refl _) Hm.out A m cp W2 (TysV.fresh HL.out hb12) (Nat.zero_le _) hs2;rw[HU.out] at hq;have hw2:=Hb.out.trans (hb12.mono Hb.out.size);rw[← hW2] at z0 z1 z2 z3 z4;have HW2:=qq hW2;have Hq2:=qq hq;have Hw2:=qq hw2;have Hy2:=qq hy2;clear hW2 hbx hx hb12 hs2 hz2 hy2 hq hw2 hr1 hr2 hb1 Hq Hz Hy HL;go_wp2_with fail;rw[HW2.out]
 refine Hq2.out.mono ?_; rintro e w3 ⟨A5,m5,c5,rfl,h5,hb3⟩
 have hyr:=Hy2.out.below hb3 Hy2.out.lt;have hW3:=Hw2.out.trans (hb3.mono Hw2.out.size);have s0:=hyr.frozen 0;have s1:=hyr.frozen 1;have s2:=hyr.frozen 2;have s3:=hyr.frozen 3;have s4:=hyr.frozen 4;have r0:=hyr.cell 0;have r1:=hyr.cell 1;have r2:=hyr.cell 2;have r3:=hyr.cell 3;have r4:=hyr.cell 4;have hs3:=hb3.size;have hs2:=Hw2.out.size;have hlt2:=Hy2.out.lt
 have hg1:w.heap.size≤w.heap.size+1:=by omega
 have Hyr:=qq hyr;have H5:=qq h5;have HbF:=qq hW3;clear hyr h5 hW3 z0 z1 z2 z3 z4 hb3;go_wp2_with fail;have hyr:=Hyr.out;have hW3:=HbF.out;have hs9:=((((hyr.set_ 0 (.int .u8 (u.k))).set_ 1 (.int .i64 (u.n))).set_ 2 (.int .i64 (u.v))).set_ 3 (.int .u8 (u.c))).set_ 4 (.slice A5 m5 c5);have hb9:=((((hW3.setCell (p:=⟨w.heap.size+1,0,none⟩) hg1 (.int .u8 (u.k))).setCell (p:=⟨w.heap.size+1,1,none⟩) hg1 (.int .i64 (u.n))).setCell (p:=⟨w.heap.size+1,2,none⟩) hg1 (.int .i64 (u.v))).setCell (p:=⟨w.heap.size+1,3,none⟩) hg1 (.int .u8 (u.c))).setCell (p:=⟨w.heap.size+1,4,none⟩) hg1 (.slice A5 m5 c5);generalize hW9:((((((w3).setCell ⟨w.heap.size+1,0,none⟩ (.int .u8 (u.k))).setCell ⟨w.heap.size+1,1,none⟩ (.int .i64 (u.n))).setCell ⟨w.heap.size+1,2,none⟩ (.int .i64 (u.v))).setCell ⟨w.heap.size+1,3,none⟩ (.int .u8 (u.c))).setCell ⟨w.heap.size+1,4,none⟩ (.slice A5 m5 c5))=W9 at hs9 hb9 ⊢;replace hs9:Blk W9 (w.heap.size+1) 27 #[.int .u8 (u.k),.int .i64 (u.n),.int .i64 (u.v),.int .u8 (u.c),.slice A5 m5 c5]:=hs9;have d0':W9.cell? ⟨w.heap.size+1,0,none⟩=some (.int .u8 (u.k)):=hs9.cell 0;have d1':W9.cell? ⟨w.heap.size+1,1,none⟩=some (.int .i64 (u.n)):=hs9.cell 1;have d2':W9.cell? ⟨w.heap.size+1,2,none⟩=some (.int .i64 (u.v)):=hs9.cell 2;have d3':W9.cell? ⟨w.heap.size+1,3,none⟩=some (.int .u8 (u.c)):=hs9.cell 3;have d4':W9.cell? ⟨w.heap.size+1,4,none⟩=some (.slice A5 m5 c5):=hs9.cell 4
 have hT9:TysS W9 (fun b=>b<W9.heap.size) A5 m5 c5 u.l:=by
  rw[← hW9];refine H5.out.keep (fun b hb=>?_) fun p hp=>?_
  · rcases hb with hb | hb
    · exact absurd hb (by omega)
    · simpa using hb.2
  · have c1:∀ (W':World) (o:Nat) (v:Value),(W'.setCell ⟨w.heap.size+1,o,none⟩ v).cell? p=W'.cell? p:=fun W' o v=>World.cell?_setCell_other _ _ _ _ (fun e=>by
     have e1:w.heap.size+1=p.block:=by rw[← e]
     rcases hp with hp | hp <;> omega)
    rw[c1,c1,c1,c1,c1]
 exact bodyPost_ret (v:=.agg #[.int .u8 u.k,.int .i64 u.n,.int .i64 u.v,.int .u8 u.c,.slice A5 m5 c5]) (by simp[results,Tryz.results52,go_sem,d0',d1',d2',d3',d4']) rfl ⟨A5,m5,c5,rfl,hT9.lt fun b hb=>hb,hb9⟩
end Go.Proofs.YtdmakpmbknindaaGreatDoor
