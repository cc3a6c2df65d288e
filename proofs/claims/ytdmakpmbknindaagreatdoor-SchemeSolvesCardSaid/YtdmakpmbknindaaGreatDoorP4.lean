import Derived.Test.YtdmakpmbknindaaGreatDoorP3
import Derived.Test.YtdmakpmbknindaaGreatDoorM21
set_option linter.unusedVariables false
set_option linter.unusedSimpArgs false
set_option maxHeartbeats 8000000
set_option maxRecDepth 100000
namespace Go.Proofs.YtdmakpmbknindaaGreatDoor
open Go.RowKit
def RetTyE (u:TyD) (x:Int) (w:World) (e:Ending) (w':World):Prop:=
 ∃ A m cp,e=.returned (.tuple #[.agg #[.int .u8 u.k,.int .i64 u.n,.int .i64 u.v,.int .u8 u.c,.slice A m cp],.int .i64 x])∧TysS w' (fun b=>w.heap.size≤b∧b<w'.heap.size) A m cp u.l∧Below w.heap.size w w'
theorem mayTE_zero {t:TyD} (h:(mayTE t != 0)=false):mayT t=true:=by
 unfold mayTE at h
 split at h
 · simp at h
 · split at h
   · rename_i h2; exact h2
   · simp at h
theorem sizeW_wrap (t:TyD):wrap64 (sizeW t)=sizeW t:=by
 unfold sizeW;have:=wrap_add (nodes t) 0
 have h0:wrap64 0=0:=by decide +kernel
 rw[h0,Int.add_zero,Int.add_zero] at this;exact this
theorem tyPut_any (t:TyD) (A:Option Addr) (m cp:Nat) (A1:Option Addr) (n1 c1:Nat) (types:List TyD) (A2:Option Addr) (n2 c2:Nat) (ms:List (Int × Int)) (w:World) (hl:TysV w w.heap.size A m cp t.l) (hts:TysV w w.heap.size A1 n1 c1 types) (hms:MusV w w.heap.size A2 n2 c2 ms) (hn:n1≤1099511627776):
 Calls Tryz.prog 20 #[.agg #[.int .u8 t.k,.int .i64 t.n,.int .i64 t.v,.int .u8 t.c,.slice A m cp],.slice A1 n1 c1,.slice A2 n2 c2] w (RetTyE (putT t types ms) (putE t types ms) w):=by
 have hw1:=below_box (w:=w) (Obj.cells #[.int .u8 t.k,.int .i64 t.n,.int .i64 t.v,.int .u8 t.c,.slice A m cp] 27);obtain⟨W,hW⟩:∃ W,(((w.alloc (Obj.cells #[.int .u8 t.k,.int .i64 t.n,.int .i64 t.v,.int .u8 t.c,.slice A m cp] 27)).alloc (Obj.cells #[.slice A1 n1 c1] 25)).alloc (Obj.cells #[.slice A2 n2 c2] 50)).alloc (Obj.cells #[.int .u8 0,.int .i64 0,.int .i64 0,.int .u8 0,.slice none 0 0] 27)=W:=⟨_,rfl⟩
 have hb:Below w.heap.size w W:=by rw[← hW]; exact(((Below.refl _ _).alloc (Nat.le_refl _) _).alloc (by simp) _ |>.alloc (by simp; omega) _).alloc (by simp; omega) _
 have hz:Blk W w.heap.size 27 #[.int .u8 t.k,.int .i64 t.n,.int .i64 t.v,.int .u8 t.c,.slice A m cp]:=by
  rw[← hW]; exact(((blk_new w _ _).alloc _).alloc _).alloc _
 have hx:Blk W (w.heap.size+1) 25 #[.slice A1 n1 c1]:=by
  rw[← hW]; have:=((blk_new (w.alloc (Obj.cells #[.int .u8 t.k,.int .i64 t.n,.int .i64 t.v,.int .u8 t.c,.slice A m cp] 27)) #[.slice A1 n1 c1] 25).alloc (Obj.cells #[.slice A2 n2 c2] 50)).alloc (Obj.cells #[.int .u8 0,.int .i64 0,.int .i64 0,.int .u8 0,.slice none 0 0] 27)
  rwa [World.size_alloc] at this
 have hq:Blk W (w.heap.size+1+1) 50 #[.slice A2 n2 c2]:=by
  rw[← hW]; have:=(blk_new ((w.alloc (Obj.cells #[.int .u8 t.k,.int .i64 t.n,.int .i64 t.v,.int .u8 t.c,.slice A m cp] 27)).alloc (Obj.cells #[.slice A1 n1 c1] 25)) #[.slice A2 n2 c2] 50).alloc (Obj.cells #[.int .u8 0,.int .i64 0,.int .i64 0,.int .u8 0,.slice none 0 0] 27)
  rwa [World.size_alloc,World.size_alloc] at this
 have hy:Blk W (w.heap.size+1+1+1) 27 #[.int .u8 0,.int .i64 0,.int .i64 0,.int .u8 0,.slice none 0 0]:=by
  rw[← hW]; have:=blk_new (((w.alloc (Obj.cells #[.int .u8 t.k,.int .i64 t.n,.int .i64 t.v,.int .u8 t.c,.slice A m cp] 27)).alloc (Obj.cells #[.slice A1 n1 c1] 25)).alloc (Obj.cells #[.slice A2 n2 c2] 50)) #[.int .u8 0,.int .i64 0,.int .i64 0,.int .u8 0,.slice none 0 0] 27
  rwa [World.size_alloc,World.size_alloc,World.size_alloc] at this
 have HW:=qq hW;have Hb:=qq hb;have Hz:=qq hz;have Hx:=qq hx;have Hq:=qq hq;have Hy:=qq hy;have HL:=qq (hl.below hb);have HT:=qq (hts.below hb);have HM:=qq (hms.below hb)
 have hbad:putBad t types ms=((mayTE t != 0) || types.any (fun x=>mayTE x != 0) || ms.any (fun x=>!isB x.2 x.1)):=rfl
 obtain⟨R0,hR0⟩:∃ R,(mayTE t != 0)=R:=⟨_,rfl⟩;obtain⟨R1,hR1⟩:∃ R,types.any (fun x=>mayTE x != 0)=R:=⟨_,rfl⟩;obtain⟨R2,hR2⟩:∃ R,ms.any (fun x=>!isB x.2 x.1)=R:=⟨_,rfl⟩;rw[hR0,hR1,hR2] at hbad;have Hbad:=qq hbad;have H0:=qq hR0;have H1:=qq hR1;have H2:=qq hR2;have hc0:=put1_any t A m cp W ((hl.below hb).more hb.size);rw[hR0] at hc0;have Hc0:=qq hc0;clear hw1 hb hz hx hq hy hl hts hms hbad hR0 hR1 hR2 hc0 hW
 go_enter Tryz.func20,Tryz.ntmps20
 go_wp2_with fail;rw[HW.out]
 refine Hc0.out.mono ?_; rintro e w1 ⟨rfl,hb1⟩
 replace Hz:=qq (Hz.out.below hb1 Hz.out.lt);replace Hx:=qq (Hx.out.below hb1 Hx.out.lt);replace Hq:=qq (Hq.out.below hb1 Hq.out.lt);replace Hy:=qq (Hy.out.below hb1 Hy.out.lt);replace HL:=qq (HL.out.below (hb1.mono Hb.out.size));replace HT:=qq (HT.out.below (hb1.mono Hb.out.size));replace HM:=qq (HM.out.below (hb1.mono Hb.out.size));replace Hb:=qq (Hb.out.trans (hb1.mono Hb.out.size));clear hb1 Hc0
 cases R0 with
 | true=>
   have HE:Hid (putE t types ms=2):=qq (by unfold putE; rw[Hbad.out]; rfl)
   have HR:Hid (putT t types ms=.mk 0 0 0 0 []∧putE t types ms=2):=qq (by
    have h:=HE.out
    exact⟨by unfold putT; rw[h,if_neg (by decide)],h⟩)
   have hy9:=Hy.out;have s0:=hy9.frozen 0;have s1:=hy9.frozen 1;have s2:=hy9.frozen 2;have s3:=hy9.frozen 3;have s4:=hy9.frozen 4;have r0:=hy9.cell 0;have r1:=hy9.cell 1;have r2:=hy9.cell 2;have r3:=hy9.cell 3;have r4:=hy9.cell 4;go_wp2_with fail
   have hs:Blk (((((w1.setCell ⟨w.heap.size+1+1+1,0,none⟩ (.int .u8 0)).setCell ⟨w.heap.size+1+1+1,1,none⟩ (.int .i64 0)).setCell ⟨w.heap.size+1+1+1,2,none⟩ (.int .i64 0)).setCell ⟨w.heap.size+1+1+1,3,none⟩ (.int .u8 0)).setCell ⟨w.heap.size+1+1+1,4,none⟩ (.slice none 0 0)) (w.heap.size+1+1+1) 27 #[.int .u8 0,.int .i64 0,.int .i64 0,.int .u8 0,.slice none 0 0]:=
    ((((hy9.set_ 0 (.int .u8 0)).set_ 1 (.int .i64 0)).set_ 2 (.int .i64 0)).set_ 3 (.int .u8 0)).set_ 4 (.slice none 0 0)
   have hle:w.heap.size≤w.heap.size+1+1+1:=by omega
   have hb9:=((((Hb.out.setCell (p:=⟨w.heap.size+1+1+1,0,none⟩) hle (.int .u8 0)).setCell (p:=⟨w.heap.size+1+1+1,1,none⟩) hle (.int .i64 0)).setCell (p:=⟨w.heap.size+1+1+1,2,none⟩) hle (.int .i64 0)).setCell (p:=⟨w.heap.size+1+1+1,3,none⟩) hle (.int .u8 0)).setCell (p:=⟨w.heap.size+1+1+1,4,none⟩) hle (.slice none 0 0);generalize (((((w1.setCell ⟨w.heap.size+1+1+1,0,none⟩ (.int .u8 0)).setCell ⟨w.heap.size+1+1+1,1,none⟩ (.int .i64 0)).setCell ⟨w.heap.size+1+1+1,2,none⟩ (.int .i64 0)).setCell ⟨w.heap.size+1+1+1,3,none⟩ (.int .u8 0)).setCell ⟨w.heap.size+1+1+1,4,none⟩ (.slice none 0 0))=W6 at hs hb9 ⊢;have d0':W6.cell? ⟨w.heap.size+1+1+1,0,none⟩=some (.int .u8 0):=hs.cell 0;have d1':W6.cell? ⟨w.heap.size+1+1+1,1,none⟩=some (.int .i64 0):=hs.cell 1;have d2':W6.cell? ⟨w.heap.size+1+1+1,2,none⟩=some (.int .i64 0):=hs.cell 2;have d3':W6.cell? ⟨w.heap.size+1+1+1,3,none⟩=some (.int .u8 0):=hs.cell 3;have d4':W6.cell? ⟨w.heap.size+1+1+1,4,none⟩=some (.slice none 0 0):=hs.cell 4
   exact bodyPost_ret (v:=.tuple #[.agg #[.int .u8 0,.int .i64 0,.int .i64 0,.int .u8 0,.slice none 0 0],.int .i64 2]) (by simp[results,Tryz.results20,go_sem,d0',d1',d2',d3',d4']) rfl (by rw[HR.out.1,HR.out.2]; exact⟨none,0,0,rfl,TysS.nil,hb9⟩)
 | false=>
   have x0:=Hx.out.cell 0;have hc:=containsG (fun x=>mayTE x != 0) 58 #[] (fun _ _=>rfl) A1 n1 c1 types w1 (HT.out.more Hb.out.size) (fun i h A' m' c' w' _ hx=>put1_any types[i] A' m' c' w' hx) R1 H1.out;have Hc:=qq hc;clear hc;go_wp2_with fail
   refine Hc.out.mono ?_; rintro e w2 ⟨rfl,hb2⟩
   replace Hz:=qq (Hz.out.below hb2 Hz.out.lt);replace Hx:=qq (Hx.out.below hb2 Hx.out.lt);replace Hq:=qq (Hq.out.below hb2 Hq.out.lt);replace Hy:=qq (Hy.out.below hb2 Hy.out.lt);replace HL:=qq (HL.out.below (hb2.mono Hb.out.size));replace HT:=qq (HT.out.below (hb2.mono Hb.out.size));replace HM:=qq (HM.out.below (hb2.mono Hb.out.size));replace Hb:=qq (Hb.out.trans (hb2.mono Hb.out.size));clear hb2;clear x0 Hc
   cases R1 with
   | true=>
     have HE:Hid (putE t types ms=2):=qq (by unfold putE; rw[Hbad.out]; rfl)
     have HR:Hid (putT t types ms=.mk 0 0 0 0 []∧putE t types ms=2):=qq (by
      have h:=HE.out
      exact⟨by unfold putT; rw[h,if_neg (by decide)],h⟩)
     have hy9:=Hy.out;have s0:=hy9.frozen 0;have s1:=hy9.frozen 1;have s2:=hy9.frozen 2;have s3:=hy9.frozen 3;have s4:=hy9.frozen 4;have r0:=hy9.cell 0;have r1:=hy9.cell 1;have r2:=hy9.cell 2;have r3:=hy9.cell 3;have r4:=hy9.cell 4;go_wp2_with fail
     have hs:Blk (((((w2.setCell ⟨w.heap.size+1+1+1,0,none⟩ (.int .u8 0)).setCell ⟨w.heap.size+1+1+1,1,none⟩ (.int .i64 0)).setCell ⟨w.heap.size+1+1+1,2,none⟩ (.int .i64 0)).setCell ⟨w.heap.size+1+1+1,3,none⟩ (.int .u8 0)).setCell ⟨w.heap.size+1+1+1,4,none⟩ (.slice none 0 0)) (w.heap.size+1+1+1) 27 #[.int .u8 0,.int .i64 0,.int .i64 0,.int .u8 0,.slice none 0 0]:=
      ((((hy9.set_ 0 (.int .u8 0)).set_ 1 (.int .i64 0)).set_ 2 (.int .i64 0)).set_ 3 (.int .u8 0)).set_ 4 (.slice none 0 0)
     have hle:w.heap.size≤w.heap.size+1+1+1:=by omega
     have hb9:=((((Hb.out.setCell (p:=⟨w.heap.size+1+1+1,0,none⟩) hle (.int .u8 0)).setCell (p:=⟨w.heap.size+1+1+1,1,none⟩) hle (.int .i64 0)).setCell (p:=⟨w.heap.size+1+1+1,2,none⟩) hle (.int .i64 0)).setCell (p:=⟨w.heap.size+1+1+1,3,none⟩) hle (.int .u8 0)).setCell (p:=⟨w.heap.size+1+1+1,4,none⟩) hle (.slice none 0 0);generalize (((((w2.setCell ⟨w.heap.size+1+1+1,0,none⟩ (.int .u8 0)).setCell ⟨w.heap.size+1+1+1,1,none⟩ (.int .i64 0)).setCell ⟨w.heap.size+1+1+1,2,none⟩ (.int .i64 0)).setCell ⟨w.heap.size+1+1+1,3,none⟩ (.int .u8 0)).setCell ⟨w.heap.size+1+1+1,4,none⟩ (.slice none 0 0))=W6 at hs hb9 ⊢;have d0':W6.cell? ⟨w.heap.size+1+1+1,0,none⟩=some (.int .u8 0):=hs.cell 0;have d1':W6.cell? ⟨w.heap.size+1+1+1,1,none⟩=some (.int .i64 0):=hs.cell 1;have d2':W6.cell? ⟨w.heap.size+1+1+1,2,none⟩=some (.int .i64 0):=hs.cell 2;have d3':W6.cell? ⟨w.heap.size+1+1+1,3,none⟩=some (.int .u8 0):=hs.cell 3;have d4':W6.cell? ⟨w.heap.size+1+1+1,4,none⟩=some (.slice none 0 0):=hs.cell 4
     exact bodyPost_ret (v:=.tuple #[.agg #[.int .u8 0,.int .i64 0,.int .i64 0,.int .u8 0,.slice none 0 0],.int .i64 2]) (by simp[results,Tryz.results20,go_sem,d0',d1',d2',d3',d4']) rfl (by rw[HR.out.1,HR.out.2]; exact⟨none,0,0,rfl,TysS.nil,hb9⟩)
   | false=>
     have q0:=Hq.out.cell 0;have hc:=containsMu A2 n2 c2 ms w2 (HM.out.more Hb.out.size) R2 H2.out;have Hc:=qq hc;clear hc;go_wp2_with fail
     refine Hc.out.mono ?_; rintro e w3 ⟨rfl,hb3⟩
     replace Hz:=qq (Hz.out.below hb3 Hz.out.lt);replace Hx:=qq (Hx.out.below hb3 Hx.out.lt);replace Hq:=qq (Hq.out.below hb3 Hq.out.lt);replace Hy:=qq (Hy.out.below hb3 Hy.out.lt);replace HL:=qq (HL.out.below (hb3.mono Hb.out.size));replace HT:=qq (HT.out.below (hb3.mono Hb.out.size));replace HM:=qq (HM.out.below (hb3.mono Hb.out.size));replace Hb:=qq (Hb.out.trans (hb3.mono Hb.out.size));clear hb3;clear q0 Hc
     cases R2 with
     | true=>
       have HE:Hid (putE t types ms=2):=qq (by unfold putE; rw[Hbad.out]; rfl)
       have HR:Hid (putT t types ms=.mk 0 0 0 0 []∧putE t types ms=2):=qq (by
        have h:=HE.out
        exact⟨by unfold putT; rw[h,if_neg (by decide)],h⟩)
       have hy9:=Hy.out;have s0:=hy9.frozen 0;have s1:=hy9.frozen 1;have s2:=hy9.frozen 2;have s3:=hy9.frozen 3;have s4:=hy9.frozen 4;have r0:=hy9.cell 0;have r1:=hy9.cell 1;have r2:=hy9.cell 2;have r3:=hy9.cell 3;have r4:=hy9.cell 4;go_wp2_with fail
       have hs:Blk (((((w3.setCell ⟨w.heap.size+1+1+1,0,none⟩ (.int .u8 0)).setCell ⟨w.heap.size+1+1+1,1,none⟩ (.int .i64 0)).setCell ⟨w.heap.size+1+1+1,2,none⟩ (.int .i64 0)).setCell ⟨w.heap.size+1+1+1,3,none⟩ (.int .u8 0)).setCell ⟨w.heap.size+1+1+1,4,none⟩ (.slice none 0 0)) (w.heap.size+1+1+1) 27 #[.int .u8 0,.int .i64 0,.int .i64 0,.int .u8 0,.slice none 0 0]:=
        ((((hy9.set_ 0 (.int .u8 0)).set_ 1 (.int .i64 0)).set_ 2 (.int .i64 0)).set_ 3 (.int .u8 0)).set_ 4 (.slice none 0 0)
       have hle:w.heap.size≤w.heap.size+1+1+1:=by omega
       have hb9:=((((Hb.out.setCell (p:=⟨w.heap.size+1+1+1,0,none⟩) hle (.int .u8 0)).setCell (p:=⟨w.heap.size+1+1+1,1,none⟩) hle (.int .i64 0)).setCell (p:=⟨w.heap.size+1+1+1,2,none⟩) hle (.int .i64 0)).setCell (p:=⟨w.heap.size+1+1+1,3,none⟩) hle (.int .u8 0)).setCell (p:=⟨w.heap.size+1+1+1,4,none⟩) hle (.slice none 0 0);generalize (((((w3.setCell ⟨w.heap.size+1+1+1,0,none⟩ (.int .u8 0)).setCell ⟨w.heap.size+1+1+1,1,none⟩ (.int .i64 0)).setCell ⟨w.heap.size+1+1+1,2,none⟩ (.int .i64 0)).setCell ⟨w.heap.size+1+1+1,3,none⟩ (.int .u8 0)).setCell ⟨w.heap.size+1+1+1,4,none⟩ (.slice none 0 0))=W6 at hs hb9 ⊢;have d0':W6.cell? ⟨w.heap.size+1+1+1,0,none⟩=some (.int .u8 0):=hs.cell 0;have d1':W6.cell? ⟨w.heap.size+1+1+1,1,none⟩=some (.int .i64 0):=hs.cell 1;have d2':W6.cell? ⟨w.heap.size+1+1+1,2,none⟩=some (.int .i64 0):=hs.cell 2;have d3':W6.cell? ⟨w.heap.size+1+1+1,3,none⟩=some (.int .u8 0):=hs.cell 3;have d4':W6.cell? ⟨w.heap.size+1+1+1,4,none⟩=some (.slice none 0 0):=hs.cell 4
       exact bodyPost_ret (v:=.tuple #[.agg #[.int .u8 0,.int .i64 0,.int .i64 0,.int .u8 0,.slice none 0 0],.int .i64 2]) (by simp[results,Tryz.results20,go_sem,d0',d1',d2',d3',d4']) rfl (by rw[HR.out.1,HR.out.2]; exact⟨none,0,0,rfl,TysS.nil,hb9⟩)
     | false=>
       have hE2:putE t types ms=if 300<grownW (types.map sizeW) t then 3 else 0:=by unfold putE; rw[Hbad.out]; rfl
       have HE2:=qq hE2;have HMt:=qq (mayTE_zero H0.out)
       have HMs:Hid (∀ x∈types,mayT x=true):=qq fun x hx=>mayTE_zero (by
        have:=List.any_eq_false.1 H1.out x hx
        simpa using this)
       have hlt:=HT.out.len
       have n63:n1≤9223372036854775807:=by omega
       obtain⟨i0,hi0,hz0,hz1,hz2⟩:=info_parts (show(Tryz.prog.info? 3).map (fun i=>(i.zero,i.size,i.bytes))=some (some (.int .i64 0),1,8) from by kernel_rfl)
       have x0:=Hx.out.cell 0;clear hE2 Hbad H0 H1 H2;go_wp2_with fail;clear x0
       go_loopg [9,27] n1 (fun gh s i wr=>∃ (k:Nat) (A5:Option Addr) (c5:Nat),k≤n1∧gh=n1 - k∧i=.int .i64 k∧s=.slice A5 k c5∧wr.ownsRow w3.heap.size 3 1 (.slice A5 k c5) k (((types.take k).map sizeW).map (Value.int .i64))∧Below w3.heap.size w3 wr)
       case atStart=>exact⟨0,none,0,Nat.zero_le _,rfl,rfl,rfl,World.ownsRow_nil _ _ _ _,Below.refl _ _⟩
       case round=>
        obtain⟨k,A5,c5,hk,rfl,rfl,rfl,ho,hbel⟩:=hrel
        by_cases hkn:k<n1
        · have d0:decide (k<n1)=true:=by simpa using hkn
          have hk':k<types.length:=by omega
          obtain⟨b,off,rfl,hb,hc⟩:=((HT.out.more Hb.out.size).below hbel).at_ (by omega);obtain⟨e0,e1,e2,e3,Ax,mx,cx,e4,hx⟩:=tyAt_iff.1 (hc k hk')
          have hst:((types.take (k+1)).map sizeW).map (Value.int .i64)=((types.take k).map sizeW).map (Value.int .i64)++[.int .i64 (sizeW types[k])]:=by
           rw[List.take_succ_eq_append_getElem hk',List.map_append,List.map_append]; rfl
          obtain⟨x,hxk⟩:∃ x,types[k]=x:=⟨_,rfl⟩;rw[hxk] at e0 e1 e2 e3 hx hst;have hbB:=below_box (w:=wr) (Obj.cells #[.int .u8 x.k,.int .i64 x.n,.int .i64 x.v,.int .u8 x.c,.slice Ax mx cx] 27);have hq:=size_any x (.agg #[.int .u8 x.k,.int .i64 x.n,.int .i64 x.v,.int .u8 x.c,.slice Ax mx cx]) _ ⟨Ax,mx,cx,rfl,((hx.more hbel.size).below hbB).more hbB.size⟩;obtain⟨s,hs⟩:∃ s,sizeW x=s:=⟨_,rfl⟩;rw[hs] at hq hst;have Hqs:=qq hq;have Hst:=qq hst;have Ho:=qq (ownsRow_beyond ho hbB);have HbA:=qq (hbel.trans (hbB.mono hbel.size))
          have k1:(0:Int)≤(k:Int):=by omega
          have k2:(k:Int)<n1:=by omega
          clear hc hx hst hxk hbB hq hs ho hbel;go_wp2_with fail
          refine Hqs.out.mono ?_; rintro e w5 ⟨rfl,hb5⟩
          have Ho5:=qq (ownsRow_beyond Ho.out hb5);have Hb5:=qq (HbA.out.trans (hb5.mono HbA.out.size));clear hb5 Hqs e0 e1 e2 e3 e4
          go_wp2_with (at_builtin; go_must (refine wpList_append_one w3 w5 rfl (.tmp 31) (.tmp 34) 30 rfl w3.heap.size 3 i0 _ 1 8 Tryz.underlying30 hi0 hz0 hz1 hz2 rfl (by omega) (.slice A5 k c5) k _ rfl [.int .i64 s] rfl (by intro u hu; simp at hu; subst hu; rfl) rfl Ho5.out (by unfold maxLen; omega) (by omega) Hb5.out Hb5.out.size ?_); intro A9 c9 w9 ho9 hbel9 hg9 hz9)
          go_roundg (n1 - (k+1))
          case measure=>omega
          case rel=>exact⟨k+1,A9,c9,by omega,rfl,by go_num,rfl,by rw[Hst.out]; exact ho9,hbel9⟩
        · have d0:decide (k<n1)=false:=by simpa using hkn
          have hkn':k=n1:=by omega
          subst hkn';rw[List.take_of_length_le (by omega)] at ho;have hrd:=RdI.of_own ho;have hb7:=hbel;replace Hz:=qq (Hz.out.below hb7 Hz.out.lt);replace Hx:=qq (Hx.out.below hb7 Hx.out.lt);replace Hq:=qq (Hq.out.below hb7 Hq.out.lt);replace Hy:=qq (Hy.out.below hb7 Hy.out.lt);replace HL:=qq (HL.out.below (hb7.mono Hb.out.size));replace HT:=qq (HT.out.below (hb7.mono Hb.out.size));replace HM:=qq (HM.out.below (hb7.mono Hb.out.size));replace Hb:=qq (Hb.out.trans (hb7.mono Hb.out.size));clear hb7;have hz0':=Hz.out.cell 0;have hz1':=Hz.out.cell 1;have hz2':=Hz.out.cell 2;have hz3':=Hz.out.cell 3;have hz4':=Hz.out.cell 4
          have hq:=grown_go (types.map sizeW) (fun s hs=>by obtain⟨x,_,rfl⟩:=List.mem_map.1 hs; exact sizeW_wrap x) A5 k c5 (nodes t) t (Nat.le_refl _) HMt.out A m cp wr (HL.out.more Hb.out.size) hrd
          obtain⟨G,hG⟩:∃ G,grownW (types.map sizeW) t=G:=⟨_,rfl⟩;rw[hG] at hq HE2;have Hqg:=qq hq;clear hq hG ho hrd hbel
          by_cases hbig:G>300
          · have dg:decide (G>300)=true:=by simpa using hbig
            have HE:Hid (putE t types ms=3):=qq (by rw[HE2.out,if_pos (by omega)]);clear hbig;go_wp2_with fail
            refine Hqg.out.mono ?_; rintro e w7 ⟨rfl,hb7⟩
            replace Hz:=qq (Hz.out.below hb7 Hz.out.lt);replace Hx:=qq (Hx.out.below hb7 Hx.out.lt);replace Hq:=qq (Hq.out.below hb7 Hq.out.lt);replace Hy:=qq (Hy.out.below hb7 Hy.out.lt);replace HL:=qq (HL.out.below (hb7.mono Hb.out.size));replace HT:=qq (HT.out.below (hb7.mono Hb.out.size));replace HM:=qq (HM.out.below (hb7.mono Hb.out.size));replace Hb:=qq (Hb.out.trans (hb7.mono Hb.out.size));clear hb7;clear hz0' hz1' hz2' hz3' hz4' Hqg
            have HR:Hid (putT t types ms=.mk 0 0 0 0 []∧putE t types ms=3):=qq (by
             have h:=HE.out
             exact⟨by unfold putT; rw[h,if_neg (by decide)],h⟩)
            have hy9:=Hy.out;have s0:=hy9.frozen 0;have s1:=hy9.frozen 1;have s2:=hy9.frozen 2;have s3:=hy9.frozen 3;have s4:=hy9.frozen 4;have r0:=hy9.cell 0;have r1:=hy9.cell 1;have r2:=hy9.cell 2;have r3:=hy9.cell 3;have r4:=hy9.cell 4;go_wp2_with fail
            have hs:Blk (((((w7.setCell ⟨w.heap.size+1+1+1,0,none⟩ (.int .u8 0)).setCell ⟨w.heap.size+1+1+1,1,none⟩ (.int .i64 0)).setCell ⟨w.heap.size+1+1+1,2,none⟩ (.int .i64 0)).setCell ⟨w.heap.size+1+1+1,3,none⟩ (.int .u8 0)).setCell ⟨w.heap.size+1+1+1,4,none⟩ (.slice none 0 0)) (w.heap.size+1+1+1) 27 #[.int .u8 0,.int .i64 0,.int .i64 0,.int .u8 0,.slice none 0 0]:=
             ((((hy9.set_ 0 (.int .u8 0)).set_ 1 (.int .i64 0)).set_ 2 (.int .i64 0)).set_ 3 (.int .u8 0)).set_ 4 (.slice none 0 0)
            have hle:w.heap.size≤w.heap.size+1+1+1:=by omega
            have hb9:=((((Hb.out.setCell (p:=⟨w.heap.size+1+1+1,0,none⟩) hle (.int .u8 0)).setCell (p:=⟨w.heap.size+1+1+1,1,none⟩) hle (.int .i64 0)).setCell (p:=⟨w.heap.size+1+1+1,2,none⟩) hle (.int .i64 0)).setCell (p:=⟨w.heap.size+1+1+1,3,none⟩) hle (.int .u8 0)).setCell (p:=⟨w.heap.size+1+1+1,4,none⟩) hle (.slice none 0 0);generalize (((((w7.setCell ⟨w.heap.size+1+1+1,0,none⟩ (.int .u8 0)).setCell ⟨w.heap.size+1+1+1,1,none⟩ (.int .i64 0)).setCell ⟨w.heap.size+1+1+1,2,none⟩ (.int .i64 0)).setCell ⟨w.heap.size+1+1+1,3,none⟩ (.int .u8 0)).setCell ⟨w.heap.size+1+1+1,4,none⟩ (.slice none 0 0))=W6 at hs hb9 ⊢;have d0':W6.cell? ⟨w.heap.size+1+1+1,0,none⟩=some (.int .u8 0):=hs.cell 0;have d1':W6.cell? ⟨w.heap.size+1+1+1,1,none⟩=some (.int .i64 0):=hs.cell 1;have d2':W6.cell? ⟨w.heap.size+1+1+1,2,none⟩=some (.int .i64 0):=hs.cell 2;have d3':W6.cell? ⟨w.heap.size+1+1+1,3,none⟩=some (.int .u8 0):=hs.cell 3;have d4':W6.cell? ⟨w.heap.size+1+1+1,4,none⟩=some (.slice none 0 0):=hs.cell 4
            exact bodyPost_ret (v:=.tuple #[.agg #[.int .u8 0,.int .i64 0,.int .i64 0,.int .u8 0,.slice none 0 0],.int .i64 3]) (by simp[results,Tryz.results20,go_sem,d0',d1',d2',d3',d4']) rfl (by rw[HR.out.1,HR.out.2]; exact⟨none,0,0,rfl,TysS.nil,hb9⟩)
          · have dg:decide (G>300)=false:=by simpa using hbig
            have HE:Hid (putE t types ms=0):=qq (by rw[HE2.out,if_neg (by omega)]);clear hbig;go_wp2_with fail
            refine Hqg.out.mono ?_; rintro e w7 ⟨rfl,hb7⟩
            replace Hz:=qq (Hz.out.below hb7 Hz.out.lt);replace Hx:=qq (Hx.out.below hb7 Hx.out.lt);replace Hq:=qq (Hq.out.below hb7 Hq.out.lt);replace Hy:=qq (Hy.out.below hb7 Hy.out.lt);replace HL:=qq (HL.out.below (hb7.mono Hb.out.size));replace HT:=qq (HT.out.below (hb7.mono Hb.out.size));replace HM:=qq (HM.out.below (hb7.mono Hb.out.size));replace Hb:=qq (Hb.out.trans (hb7.mono Hb.out.size));clear hb7;clear hz0' hz1' hz2' hz3' hz4' Hqg;have hz0':=Hz.out.cell 0;have hz1':=Hz.out.cell 1;have hz2':=Hz.out.cell 2;have hz3':=Hz.out.cell 3;have hz4':=Hz.out.cell 4
            have hq:=turnG (putV types) (putM ms) 65 67 #[.pointer (some ⟨w.heap.size+1,0,none⟩)] #[.pointer (some ⟨w.heap.size+1+1,0,none⟩)] (fun _ _=>rfl) (fun _ _=>rfl) (nodes t) t (Nat.le_refl _) HMt.out A m cp w7 (HL.out.more Hb.out.size)
             (fun n w' h0 hb=>put3_any (w.heap.size+1) A1 k c1 types n w' ((hb.cell (p:=⟨w.heap.size+1,0,none⟩) Hx.out.lt).trans (Hx.out.cell 0)) (((HT.out.more Hb.out.size).below hb).more hb.size) HMs.out h0)
             (fun n w' h0 hb=>put4_any (w.heap.size+1+1) A2 n2 c2 ms n w' ((hb.cell (p:=⟨w.heap.size+1+1,0,none⟩) Hq.out.lt).trans (Hq.out.cell 0)) (((HM.out.more Hb.out.size).below hb).more hb.size) h0)
            have HU:Hid (putT t types ms=turnT (putV types) (putM ms) t):=qq (by unfold putT; rw[HE.out,if_pos rfl])
            obtain⟨u,hu⟩:∃ u,turnT (putV types) (putM ms) t=u:=⟨_,rfl⟩;rw[hu] at hq HU;have Hqt:=qq hq;clear hq hu;go_wp2_with fail
            refine Hqt.out.mono ?_; rintro e w8 ⟨A8,m8,c8,rfl,h8,hb8⟩
            obtain⟨g2,hg2⟩:∃ g2,w.heap.size+1+1+1=g2:=⟨_,rfl⟩
            have hg2w:w.heap.size≤g2:=by omega
            have hly:w.heap.size+1+1+1<w7.heap.size:=Hy.out.lt
            have HT4:Hid (TysS w8 (fun q=>w.heap.size≤q∧q<w8.heap.size∧q≠g2) A8 m8 c8 u.l):=qq (h8.mono fun q hq=>⟨by omega,hq.2,by omega⟩)
            replace Hz:=qq (Hz.out.below hb8 Hz.out.lt);replace Hx:=qq (Hx.out.below hb8 Hx.out.lt);replace Hq:=qq (Hq.out.below hb8 Hq.out.lt);replace Hy:=qq (Hy.out.below hb8 Hy.out.lt);replace HL:=qq (HL.out.below (hb8.mono Hb.out.size));replace HT:=qq (HT.out.below (hb8.mono Hb.out.size));replace HM:=qq (HM.out.below (hb8.mono Hb.out.size));replace Hb:=qq (Hb.out.trans (hb8.mono Hb.out.size));clear hb8;have hy4:=Hy.out;have Hb4:=qq Hb.out;rw[hg2] at hy4 ⊢;have s0:=hy4.frozen 0;have s1:=hy4.frozen 1;have s2:=hy4.frozen 2;have s3:=hy4.frozen 3;have s4:=hy4.frozen 4;have r0:=hy4.cell 0;have r1:=hy4.cell 1;have r2:=hy4.cell 2;have r3:=hy4.cell 3;have r4:=hy4.cell 4;have Hy4:=qq hy4;clear hy4 h8 hly hz0' hz1' hz2' hz3' hz4' Hqt Hz Hx Hq Hy HL HT HM Hb HMt HMs HE2 hg2;go_wp2_with fail
            have hs:Blk (((((w8.setCell ⟨g2,0,none⟩ (.int .u8 u.k)).setCell ⟨g2,1,none⟩ (.int .i64 u.n)).setCell ⟨g2,2,none⟩ (.int .i64 u.v)).setCell ⟨g2,3,none⟩ (.int .u8 u.c)).setCell ⟨g2,4,none⟩ (.slice A8 m8 c8)) g2 27 #[.int .u8 u.k,.int .i64 u.n,.int .i64 u.v,.int .u8 u.c,.slice A8 m8 c8]:=
             ((((Hy4.out.set_ 0 (.int .u8 u.k)).set_ 1 (.int .i64 u.n)).set_ 2 (.int .i64 u.v)).set_ 3 (.int .u8 u.c)).set_ 4 (.slice A8 m8 c8)
            have hb9:=((((Hb4.out.setCell (p:=⟨g2,0,none⟩) hg2w (.int .u8 u.k)).setCell (p:=⟨g2,1,none⟩) hg2w (.int .i64 u.n)).setCell (p:=⟨g2,2,none⟩) hg2w (.int .i64 u.v)).setCell (p:=⟨g2,3,none⟩) hg2w (.int .u8 u.c)).setCell (p:=⟨g2,4,none⟩) hg2w (.slice A8 m8 c8)
            have hr9:TysS (((((w8.setCell ⟨g2,0,none⟩ (.int .u8 u.k)).setCell ⟨g2,1,none⟩ (.int .i64 u.n)).setCell ⟨g2,2,none⟩ (.int .i64 u.v)).setCell ⟨g2,3,none⟩ (.int .u8 u.c)).setCell ⟨g2,4,none⟩ (.slice A8 m8 c8)) (fun b=>w.heap.size≤b∧b<(((((w8.setCell ⟨g2,0,none⟩ (.int .u8 u.k)).setCell ⟨g2,1,none⟩ (.int .i64 u.n)).setCell ⟨g2,2,none⟩ (.int .i64 u.v)).setCell ⟨g2,3,none⟩ (.int .u8 u.c)).setCell ⟨g2,4,none⟩ (.slice A8 m8 c8)).heap.size) A8 m8 c8 u.l:=by
             refine HT4.out.keep (fun b hb=>⟨hb.1,by simpa using hb.2.1⟩) fun p hp=>?_
             have c1:∀ (W':World) (o:Nat) (x:Value),(W'.setCell ⟨g2,o,none⟩ x).cell? p=W'.cell? p:=fun W' o x=>World.cell?_setCell_other _ _ _ _ (fun e=>hp.2.2 (by rw[← e]));rw[c1,c1,c1,c1,c1]
            generalize (((((w8.setCell ⟨g2,0,none⟩ (.int .u8 u.k)).setCell ⟨g2,1,none⟩ (.int .i64 u.n)).setCell ⟨g2,2,none⟩ (.int .i64 u.v)).setCell ⟨g2,3,none⟩ (.int .u8 u.c)).setCell ⟨g2,4,none⟩ (.slice A8 m8 c8))=W6 at hs hb9 hr9 ⊢;have d0':W6.cell? ⟨g2,0,none⟩=some (.int .u8 u.k):=hs.cell 0;have d1':W6.cell? ⟨g2,1,none⟩=some (.int .i64 u.n):=hs.cell 1;have d2':W6.cell? ⟨g2,2,none⟩=some (.int .i64 u.v):=hs.cell 2;have d3':W6.cell? ⟨g2,3,none⟩=some (.int .u8 u.c):=hs.cell 3;have d4':W6.cell? ⟨g2,4,none⟩=some (.slice A8 m8 c8):=hs.cell 4
            exact bodyPost_ret (v:=.tuple #[.agg #[.int .u8 u.k,.int .i64 u.n,.int .i64 u.v,.int .u8 u.c,.slice A8 m8 c8],.int .i64 0]) (by simp[results,Tryz.results20,go_sem,d0',d1',d2',d3',d4']) rfl (by rw[HU.out,HE.out]; exact⟨A8,m8,c8,rfl,hr9,hb9⟩)
def E2 (r:List UInt8):Prop:=E1 r∨∃ s,r=32 :: 45 :: s
def E3 (r:List UInt8):Prop:=E1 r∨∃ s,r=32 :: s
theorem E2.e3 {r:List UInt8} (h:E2 r):E3 r:=h.imp id fun⟨s,e⟩=>⟨_,e⟩
section
variable {fv fv':Int→Option TyD} {fm fm':Int→Int × Int}
theorem grown_nodes {sz:List Int} {t:TyD} (h0:∀ n∈allV t,0≤n) (h:∀ n∈allV t,(if n<sz.length then sz.getD n.toNat 0 else 1)=(((fv n).map nodes).getD 1:Nat)) (ht:mayT t=true):grownN sz t=nodes (turnT fv fm t):=by
 revert ht h0 h
 induction t using ty_ind with
 | h t ih=>
   intro h0 h ht;have f:=may_facts ht;rw[grownN_eq,turnT_eq]
   by_cases hk:t.k=1
   · have h2:=h t.n (by rw[allV_eq,if_pos hk]; simp)
     rw[if_pos hk];have hl:=may_leaf ht (by omega)
     have n1:nodes t=1:=by rw[nodes_eq,hl]; rfl
     by_cases hn:t.n<sz.length
     · rw[if_pos ⟨hk,hn⟩]
       rw[if_pos hn] at h2;rw[h2]
       cases fv t.n with
       | none=>rw[Option.getD_none,n1]; rfl
       | some u=>rfl
     · rw[if_neg (fun e=>hn e.2)]
       rw[if_neg hn] at h2;rw[hl]
       cases e:fv t.n with
       | none=>rw[Option.getD_none,n1]; rfl
       | some u=>rw[e] at h2; exact h2
   · rw[if_neg (fun e=>hk e.1),if_neg hk,nodes_eq]
     have key:∀ l:List TyD,(∀ x∈l,x∈t.l)→grownN.grownL sz l=nodes.nodesL (l.map (turnT fv fm)):=by
      intro l
      induction l with
      | nil=>intro _; rfl
      | cons x l ihl=>
        intro hl;have hx:=hl x (by simp);rw[grownN.grownL,List.map_cons,nodes.nodesL,ihl (fun y hy=>hl y (List.mem_cons_of_mem _ hy)),ih x hx (fun n hn=>h0 n (allV_kid hx hn)) (fun n hn=>h n (allV_kid hx hn)) (f.2.2.2.2.2.2 x hx)]
        push_cast
        rfl
     rw[key t.l (fun _ h=>h)];show(1:Int)+_=((1+_:Nat):Int)
     push_cast
     rfl
end
end Go.Proofs.YtdmakpmbknindaaGreatDoor
