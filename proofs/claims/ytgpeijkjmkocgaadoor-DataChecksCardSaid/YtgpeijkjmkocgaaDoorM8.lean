import Derived.Test.YtgpeijkjmkocgaaDoorM7
import Derived.Lib.Builder
import Derived.Lib.OthersKept
import Derived.Lib.AppendStr
import Derived.Lib.Strings
import Derived.Shelf.Strings.Builder1
import Derived.Shelf.Strings.BuilderK
set_option linter.unusedVariables false
set_option linter.unusedSimpArgs false
set_option maxHeartbeats 8000000
set_option maxRecDepth 100000
namespace Go.Proofs.YtgpeijkjmkocgaaDoor
open Go.RowKit
def putBad (t:TyD) (types:List TyD) (ms:List (Int × Int)):Bool:=(mayTE t != 0) || types.any (fun x=>mayTE x != 0) || ms.any (fun x=>!isB x.2 x.1)
def putE (t:TyD) (types:List TyD) (ms:List (Int × Int)):Int:=if putBad t types ms then 2 else if 300<grownW (types.map sizeW) t then 3 else 0
def putT (t:TyD) (types:List TyD) (ms:List (Int × Int)):TyD:=if putE t types ms=0 then turnT (putV types) (putM ms) t else .mk 0 0 0 0 []
def RetTyE (u:TyD) (x:Int) (w:World) (e:Ending) (w':World):Prop:=
 ∃ A m cp,e=.returned (.tuple #[.agg #[.int .u8 u.k,.int .i64 u.n,.int .i64 u.v,.int .u8 u.c,.slice A m cp],.int .i64 x])∧TysS w' (fun b=>w.heap.size≤b∧b<w'.heap.size) A m cp u.l∧Below w.heap.size w w'
theorem mayTE_zero {t:TyD} (h:(mayTE t != 0)=false):mayT t=true:=by
 unfold mayTE at h
 split at h
 · simp at h
 · split at h
   · rename_i h2; exact h2
   · simp at h
theorem sizeW_wrap (t:TyD):wrap64 (sizeW t)=sizeW t:=by
 unfold sizeW;have:=wrap_add (nodes t) 0
 have h0:wrap64 0=0:=by decide +kernel
 rw[h0,Int.add_zero,Int.add_zero] at this;exact this
theorem tyPut_any (t:TyD) (A:Option Addr) (m cp:Nat) (A1:Option Addr) (n1 c1:Nat) (types:List TyD) (A2:Option Addr) (n2 c2:Nat) (ms:List (Int × Int)) (w:World) (hl:TysV w w.heap.size A m cp t.l) (hts:TysV w w.heap.size A1 n1 c1 types) (hms:MusV w w.heap.size A2 n2 c2 ms) (hn:n1≤1099511627776):
  Calls Tryd.prog 62 #[.agg #[.int .u8 t.k,.int .i64 t.n,.int .i64 t.v,.int .u8 t.c,.slice A m cp],.slice A1 n1 c1,.slice A2 n2 c2] w (RetTyE (putT t types ms) (putE t types ms) w):=by
 have hw1:=below_box (w:=w) (Obj.cells #[.int .u8 t.k,.int .i64 t.n,.int .i64 t.v,.int .u8 t.c,.slice A m cp] 63);obtain⟨W,hW⟩:∃ W,(((w.alloc (Obj.cells #[.int .u8 t.k,.int .i64 t.n,.int .i64 t.v,.int .u8 t.c,.slice A m cp] 63)).alloc (Obj.cells #[.slice A1 n1 c1] 56)).alloc (Obj.cells #[.slice A2 n2 c2] 132)).alloc (Obj.cells #[.int .u8 0,.int .i64 0,.int .i64 0,.int .u8 0,.slice none 0 0] 63)=W:=⟨_,rfl⟩
 have hb:Below w.heap.size w W:=by rw[← hW]; exact(((Below.refl _ _).alloc (Nat.le_refl _) _).alloc (by simp) _ |>.alloc (by simp; omega) _).alloc (by simp; omega) _
 have hz:Blk W w.heap.size 63 #[.int .u8 t.k,.int .i64 t.n,.int .i64 t.v,.int .u8 t.c,.slice A m cp]:=by
  rw[← hW]; exact(((blk_new w _ _).alloc _).alloc _).alloc _
 have hx:Blk W (w.heap.size+1) 56 #[.slice A1 n1 c1]:=by
  rw[← hW]; have:=((blk_new (w.alloc (Obj.cells #[.int .u8 t.k,.int .i64 t.n,.int .i64 t.v,.int .u8 t.c,.slice A m cp] 63)) #[.slice A1 n1 c1] 56).alloc (Obj.cells #[.slice A2 n2 c2] 132)).alloc (Obj.cells #[.int .u8 0,.int .i64 0,.int .i64 0,.int .u8 0,.slice none 0 0] 63)
  rwa [World.size_alloc] at this
 have hq:Blk W (w.heap.size+1+1) 132 #[.slice A2 n2 c2]:=by
  rw[← hW]; have:=(blk_new ((w.alloc (Obj.cells #[.int .u8 t.k,.int .i64 t.n,.int .i64 t.v,.int .u8 t.c,.slice A m cp] 63)).alloc (Obj.cells #[.slice A1 n1 c1] 56)) #[.slice A2 n2 c2] 132).alloc (Obj.cells #[.int .u8 0,.int .i64 0,.int .i64 0,.int .u8 0,.slice none 0 0] 63)
  rwa [World.size_alloc,World.size_alloc] at this
 have hy:Blk W (w.heap.size+1+1+1) 63 #[.int .u8 0,.int .i64 0,.int .i64 0,.int .u8 0,.slice none 0 0]:=by
  rw[← hW]; have:=blk_new (((w.alloc (Obj.cells #[.int .u8 t.k,.int .i64 t.n,.int .i64 t.v,.int .u8 t.c,.slice A m cp] 63)).alloc (Obj.cells #[.slice A1 n1 c1] 56)).alloc (Obj.cells #[.slice A2 n2 c2] 132)) #[.int .u8 0,.int .i64 0,.int .i64 0,.int .u8 0,.slice none 0 0] 63
  rwa [World.size_alloc,World.size_alloc,World.size_alloc] at this
 have HW:=qq hW;have Hb:=qq hb;have Hz:=qq hz;have Hx:=qq hx;have Hq:=qq hq;have Hy:=qq hy;have HL:=qq (hl.below hb);have HT:=qq (hts.below hb);have HM:=qq (hms.below hb)
 have hbad:putBad t types ms=((mayTE t != 0) || types.any (fun x=>mayTE x != 0) || ms.any (fun x=>!isB x.2 x.1)):=rfl
 obtain⟨R0,hR0⟩:∃ R,(mayTE t != 0)=R:=⟨_,rfl⟩;obtain⟨R1,hR1⟩:∃ R,types.any (fun x=>mayTE x != 0)=R:=⟨_,rfl⟩;obtain⟨R2,hR2⟩:∃ R,ms.any (fun x=>!isB x.2 x.1)=R:=⟨_,rfl⟩;rw[hR0,hR1,hR2] at hbad;have Hbad:=qq hbad;have H0:=qq hR0;have H1:=qq hR1;have H2:=qq hR2;have hc0:=put1_any t A m cp W ((hl.below hb).more hb.size);rw[hR0] at hc0;have Hc0:=qq hc0;clear hw1 hb hz hx hq hy hl hts hms hbad hR0 hR1 hR2 hc0 hW
 go_enter Tryd.func62,Tryd.ntmps62
 go_wp2_with fail;rw[HW.out]
 refine Hc0.out.mono ?_; rintro e w1 ⟨rfl,hb1⟩
 replace Hz:=qq (Hz.out.below hb1 Hz.out.lt);replace Hx:=qq (Hx.out.below hb1 Hx.out.lt);replace Hq:=qq (Hq.out.below hb1 Hq.out.lt);replace Hy:=qq (Hy.out.below hb1 Hy.out.lt);replace HL:=qq (HL.out.below (hb1.mono Hb.out.size));replace HT:=qq (HT.out.below (hb1.mono Hb.out.size));replace HM:=qq (HM.out.below (hb1.mono Hb.out.size));replace Hb:=qq (Hb.out.trans (hb1.mono Hb.out.size));clear hb1 Hc0
 cases R0 with
 | true=>
   have HE:Hid (putE t types ms=2):=qq (by unfold putE; rw[Hbad.out]; rfl)
   have HR:Hid (putT t types ms=.mk 0 0 0 0 []∧putE t types ms=2):=qq (by
    have h:=HE.out
    exact⟨by unfold putT; rw[h,if_neg (by decide)],h⟩)
   have hy9:=Hy.out;have s0:=hy9.frozen 0;have s1:=hy9.frozen 1;have s2:=hy9.frozen 2;have s3:=hy9.frozen 3;have s4:=hy9.frozen 4;have r0:=hy9.cell 0;have r1:=hy9.cell 1;have r2:=hy9.cell 2;have r3:=hy9.cell 3;have r4:=hy9.cell 4;go_wp2_with fail
   have hs:Blk (((((w1.setCell ⟨w.heap.size+1+1+1,0,none⟩ (.int .u8 0)).setCell ⟨w.heap.size+1+1+1,1,none⟩ (.int .i64 0)).setCell ⟨w.heap.size+1+1+1,2,none⟩ (.int .i64 0)).setCell ⟨w.heap.size+1+1+1,3,none⟩ (.int .u8 0)).setCell ⟨w.heap.size+1+1+1,4,none⟩ (.slice none 0 0)) (w.heap.size+1+1+1) 63 #[.int .u8 0,.int .i64 0,.int .i64 0,.int .u8 0,.slice none 0 0]:=
    ((((hy9.set_ 0 (.int .u8 0)).set_ 1 (.int .i64 0)).set_ 2 (.int .i64 0)).set_ 3 (.int .u8 0)).set_ 4 (.slice none 0 0)
   have hle:w.heap.size≤w.heap.size+1+1+1:=by omega
   have hb9:=((((Hb.out.setCell (p:=⟨w.heap.size+1+1+1,0,none⟩) hle (.int .u8 0)).setCell (p:=⟨w.heap.size+1+1+1,1,none⟩) hle (.int .i64 0)).setCell (p:=⟨w.heap.size+1+1+1,2,none⟩) hle (.int .i64 0)).setCell (p:=⟨w.heap.size+1+1+1,3,none⟩) hle (.int .u8 0)).setCell (p:=⟨w.heap.size+1+1+1,4,none⟩) hle (.slice none 0 0);generalize (((((w1.setCell ⟨w.heap.size+1+1+1,0,none⟩ (.int .u8 0)).setCell ⟨w.heap.size+1+1+1,1,none⟩ (.int .i64 0)).setCell ⟨w.heap.size+1+1+1,2,none⟩ (.int .i64 0)).setCell ⟨w.heap.size+1+1+1,3,none⟩ (.int .u8 0)).setCell ⟨w.heap.size+1+1+1,4,none⟩ (.slice none 0 0))=W6 at hs hb9 ⊢;have d0':W6.cell? ⟨w.heap.size+1+1+1,0,none⟩=some (.int .u8 0):=hs.cell 0;have d1':W6.cell? ⟨w.heap.size+1+1+1,1,none⟩=some (.int .i64 0):=hs.cell 1;have d2':W6.cell? ⟨w.heap.size+1+1+1,2,none⟩=some (.int .i64 0):=hs.cell 2;have d3':W6.cell? ⟨w.heap.size+1+1+1,3,none⟩=some (.int .u8 0):=hs.cell 3;have d4':W6.cell? ⟨w.heap.size+1+1+1,4,none⟩=some (.slice none 0 0):=hs.cell 4
   exact bodyPost_ret (v:=.tuple #[.agg #[.int .u8 0,.int .i64 0,.int .i64 0,.int .u8 0,.slice none 0 0],.int .i64 2]) (by simp[results,Tryd.results62,go_sem,d0',d1',d2',d3',d4']) rfl (by rw[HR.out.1,HR.out.2]; exact⟨none,0,0,rfl,TysS.nil,hb9⟩)
 | false=>
   have x0:=Hx.out.cell 0;have hc:=containsG (fun x=>mayTE x != 0) 85 #[] (fun _ _=>rfl) A1 n1 c1 types w1 (HT.out.more Hb.out.size) (fun i h A' m' c' w' _ hx=>put1_any types[i] A' m' c' w' hx) R1 H1.out;have Hc:=qq hc;clear hc;go_wp2_with fail
   refine Hc.out.mono ?_; rintro e w2 ⟨rfl,hb2⟩
   replace Hz:=qq (Hz.out.below hb2 Hz.out.lt);replace Hx:=qq (Hx.out.below hb2 Hx.out.lt);replace Hq:=qq (Hq.out.below hb2 Hq.out.lt);replace Hy:=qq (Hy.out.below hb2 Hy.out.lt);replace HL:=qq (HL.out.below (hb2.mono Hb.out.size));replace HT:=qq (HT.out.below (hb2.mono Hb.out.size));replace HM:=qq (HM.out.below (hb2.mono Hb.out.size));replace Hb:=qq (Hb.out.trans (hb2.mono Hb.out.size));clear hb2;clear x0 Hc
   cases R1 with
   | true=>
     have HE:Hid (putE t types ms=2):=qq (by unfold putE; rw[Hbad.out]; rfl)
     have HR:Hid (putT t types ms=.mk 0 0 0 0 []∧putE t types ms=2):=qq (by
      have h:=HE.out
      exact⟨by unfold putT; rw[h,if_neg (by decide)],h⟩)
     have hy9:=Hy.out;have s0:=hy9.frozen 0;have s1:=hy9.frozen 1;have s2:=hy9.frozen 2;have s3:=hy9.frozen 3;have s4:=hy9.frozen 4;have r0:=hy9.cell 0;have r1:=hy9.cell 1;have r2:=hy9.cell 2;have r3:=hy9.cell 3;have r4:=hy9.cell 4;go_wp2_with fail
     have hs:Blk (((((w2.setCell ⟨w.heap.size+1+1+1,0,none⟩ (.int .u8 0)).setCell ⟨w.heap.size+1+1+1,1,none⟩ (.int .i64 0)).setCell ⟨w.heap.size+1+1+1,2,none⟩ (.int .i64 0)).setCell ⟨w.heap.size+1+1+1,3,none⟩ (.int .u8 0)).setCell ⟨w.heap.size+1+1+1,4,none⟩ (.slice none 0 0)) (w.heap.size+1+1+1) 63 #[.int .u8 0,.int .i64 0,.int .i64 0,.int .u8 0,.slice none 0 0]:=
      ((((hy9.set_ 0 (.int .u8 0)).set_ 1 (.int .i64 0)).set_ 2 (.int .i64 0)).set_ 3 (.int .u8 0)).set_ 4 (.slice none 0 0)
     have hle:w.heap.size≤w.heap.size+1+1+1:=by omega
     have hb9:=((((Hb.out.setCell (p:=⟨w.heap.size+1+1+1,0,none⟩) hle (.int .u8 0)).setCell (p:=⟨w.heap.size+1+1+1,1,none⟩) hle (.int .i64 0)).setCell (p:=⟨w.heap.size+1+1+1,2,none⟩) hle (.int .i64 0)).setCell (p:=⟨w.heap.size+1+1+1,3,none⟩) hle (.int .u8 0)).setCell (p:=⟨w.heap.size+1+1+1,4,none⟩) hle (.slice none 0 0);generalize (((((w2.setCell ⟨w.heap.size+1+1+1,0,none⟩ (.int .u8 0)).setCell ⟨w.heap.size+1+1+1,1,none⟩ (.int .i64 0)).setCell ⟨w.heap.size+1+1+1,2,none⟩ (.int .i64 0)).setCell ⟨w.heap.size+1+1+1,3,none⟩ (.int .u8 0)).setCell ⟨w.heap.size+1+1+1,4,none⟩ (.slice none 0 0))=W6 at hs hb9 ⊢;have d0':W6.cell? ⟨w.heap.size+1+1+1,0,none⟩=some (.int .u8 0):=hs.cell 0;have d1':W6.cell? ⟨w.heap.size+1+1+1,1,none⟩=some (.int .i64 0):=hs.cell 1;have d2':W6.cell? ⟨w.heap.size+1+1+1,2,none⟩=some (.int .i64 0):=hs.cell 2;have d3':W6.cell? ⟨w.heap.size+1+1+1,3,none⟩=some (.int .u8 0):=hs.cell 3;have d4':W6.cell? ⟨w.heap.size+1+1+1,4,none⟩=some (.slice none 0 0):=hs.cell 4
     exact bodyPost_ret (v:=.tuple #[.agg #[.int .u8 0,.int .i64 0,.int .i64 0,.int .u8 0,.slice none 0 0],.int .i64 2]) (by simp[results,Tryd.results62,go_sem,d0',d1',d2',d3',d4']) rfl (by rw[HR.out.1,HR.out.2]; exact⟨none,0,0,rfl,TysS.nil,hb9⟩)
   | false=>
     have q0:=Hq.out.cell 0;have hc:=containsMu A2 n2 c2 ms w2 (HM.out.more Hb.out.size) R2 H2.out;have Hc:=qq hc;clear hc;go_wp2_with fail
     refine Hc.out.mono ?_; rintro e w3 ⟨rfl,hb3⟩
     replace Hz:=qq (Hz.out.below hb3 Hz.out.lt);replace Hx:=qq (Hx.out.below hb3 Hx.out.lt);replace Hq:=qq (Hq.out.below hb3 Hq.out.lt);replace Hy:=qq (Hy.out.below hb3 Hy.out.lt);replace HL:=qq (HL.out.below (hb3.mono Hb.out.size));replace HT:=qq (HT.out.below (hb3.mono Hb.out.size));replace HM:=qq (HM.out.below (hb3.mono Hb.out.size));replace Hb:=qq (Hb.out.trans (hb3.mono Hb.out.size));clear hb3;clear q0 Hc
     cases R2 with
     | true=>
       have HE:Hid (putE t types ms=2):=qq (by unfold putE; rw[Hbad.out]; rfl)
       have HR:Hid (putT t types ms=.mk 0 0 0 0 []∧putE t types ms=2):=qq (by
        have h:=HE.out
        exact⟨by unfold putT; rw[h,if_neg (by decide)],h⟩)
       have hy9:=Hy.out;have s0:=hy9.frozen 0;have s1:=hy9.frozen 1;have s2:=hy9.frozen 2;have s3:=hy9.frozen 3;have s4:=hy9.frozen 4;have r0:=hy9.cell 0;have r1:=hy9.cell 1;have r2:=hy9.cell 2;have r3:=hy9.cell 3;have r4:=hy9.cell 4;go_wp2_with fail
       have hs:Blk (((((w3.setCell ⟨w.heap.size+1+1+1,0,none⟩ (.int .u8 0)).setCell ⟨w.heap.size+1+1+1,1,none⟩ (.int .i64 0)).setCell ⟨w.heap.size+1+1+1,2,none⟩ (.int .i64 0)).setCell ⟨w.heap.size+1+1+1,3,none⟩ (.int .u8 0)).setCell ⟨w.heap.size+1+1+1,4,none⟩ (.slice none 0 0)) (w.heap.size+1+1+1) 63 #[.int .u8 0,.int .i64 0,.int .i64 0,.int .u8 0,.slice none 0 0]:=
        ((((hy9.set_ 0 (.int .u8 0)).set_ 1 (.int .i64 0)).set_ 2 (.int .i64 0)).set_ 3 (.int .u8 0)).set_ 4 (.slice none 0 0)
       have hle:w.heap.size≤w.heap.size+1+1+1:=by omega
       have hb9:=((((Hb.out.setCell (p:=⟨w.heap.size+1+1+1,0,none⟩) hle (.int .u8 0)).setCell (p:=⟨w.heap.size+1+1+1,1,none⟩) hle (.int .i64 0)).setCell (p:=⟨w.heap.size+1+1+1,2,none⟩) hle (.int .i64 0)).setCell (p:=⟨w.heap.size+1+1+1,3,none⟩) hle (.int .u8 0)).setCell (p:=⟨w.heap.size+1+1+1,4,none⟩) hle (.slice none 0 0);generalize (((((w3.setCell ⟨w.heap.size+1+1+1,0,none⟩ (.int .u8 0)).setCell ⟨w.heap.size+1+1+1,1,none⟩ (.int .i64 0)).setCell ⟨w.heap.size+1+1+1,2,none⟩ (.int .i64 0)).setCell ⟨w.heap.size+1+1+1,3,none⟩ (.int .u8 0)).setCell ⟨w.heap.size+1+1+1,4,none⟩ (.slice none 0 0))=W6 at hs hb9 ⊢;have d0':W6.cell? ⟨w.heap.size+1+1+1,0,none⟩=some (.int .u8 0):=hs.cell 0;have d1':W6.cell? ⟨w.heap.size+1+1+1,1,none⟩=some (.int .i64 0):=hs.cell 1;have d2':W6.cell? ⟨w.heap.size+1+1+1,2,none⟩=some (.int .i64 0):=hs.cell 2;have d3':W6.cell? ⟨w.heap.size+1+1+1,3,none⟩=some (.int .u8 0):=hs.cell 3;have d4':W6.cell? ⟨w.heap.size+1+1+1,4,none⟩=some (.slice none 0 0):=hs.cell 4
       exact bodyPost_ret (v:=.tuple #[.agg #[.int .u8 0,.int .i64 0,.int .i64 0,.int .u8 0,.slice none 0 0],.int .i64 2]) (by simp[results,Tryd.results62,go_sem,d0',d1',d2',d3',d4']) rfl (by rw[HR.out.1,HR.out.2]; exact⟨none,0,0,rfl,TysS.nil,hb9⟩)
     | false=>
       have hE2:putE t types ms=if 300<grownW (types.map sizeW) t then 3 else 0:=by unfold putE; rw[Hbad.out]; rfl
       have HE2:=qq hE2;have HMt:=qq (mayTE_zero H0.out)
       have HMs:Hid (∀ x∈types,mayT x=true):=qq fun x hx=>mayTE_zero (by
        have:=List.any_eq_false.1 H1.out x hx
        simpa using this)
       have hlt:=HT.out.len
       have n63:n1≤9223372036854775807:=by omega
       obtain⟨i0,hi0,hz0,hz1,hz2⟩:=info_parts (show(Tryd.prog.info? 3).map (fun i=>(i.zero,i.size,i.bytes))=some (some (.int .i64 0),1,8) from by kernel_rfl)
       have x0:=Hx.out.cell 0;clear hE2 Hbad H0 H1 H2;go_wp2_with fail;clear x0
       go_loopg [9,27] n1 (fun gh s i wr=>∃ (k:Nat) (A5:Option Addr) (c5:Nat),k≤n1∧gh=n1 - k∧i=.int .i64 k∧s=.slice A5 k c5∧wr.ownsRow w3.heap.size 3 1 (.slice A5 k c5) k (((types.take k).map sizeW).map (Value.int .i64))∧Below w3.heap.size w3 wr)
       case atStart=>exact⟨0,none,0,Nat.zero_le _,rfl,rfl,rfl,World.ownsRow_nil _ _ _ _,Below.refl _ _⟩
       case round=>
        obtain⟨k,A5,c5,hk,rfl,rfl,rfl,ho,hbel⟩:=hrel
        by_cases hkn:k<n1
        · have d0:decide (k<n1)=true:=by simpa using hkn
          have hk':k<types.length:=by omega
          obtain⟨b,off,rfl,hb,hc⟩:=((HT.out.more Hb.out.size).below hbel).at_ (by omega);obtain⟨e0,e1,e2,e3,Ax,mx,cx,e4,hx⟩:=tyAt_iff.1 (hc k hk')
          have hst:((types.take (k+1)).map sizeW).map (Value.int .i64)=((types.take k).map sizeW).map (Value.int .i64)++[.int .i64 (sizeW types[k])]:=by
           rw[List.take_succ_eq_append_getElem hk',List.map_append,List.map_append]; rfl
          obtain⟨x,hxk⟩:∃ x,types[k]=x:=⟨_,rfl⟩;rw[hxk] at e0 e1 e2 e3 hx hst;have hbB:=below_box (w:=wr) (Obj.cells #[.int .u8 x.k,.int .i64 x.n,.int .i64 x.v,.int .u8 x.c,.slice Ax mx cx] 63);have hq:=size_any x (.agg #[.int .u8 x.k,.int .i64 x.n,.int .i64 x.v,.int .u8 x.c,.slice Ax mx cx]) _ ⟨Ax,mx,cx,rfl,((hx.more hbel.size).below hbB).more hbB.size⟩;obtain⟨s,hs⟩:∃ s,sizeW x=s:=⟨_,rfl⟩;rw[hs] at hq hst;have Hqs:=qq hq;have Hst:=qq hst;have Ho:=qq (ownsRow_beyond ho hbB);have HbA:=qq (hbel.trans (hbB.mono hbel.size))
          have k1:(0:Int)≤(k:Int):=by omega
          have k2:(k:Int)<n1:=by omega
          clear hc hx hst hxk hbB hq hs ho hbel;go_wp2_with fail
          refine Hqs.out.mono ?_; rintro e w5 ⟨rfl,hb5⟩
          have Ho5:=qq (ownsRow_beyond Ho.out hb5);have Hb5:=qq (HbA.out.trans (hb5.mono HbA.out.size));clear hb5 Hqs e0 e1 e2 e3 e4
          go_wp2_with (at_builtin; go_must (refine wpList_append_one w3 w5 rfl (.tmp 31) (.tmp 34) 50 rfl w3.heap.size 3 i0 _ 1 8 Tryd.underlying50 hi0 hz0 hz1 hz2 rfl (by omega) (.slice A5 k c5) k _ rfl [.int .i64 s] rfl (by intro u hu; simp at hu; subst hu; rfl) rfl Ho5.out (by unfold maxLen; omega) (by omega) Hb5.out Hb5.out.size ?_); intro A9 c9 w9 ho9 hbel9 hg9 hz9)
          go_roundg (n1 - (k+1))
          case measure=>omega
          case rel=>exact⟨k+1,A9,c9,by omega,rfl,by go_num,rfl,by rw[Hst.out]; exact ho9,hbel9⟩
        · have d0:decide (k<n1)=false:=by simpa using hkn
          have hkn':k=n1:=by omega
          subst hkn';rw[List.take_of_length_le (by omega)] at ho;have hrd:=RdI.of_own ho;have hb7:=hbel;replace Hz:=qq (Hz.out.below hb7 Hz.out.lt);replace Hx:=qq (Hx.out.below hb7 Hx.out.lt);replace Hq:=qq (Hq.out.below hb7 Hq.out.lt);replace Hy:=qq (Hy.out.below hb7 Hy.out.lt);replace HL:=qq (HL.out.below (hb7.mono Hb.out.size));replace HT:=qq (HT.out.below (hb7.mono Hb.out.size));replace HM:=qq (HM.out.below (hb7.mono Hb.out.size));replace Hb:=qq (Hb.out.trans (hb7.mono Hb.out.size));clear hb7;have hz0':=Hz.out.cell 0;have hz1':=Hz.out.cell 1;have hz2':=Hz.out.cell 2;have hz3':=Hz.out.cell 3;have hz4':=Hz.out.cell 4
          have hq:=grown_go (types.map sizeW) (fun s hs=>by obtain⟨x,_,rfl⟩:=List.mem_map.1 hs; exact sizeW_wrap x) A5 k c5 (nodes t) t (Nat.le_refl _) HMt.out A m cp wr (HL.out.more Hb.out.size) hrd
          obtain⟨G,hG⟩:∃ G,grownW (types.map sizeW) t=G:=⟨_,rfl⟩;rw[hG] at hq HE2;have Hqg:=qq hq;clear hq hG ho hrd hbel
          by_cases hbig:G>300
          · have dg:decide (G>300)=true:=by simpa using hbig
            have HE:Hid (putE t types ms=3):=qq (by rw[HE2.out,if_pos (by omega)]);clear hbig;go_wp2_with fail
            refine Hqg.out.mono ?_; rintro e w7 ⟨rfl,hb7⟩
            replace Hz:=qq (Hz.out.below hb7 Hz.out.lt);replace Hx:=qq (Hx.out.below hb7 Hx.out.lt);replace Hq:=qq (Hq.out.below hb7 Hq.out.lt);replace Hy:=qq (Hy.out.below hb7 Hy.out.lt);replace HL:=qq (HL.out.below (hb7.mono Hb.out.size));replace HT:=qq (HT.out.below (hb7.mono Hb.out.size));replace HM:=qq (HM.out.below (hb7.mono Hb.out.size));replace Hb:=qq (Hb.out.trans (hb7.mono Hb.out.size));clear hb7;clear hz0' hz1' hz2' hz3' hz4' Hqg
            have HR:Hid (putT t types ms=.mk 0 0 0 0 []∧putE t types ms=3):=qq (by
             have h:=HE.out
             exact⟨by unfold putT; rw[h,if_neg (by decide)],h⟩)
            have hy9:=Hy.out;have s0:=hy9.frozen 0;have s1:=hy9.frozen 1;have s2:=hy9.frozen 2;have s3:=hy9.frozen 3;have s4:=hy9.frozen 4;have r0:=hy9.cell 0;have r1:=hy9.cell 1;have r2:=hy9.cell 2;have r3:=hy9.cell 3;have r4:=hy9.cell 4;go_wp2_with fail
            have hs:Blk (((((w7.setCell ⟨w.heap.size+1+1+1,0,none⟩ (.int .u8 0)).setCell ⟨w.heap.size+1+1+1,1,none⟩ (.int .i64 0)).setCell ⟨w.heap.size+1+1+1,2,none⟩ (.int .i64 0)).setCell ⟨w.heap.size+1+1+1,3,none⟩ (.int .u8 0)).setCell ⟨w.heap.size+1+1+1,4,none⟩ (.slice none 0 0)) (w.heap.size+1+1+1) 63 #[.int .u8 0,.int .i64 0,.int .i64 0,.int .u8 0,.slice none 0 0]:=
             ((((hy9.set_ 0 (.int .u8 0)).set_ 1 (.int .i64 0)).set_ 2 (.int .i64 0)).set_ 3 (.int .u8 0)).set_ 4 (.slice none 0 0)
            have hle:w.heap.size≤w.heap.size+1+1+1:=by omega
            have hb9:=((((Hb.out.setCell (p:=⟨w.heap.size+1+1+1,0,none⟩) hle (.int .u8 0)).setCell (p:=⟨w.heap.size+1+1+1,1,none⟩) hle (.int .i64 0)).setCell (p:=⟨w.heap.size+1+1+1,2,none⟩) hle (.int .i64 0)).setCell (p:=⟨w.heap.size+1+1+1,3,none⟩) hle (.int .u8 0)).setCell (p:=⟨w.heap.size+1+1+1,4,none⟩) hle (.slice none 0 0);generalize (((((w7.setCell ⟨w.heap.size+1+1+1,0,none⟩ (.int .u8 0)).setCell ⟨w.heap.size+1+1+1,1,none⟩ (.int .i64 0)).setCell ⟨w.heap.size+1+1+1,2,none⟩ (.int .i64 0)).setCell ⟨w.heap.size+1+1+1,3,none⟩ (.int .u8 0)).setCell ⟨w.heap.size+1+1+1,4,none⟩ (.slice none 0 0))=W6 at hs hb9 ⊢;have d0':W6.cell? ⟨w.heap.size+1+1+1,0,none⟩=some (.int .u8 0):=hs.cell 0;have d1':W6.cell? ⟨w.heap.size+1+1+1,1,none⟩=some (.int .i64 0):=hs.cell 1;have d2':W6.cell? ⟨w.heap.size+1+1+1,2,none⟩=some (.int .i64 0):=hs.cell 2;have d3':W6.cell? ⟨w.heap.size+1+1+1,3,none⟩=some (.int .u8 0):=hs.cell 3;have d4':W6.cell? ⟨w.heap.size+1+1+1,4,none⟩=some (.slice none 0 0):=hs.cell 4
            exact bodyPost_ret (v:=.tuple #[.agg #[.int .u8 0,.int .i64 0,.int .i64 0,.int .u8 0,.slice none 0 0],.int .i64 3]) (by simp[results,Tryd.results62,go_sem,d0',d1',d2',d3',d4']) rfl (by rw[HR.out.1,HR.out.2]; exact⟨none,0,0,rfl,TysS.nil,hb9⟩)
          · have dg:decide (G>300)=false:=by simpa using hbig
            have HE:Hid (putE t types ms=0):=qq (by rw[HE2.out,if_neg (by omega)]);clear hbig;go_wp2_with fail
            refine Hqg.out.mono ?_; rintro e w7 ⟨rfl,hb7⟩
            replace Hz:=qq (Hz.out.below hb7 Hz.out.lt);replace Hx:=qq (Hx.out.below hb7 Hx.out.lt);replace Hq:=qq (Hq.out.below hb7 Hq.out.lt);replace Hy:=qq (Hy.out.below hb7 Hy.out.lt);replace HL:=qq (HL.out.below (hb7.mono Hb.out.size));replace HT:=qq (HT.out.below (hb7.mono Hb.out.size));replace HM:=qq (HM.out.below (hb7.mono Hb.out.size));replace Hb:=qq (Hb.out.trans (hb7.mono Hb.out.size));clear hb7;clear hz0' hz1' hz2' hz3' hz4' Hqg;have hz0':=Hz.out.cell 0;have hz1':=Hz.out.cell 1;have hz2':=Hz.out.cell 2;have hz3':=Hz.out.cell 3;have hz4':=Hz.out.cell 4
            have hq:=turnG (putV types) (putM ms) 91 93 #[.pointer (some ⟨w.heap.size+1,0,none⟩)] #[.pointer (some ⟨w.heap.size+1+1,0,none⟩)] (fun _ _=>rfl) (fun _ _=>rfl) (nodes t) t (Nat.le_refl _) HMt.out A m cp w7 (HL.out.more Hb.out.size)
             (fun n w' h0 hb=>put3_any (w.heap.size+1) A1 k c1 types n w' ((hb.cell (p:=⟨w.heap.size+1,0,none⟩) Hx.out.lt).trans (Hx.out.cell 0)) (((HT.out.more Hb.out.size).below hb).more hb.size) HMs.out h0)
             (fun n w' h0 hb=>put4_any (w.heap.size+1+1) A2 n2 c2 ms n w' ((hb.cell (p:=⟨w.heap.size+1+1,0,none⟩) Hq.out.lt).trans (Hq.out.cell 0)) (((HM.out.more Hb.out.size).below hb).more hb.size) h0)
            have HU:Hid (putT t types ms=turnT (putV types) (putM ms) t):=qq (by unfold putT; rw[HE.out,if_pos rfl])
            obtain⟨u,hu⟩:∃ u,turnT (putV types) (putM ms) t=u:=⟨_,rfl⟩;rw[hu] at hq HU;have Hqt:=qq hq;clear hq hu;go_wp2_with fail
            refine Hqt.out.mono ?_; rintro e w8 ⟨A8,m8,c8,rfl,h8,hb8⟩
            obtain⟨g2,hg2⟩:∃ g2,w.heap.size+1+1+1=g2:=⟨_,rfl⟩
            have hg2w:w.heap.size≤g2:=by omega
            have hly:w.heap.size+1+1+1<w7.heap.size:=Hy.out.lt
            have HT4:Hid (TysS w8 (fun q=>w.heap.size≤q∧q<w8.heap.size∧q≠g2) A8 m8 c8 u.l):=qq (h8.mono fun q hq=>⟨by omega,hq.2,by omega⟩)
            replace Hz:=qq (Hz.out.below hb8 Hz.out.lt);replace Hx:=qq (Hx.out.below hb8 Hx.out.lt);replace Hq:=qq (Hq.out.below hb8 Hq.out.lt);replace Hy:=qq (Hy.out.below hb8 Hy.out.lt);replace HL:=qq (HL.out.below (hb8.mono Hb.out.size));replace HT:=qq (HT.out.below (hb8.mono Hb.out.size));replace HM:=qq (HM.out.below (hb8.mono Hb.out.size));replace Hb:=qq (Hb.out.trans (hb8.mono Hb.out.size));clear hb8;have hy4:=Hy.out;have Hb4:=qq Hb.out;rw[hg2] at hy4 ⊢;have s0:=hy4.frozen 0;have s1:=hy4.frozen 1;have s2:=hy4.frozen 2;have s3:=hy4.frozen 3;have s4:=hy4.frozen 4;have r0:=hy4.cell 0;have r1:=hy4.cell 1;have r2:=hy4.cell 2;have r3:=hy4.cell 3;have r4:=hy4.cell 4;have Hy4:=qq hy4;clear hy4 h8 hly hz0' hz1' hz2' hz3' hz4' Hqt Hz Hx Hq Hy HL HT HM Hb HMt HMs HE2 hg2;go_wp2_with fail
            have hs:Blk (((((w8.setCell ⟨g2,0,none⟩ (.int .u8 u.k)).setCell ⟨g2,1,none⟩ (.int .i64 u.n)).setCell ⟨g2,2,none⟩ (.int .i64 u.v)).setCell ⟨g2,3,none⟩ (.int .u8 u.c)).setCell ⟨g2,4,none⟩ (.slice A8 m8 c8)) g2 63 #[.int .u8 u.k,.int .i64 u.n,.int .i64 u.v,.int .u8 u.c,.slice A8 m8 c8]:=
             ((((Hy4.out.set_ 0 (.int .u8 u.k)).set_ 1 (.int .i64 u.n)).set_ 2 (.int .i64 u.v)).set_ 3 (.int .u8 u.c)).set_ 4 (.slice A8 m8 c8)
            have hb9:=((((Hb4.out.setCell (p:=⟨g2,0,none⟩) hg2w (.int .u8 u.k)).setCell (p:=⟨g2,1,none⟩) hg2w (.int .i64 u.n)).setCell (p:=⟨g2,2,none⟩) hg2w (.int .i64 u.v)).setCell (p:=⟨g2,3,none⟩) hg2w (.int .u8 u.c)).setCell (p:=⟨g2,4,none⟩) hg2w (.slice A8 m8 c8)
            have hr9:TysS (((((w8.setCell ⟨g2,0,none⟩ (.int .u8 u.k)).setCell ⟨g2,1,none⟩ (.int .i64 u.n)).setCell ⟨g2,2,none⟩ (.int .i64 u.v)).setCell ⟨g2,3,none⟩ (.int .u8 u.c)).setCell ⟨g2,4,none⟩ (.slice A8 m8 c8)) (fun b=>w.heap.size≤b∧b<(((((w8.setCell ⟨g2,0,none⟩ (.int .u8 u.k)).setCell ⟨g2,1,none⟩ (.int .i64 u.n)).setCell ⟨g2,2,none⟩ (.int .i64 u.v)).setCell ⟨g2,3,none⟩ (.int .u8 u.c)).setCell ⟨g2,4,none⟩ (.slice A8 m8 c8)).heap.size) A8 m8 c8 u.l:=by
             refine HT4.out.keep (fun b hb=>⟨hb.1,by simpa using hb.2.1⟩) fun p hp=>?_
             have c1:∀ (W':World) (o:Nat) (x:Value),(W'.setCell ⟨g2,o,none⟩ x).cell? p=W'.cell? p:=fun W' o x=>World.cell?_setCell_other _ _ _ _ (fun e=>hp.2.2 (by rw[← e]));rw[c1,c1,c1,c1,c1]
            generalize (((((w8.setCell ⟨g2,0,none⟩ (.int .u8 u.k)).setCell ⟨g2,1,none⟩ (.int .i64 u.n)).setCell ⟨g2,2,none⟩ (.int .i64 u.v)).setCell ⟨g2,3,none⟩ (.int .u8 u.c)).setCell ⟨g2,4,none⟩ (.slice A8 m8 c8))=W6 at hs hb9 hr9 ⊢;have d0':W6.cell? ⟨g2,0,none⟩=some (.int .u8 u.k):=hs.cell 0;have d1':W6.cell? ⟨g2,1,none⟩=some (.int .i64 u.n):=hs.cell 1;have d2':W6.cell? ⟨g2,2,none⟩=some (.int .i64 u.v):=hs.cell 2;have d3':W6.cell? ⟨g2,3,none⟩=some (.int .u8 u.c):=hs.cell 3;have d4':W6.cell? ⟨g2,4,none⟩=some (.slice A8 m8 c8):=hs.cell 4
            exact bodyPost_ret (v:=.tuple #[.agg #[.int .u8 u.k,.int .i64 u.n,.int .i64 u.v,.int .u8 u.c,.slice A8 m8 c8],.int .i64 0]) (by simp[results,Tryd.results62,go_sem,d0',d1',d2',d3',d4']) rfl (by rw[HU.out,HE.out]; exact⟨A8,m8,c8,rfl,hr9,hb9⟩)
def WrAt (B b:Nat) (p nm:Value) (bs:List Value) (w:World):Prop:=
 B≤b∧∃ v,w.heap[b]?=some (.cells #[p,v,nm] 104 (0,0))∧w.ownsRow B 5 1 v bs.length bs∧v.ownBlock≠some b∧(bs=[]→v=.slice none 0 0)
def IsWr (B b:Nat) (nm:Value) (bs:List Value) (w:World):Prop:=
 WrAt B b (.pointer none) nm bs w∨WrAt B b (.pointer (some ⟨b,0,none⟩)) nm bs w
section
variable {B b:Nat} {p nm:Value} {bs:List Value} {w:World}
theorem WrAt.cell0 (h:WrAt B b p nm bs w):w.cell? ⟨b,0,none⟩=some p:=by
 obtain⟨_,v,hb,_⟩:=h;simp[World.cell?,hb]
theorem WrAt.cell2 (h:WrAt B b p nm bs w):w.cell? ⟨b,2,none⟩=some nm:=by
 obtain⟨_,v,hb,_⟩:=h;simp[World.cell?,hb]
theorem WrAt.shape (h:WrAt B b p nm bs w):w.shape? b=some (104,3):=by
 obtain⟨_,v,hb,_⟩:=h;simp[World.shape?,hb]
theorem WrAt.frozen0 (h:WrAt B b p nm bs w):w.frozen? ⟨b,0,none⟩=false:=by
 obtain⟨_,v,hb,_⟩:=h;simp[World.frozen?,hb]
theorem WrAt.lt (h:WrAt B b p nm bs w):b<w.heap.size:=by
 obtain⟨_,v,hb,_⟩:=h;exact(Array.getElem?_eq_some_iff.1 hb).1
theorem WrAt.drew (h:WrAt B b p nm bs w):WrAt B b p nm bs w.drew:=h
theorem WrAt.alloc (h:WrAt B b p nm bs w) (o:Obj):WrAt B b p nm bs (w.alloc o):=by
 have hlt:=h.lt;obtain⟨hB,v,hb,hown,hne,h0⟩:=h;exact⟨hB,v,(Lib.alloc_old w o b hlt).trans hb,hown.alloc o,hne,h0⟩
theorem IsWr.alloc (h:IsWr B b nm bs w) (o:Obj):IsWr B b nm bs (w.alloc o):=h.imp (·.alloc o) (·.alloc o)
theorem IsWr.lt (h:IsWr B b nm bs w):b<w.heap.size:=h.elim (·.lt) (·.lt)
theorem IsWr.cell2 (h:IsWr B b nm bs w):w.cell? ⟨b,2,none⟩=some nm:=h.elim (·.cell2) (·.cell2)
theorem WrAt.below {w':World} (h:WrAt B b p nm bs w) (hb:Below w.heap.size w w'):WrAt B b p nm bs w':=by
 have hlt:=h.lt;obtain⟨hB,v,hk,hown,hne,h0⟩:=h
 exact⟨hB,v,(hb.block b hlt).trans hk,hown.kept (row:=none) (below_grown hb) (by
  rcases hown.2 with ⟨rfl,_⟩ | ⟨g,cap,cur,rfl,_⟩
  · exact Or.inl rfl
  · exact Or.inr (by simp[Value.ownBlock])),hne,h0⟩
theorem IsWr.below {w':World} (h:IsWr B b nm bs w) (hb:Below w.heap.size w w'):IsWr B b nm bs w':=h.imp (·.below hb) (·.below hb)
theorem WrAt.used (h:WrAt B b p nm bs w) (q:Value):WrAt B b q nm bs (w.setCell ⟨b,0,none⟩ q):=by
 obtain⟨hB,v,hb,hown,hne,h0⟩:=h;refine⟨hB,v,?_,?_,hne,h0⟩
 · simp[World.setCell,Array.getElem?_modify,hb]
 · exact hown.kept (row:=some b) ⟨rfl,rfl,rfl,by simp[World.setCell],fun k _ hk=>Below.heap_setCell _ _ _ _ (fun e=>hk (by simp[e]))⟩ (Or.inr hne)
theorem WrAt.put {v v':Value} {bs':List Value} (hB:B≤b) (hb:w.heap[b]?=some (.cells #[p,v,nm] 104 (0,0))) (hown:w.ownsRow B 5 1 v' bs'.length bs') (h0:bs'=[]→v'=.slice none 0 0):
  WrAt B b p nm bs' (w.setCell ⟨b,1,none⟩ v'):=by
 have hne:=Lib.ownBlock_ne hown hb (by decide);refine⟨hB,v',?_,?_,hne,h0⟩
 · simp[World.setCell,Array.getElem?_modify,hb]
 · exact hown.kept (row:=some b) ⟨rfl,rfl,rfl,by simp[World.setCell],fun k _ hk=>Below.heap_setCell _ _ _ _ (fun e=>hk (by simp[e]))⟩ (Or.inr hne)
end
theorem others_below {e:TypeId} {b:Option Nat} {a w w':World} (h:Lib.OthersKept e b a w) (hb:Below w.heap.size w w'):Lib.OthersKept e b a w':=by
 intro k o hk hne ho;have h1:=h k o hk hne ho;exact(hb.block k (Array.getElem?_eq_some_iff.1 h1).1).trans h1
theorem infoB:∃ j,Tryd.prog.info? 102=some j∧j.size=2:=Option.map_eq_some_iff.1 (by kernel_rfl)
theorem copyCheck_used (b:Nat) (w:World) (h0:w.cell? ⟨b,0,none⟩=some (.pointer (some ⟨b,0,none⟩))):
  Calls Tryd.prog 99 #[.pointer (some ⟨b,0,none⟩)] w fun e w'=>e=.returned (.tuple #[])∧w'=w:=by
 obtain⟨j,hj,_⟩:=infoB;have hq:=Lib.run_neq_ptr_same (P:=Tryd.prog) w (tp:=99) (te:=102) ⟨b,0,none⟩ (by kernel_rfl) hj
 go_enter Tryd.func99,Tryd.ntmps99
 go_wp2_with fail
 go_end0
 exact⟨rfl,rfl⟩
theorem copyCheck_fresh (b:Nat) (w:World) (h0:w.cell? ⟨b,0,none⟩=some (.pointer none)) (hsh:w.shape? b=some (104,3)) (hfz:w.frozen? ⟨b,0,none⟩=false):
  Calls Tryd.prog 99 #[.pointer (some ⟨b,0,none⟩)] w fun e w'=>e=.returned (.tuple #[])∧w'=w.setCell ⟨b,0,none⟩ (.pointer (some ⟨b,0,none⟩)):=by
 obtain⟨j,hj,hjs⟩:=infoB
 go_enter Tryd.func99,Tryd.ntmps99
 go_wp2_with fail
 rw[Lib.run_to_unsafe w ⟨b,0,none⟩ (t:=102) (by kernel_rfl) (by kernel_rfl) hj (by rw[hjs]; decide) hsh (Nat.zero_lt_succ 2)]
 simp only[Result.andThen];rw[Oper.upon_value];go_wp2_with fail;rw[run_callFunc_extern Tryd.func109 (by kernel_rfl) (by kernel_rfl) (by kernel_rfl) (e:=Extern.AbiNoEscape.same) (by kernel_rfl)];rw[Lib.run_noEscape];simp only[Result.andThen];rw[Oper.upon_value];go_wp2_with fail;rw[Lib.run_from_unsafe w ⟨b,0,none⟩ (u:=102) (by kernel_rfl) (by kernel_rfl) hj hsh (by kernel_rfl)];simp only[Result.andThen];rw[Oper.upon_value];go_wp2_with fail
 go_end0
 exact⟨rfl,rfl⟩
def WrOut (B b:Nat) (nm:Value) (bs:List Value) (w w':World):Prop:=
 WrAt B b (.pointer (some ⟨b,0,none⟩)) nm bs w'∧Below B w w'∧Lib.OthersKept 5 (some b) w w'
theorem copyCheck_any (B b:Nat) (nm:Value) (bs:List Value) (w:World) (h:IsWr B b nm bs w):
  Calls Tryd.prog 99 #[.pointer (some ⟨b,0,none⟩)] w fun e w'=>e=.returned (.tuple #[])∧WrOut B b nm bs w w':=by
 rcases h with h | h
 · refine(copyCheck_fresh b w h.cell0 h.shape h.frozen0).mono ?_
   rintro e w' ⟨rfl,rfl⟩;exact⟨rfl,h.used _,(Below.refl B w).setCell (p:=⟨b,0,none⟩) h.1 _,(Lib.OthersKept.refl _ _ w).setCell ⟨b,0,none⟩ rfl _⟩
 · refine(copyCheck_used b w h.cell0).mono ?_
   rintro e w' ⟨rfl,rfl⟩;exact⟨rfl,h,Below.refl B _,Lib.OthersKept.refl _ _ _⟩
theorem infoU:∃ i,Tryd.prog.info? 5=some i∧i.zero=some (.int .u8 0)∧i.size=1∧i.bytes=1:=by
 obtain⟨i,hi,e⟩:=Option.map_eq_some_iff.1 (show(Tryd.prog.info? 5).map (fun i=>(i.zero,i.size,i.bytes))=some (some (.int .u8 0),1,1) from by kernel_rfl)
 simp only[Prod.mk.injEq] at e;exact⟨i,hi,e.1,e.2.1,e.2.2⟩
theorem owns_kind {w:World} {B:Nat} {e:TypeId} {v:Value} {n:Nat} {xs:List Value} (h:w.ownsRow B e 1 v n xs):∀ g,v.ownBlock=some g→∃ c fz,w.heap[g]?=some (.cells c e fz):=Lib.ownsRowF_kind (World.ownsRowF_of h)
theorem writeByte_any (B b:Nat) (nm:Value) (bs:List Value) (c:Int) (w:World) (h:IsWr B b nm bs w) (hlen:bs.length+1≤140737488355328) (hBw:B≤w.heap.size):
  Calls Tryd.prog 77 #[.pointer (some ⟨b,0,none⟩),.int .u8 c] w fun e w'=>e=.returned .nilIface∧WrOut B b nm (bs++[.int .u8 c]) w w':=by
 obtain⟨i0,hi,hz0,hz1,hz2⟩:=infoU
 go_enter Tryd.func77,Tryd.ntmps77
 go_wp2_with (first | (go_at_call 99; refine(copyCheck_any B b nm bs _ h).mono ?_))
 rintro e w1 ⟨rfl,h1,hb1,hk1⟩;obtain⟨hB,v,hbk,hown,hne,hv0⟩:=h1
 have c0:w1.cell? ⟨b,0,none⟩=some (.pointer (some ⟨b,0,none⟩)):=by rw[Lib.cell_of_heap hbk]; rfl
 have c1:w1.cell? ⟨b,1,none⟩=some v:=by rw[Lib.cell_of_heap hbk]; rfl
 go_wp2_with (first | (at_builtin; refine wpList_append_own _ rfl _ _ 100 rfl B 5 i0 (.int .u8 0) 1 1 (by kernel_rfl) hi hz0 hz1 hz2 rfl (by decide) _ _ _ rfl (hown.alloc _) ⟨w1.heap.size,0,none⟩ 1 1 [.int .u8 c] rfl rfl ?c1 ?c2 ?c3 ?c4 ?c5 ?_))
 case c1=>
  intro j u hj
  match j,hj with
  | 0,hj=>simp at hj; subst hj; simp[Addr.add]
 case c2=>intro u hu; simp at hu; subst hu; rfl
 case c3=>unfold maxLen; omega
 case c4=>omega
 case c5=>have:=hb1.size; simp; omega
 intro v' w2 hown' hgrow hnil;have hlt:b<w1.heap.size:=(Array.getElem?_eq_some_iff.1 hbk).1
 have hb2:w2.heap[b]?=some (.cells #[.pointer (some ⟨b,0,none⟩),v,nm] 104 (0,0)):=by
  rw[hgrow.block b (by simp; omega) (fun e=>hne e.symm),Lib.alloc_old w1 _ b hlt]
  exact hbk
 have d0:w2.cell? ⟨b,0,none⟩=some (.pointer (some ⟨b,0,none⟩)):=by rw[Lib.cell_of_heap hb2]; rfl
 have d1:w2.cell? ⟨b,1,none⟩=some v:=by rw[Lib.cell_of_heap hb2]; rfl
 have f1:w2.frozen? ⟨b,1,none⟩=false:=Lib.frozen_of_heap hb2 1
 obtain⟨g,cap,rfl⟩:∃ g cap,v'=.slice (some ⟨g,0,none⟩) (bs.length+1) cap:=by
  rcases hown'.2 with ⟨_,h0⟩ | ⟨g,cap,cur,hv,_⟩
  · omega
  · exact⟨g,cap,hv⟩
 go_wp2_with fail;go_ret;refine⟨rfl,?_,?_,((hk1.alloc _).grown hgrow (owns_kind (hown.alloc _))).setCell ⟨b,1,none⟩ rfl _⟩
 · exact WrAt.put hB hb2 (bs':=bs++[.int .u8 c]) (by simpa using hown') (fun h=>absurd h (by simp))
 · exact((hb1.alloc (by have:=hb1.size; omega) _).grown hgrow (by have:=hb1.size; simp; omega) (fun k hk=>(hown.lt k hk).1)).setCell (p:=⟨b,1,none⟩) hB _
theorem strC_nil {s:ByteArray} (h:Lib.strCells s=[]):s=ByteArray.empty:=by
 have h1:s.size=0:=by rw[← Lib.strCells_length,h]; rfl
 exact ByteArray.ext (Array.eq_empty_of_size_eq_zero h1)
theorem writeString_any (B b:Nat) (nm:Value) (bs:List Value) (s:ByteArray) (w:World) (h:IsWr B b nm bs w) (hlen:bs.length+s.size≤140737488355328) (hBw:B≤w.heap.size):
  Calls Tryd.prog 74 #[.pointer (some ⟨b,0,none⟩),.string s] w fun e w'=>e=.returned (.tuple #[.int .i64 s.size,.nilIface])∧WrOut B b nm (bs++Lib.strCells s) w w':=by
 obtain⟨i0,hi,hz0,hz1,hz2⟩:=infoU
 go_enter Tryd.func74,Tryd.ntmps74
 go_wp2_with (first | (go_at_call 99; refine(copyCheck_any B b nm bs _ h).mono ?_))
 rintro e w1 ⟨rfl,h1,hb1,hk1⟩;obtain⟨hB,v,hbk,hown,hne,hv0⟩:=h1
 have c0:w1.cell? ⟨b,0,none⟩=some (.pointer (some ⟨b,0,none⟩)):=by rw[Lib.cell_of_heap hbk]; rfl
 have c1:w1.cell? ⟨b,1,none⟩=some v:=by rw[Lib.cell_of_heap hbk]; rfl
 go_wp2_with (first | (at_builtin; refine Lib.wpList_append_own_string _ rfl _ _ 100 9 rfl B 5 i0 (by kernel_rfl) (by kernel_rfl) hi hz0 hz1 hz2 _ _ _ rfl hown s rfl ?c3 ?c4 ?c5 ?_))
 case c3=>unfold maxLen; omega
 case c4=>omega
 case c5=>have:=hb1.size; omega
 intro v' w2 hown' hgrow hnil;have hlt:b<w1.heap.size:=(Array.getElem?_eq_some_iff.1 hbk).1
 have hb2:w2.heap[b]?=some (.cells #[.pointer (some ⟨b,0,none⟩),v,nm] 104 (0,0)):=by
  rw[hgrow.block b hlt (fun e=>hne e.symm)];exact hbk
 have d0:w2.cell? ⟨b,0,none⟩=some (.pointer (some ⟨b,0,none⟩)):=by rw[Lib.cell_of_heap hb2]; rfl
 have d1:w2.cell? ⟨b,1,none⟩=some v:=by rw[Lib.cell_of_heap hb2]; rfl
 have f1:w2.frozen? ⟨b,1,none⟩=false:=Lib.frozen_of_heap hb2 1;have hz9:bs++Lib.strCells s=[]→v'=.slice none 0 0:=fun h=>hnil.2 ⟨hv0 (List.append_eq_nil_iff.1 h).1,(strC_nil (List.append_eq_nil_iff.1 h).2)⟩;clear hnil
 obtain⟨ao,n',cap,rfl⟩:∃ ao n' cap,v'=.slice ao n' cap:=by
  rcases hown'.2 with ⟨hv,_⟩ | ⟨g,cap,cur,hv,_⟩
  · exact⟨_,_,_,hv⟩
  · exact⟨_,_,_,hv⟩
 go_wp2_with fail
 go_ret2
 refine⟨rfl,?_,?_,(hk1.grown hgrow (owns_kind hown)).setCell ⟨b,1,none⟩ rfl _⟩
 · exact WrAt.put hB hb2 (bs':=bs++Lib.strCells s) (by simpa[Lib.strCells_length] using hown') hz9
 · exact(hb1.grown hgrow (by have:=hb1.size; omega) (fun k hk=>(hown.lt k hk).1)).setCell (p:=⟨b,1,none⟩) hB _
/-- String of a writer that holds something -/
theorem string_some (B b:Nat) (p nm:Value) (l:List UInt8) (w:World) (hAt:WrAt B b p nm (Lib.byteCells l) w) (h0:l≠[]):
  Calls Tryd.prog 42 #[.pointer (some ⟨b,0,none⟩)] w fun e w'=>e=.returned (.string ⟨l.toArray⟩)∧Below B w w':=by
 obtain⟨hB,v,hbk,hown,hne,_⟩:=hAt
 have hl0:l.length≠0:=by simpa using h0
 rw[Lib.byteCells_length] at hown
 obtain⟨g,cap,cur,rfl,hbg,hg,hnc,hcm,hcs,htake⟩:∃ g cap cur,v=.slice (some ⟨g,0,none⟩) l.length cap∧B≤g∧w.heap[g]?=some (.cells cur 5 (0,0))∧l.length≤cap∧cap≤maxLen∧cur.size=cap * 1∧cur.toList.take (l.length * 1)=Lib.byteCells l:=by
  rcases hown.2 with ⟨_,hz⟩ | ⟨g,cap,cur,hv,r⟩
  · exact absurd hz hl0
  · exact⟨g,cap,cur,hv,r⟩
 have c1:w.drew.cell? ⟨b,1,none⟩=some (.slice (some ⟨g,0,none⟩) l.length cap):=by
  have:w.drew.heap[b]?=some (.cells #[p,.slice (some ⟨g,0,none⟩) l.length cap,nm] 104 (0,0)):=hbk
  rw[Lib.cell_of_heap this]; rfl
 have hSD:(Builtin.unsafeSliceData_ #[100] 152 #[.slice (some ⟨g,0,none⟩) l.length cap]).run Tryd.prog w.drew=.ok (.pointer (some ⟨g,0,none⟩)) w.drew:=
  Lib.run_unsafeSliceData_row _ _ _ _ _ _ (by omega)
 have hUS:(Builtin.unsafeString_ #[152,3] 9 #[.pointer (some ⟨g,0,none⟩),.int .i64 l.length]).run Tryd.prog w.drew=.ok (.string ⟨l.toArray⟩) (w.drew.freeze ⟨g,0,none⟩ l.length):=by
  refine Lib.run_unsafeString_row w.drew 152 3 9 5 (by kernel_rfl) (by kernel_rfl) g cur.size (by have hg':w.drew.heap[g]?=some (.cells cur 5 (0,0)):=hg; simp[World.shape?,hg']) l h0 (by omega) (by unfold maxLen at hcm; omega) ?_
  intro j x hx;have:=hown.cells (g:=g) rfl j (.int .u8 x.toNat) (by simp[Lib.byteCells,hx]);exact this
 have hbf:=Lib.below_freeze (Below.drew (Below.refl B w)) (p:=⟨g,0,none⟩) hbg l.length;have Hb:=qq hbf;clear hbf htake hcs hcm hnc hown hne hg hbk
 go_enter Tryd.func42,Tryd.ntmps42
 go_wp2_with fail
 go_region
 all_goals (go_wp2_with fail; go_ret; exact⟨rfl,Hb.out⟩)
theorem string_none (B b:Nat) (p nm:Value) (w:World) (hAt:WrAt B b p nm [] w):
  Calls Tryd.prog 42 #[.pointer (some ⟨b,0,none⟩)] w fun e w'=>e=.returned (.string ⟨#[]⟩)∧Below B w w':=by
 obtain⟨hB,v,hbk,hown,hne,h0⟩:=hAt;obtain rfl:=h0 rfl
 have c1:w.drew.cell? ⟨b,1,none⟩=some (.slice none 0 0):=by
  have:w.drew.heap[b]?=some (.cells #[p,.slice none 0 0,nm] 104 (0,0)):=hbk
  rw[Lib.cell_of_heap this]; rfl
 have hSD:(Builtin.unsafeSliceData_ #[100] 152 #[.slice none 0 0]).run Tryd.prog w.drew=.ok (.pointer none) w.drew:=rfl;have hUS:(Builtin.unsafeString_ #[152,3] 9 #[.pointer none,.int .i64 0]).run Tryd.prog w.drew=.ok (.string .empty) w.drew:=Lib.run_unsafeString_none w.drew _ _ _ none;clear hown hne hbk h0
 go_enter Tryd.func42,Tryd.ntmps42
 go_wp2_with fail
 go_region
 all_goals (go_wp2_with fail; go_ret; exact⟨rfl,Below.drew (Below.refl B w)⟩)
theorem string_any (B b:Nat) (p nm:Value) (l:List UInt8) (w:World) (hAt:WrAt B b p nm (Lib.byteCells l) w):
  Calls Tryd.prog 42 #[.pointer (some ⟨b,0,none⟩)] w fun e w'=>e=.returned (.string ⟨l.toArray⟩)∧Below B w w':=by
 by_cases h:l=[]
 · subst h
   exact string_none B b p nm w hAt
 · exact string_some B b p nm l w hAt h
end Go.Proofs.YtgpeijkjmkocgaaDoor
