/- SchemeOrder holds: a scheme is more than itself, and than what is less than what it is more than; what is an instance of the less is one of the more. Conditions: the variables that the row lists are laid as the program's text lays them. -/
import Derived.Test.YtdmakpmbknindaaGreatDoorM41
import Derived.Test.YtdmakpmbknindaaGreatDoorM42
import Derived.Test.YtdmakpmbknindaaGreatDoorM37
import Derived.Test.YtdmakpmbknindaaGreatDoorM43
import Derived.Test.YtdmakpmbknindaaGreatDoorM26
import Derived.Deep.DeepCutAuto
namespace Go.Proofs.YtdmakpmbknindaaGreatDoor
set_option linter.unusedVariables false
set_option linter.unusedSimpArgs false
open Go.ChangeShapes Go.WideShapes Go.ChangeAt Go.RowKit
theorem schMore_b {a b:SchD} {q:Bool} (hq:q=true↔MoreE a b) (v v':Value) (w:World) (hv:SchV w w.heap.size v a) (hv':SchV w w.heap.size v' b):
    Calls Tryz.prog 40 #[v,v'] w fun e w'=>e=.returned (.bool q)∧Below w.heap.size w w':=
  (schMore_any a b v v' w hv hv').mono fun e w' ⟨q',h1,h2,h3⟩=>⟨by rw[h1,show q'=q from Bool.eq_iff_iff.2 (h2.trans hq.symm)],h3⟩
theorem instG_b {s:SchD} {u:TyD} {q:Bool} (hq:q=true↔OkSch s∧InstE s u) (v:Value) (A':Option Addr) (m' cp':Nat) (w:World) (hv:SchV w w.heap.size v s) (hu:TysV w w.heap.size A' m' cp' u.l):
    Calls Tryz.prog 21 #[v,.agg #[.int .u8 u.k,.int .i64 u.n,.int .i64 u.v,.int .u8 u.c,.slice A' m' cp']] w fun e w'=>∃ x y,e=.returned (.tuple #[x,y,.bool q])∧Below w.heap.size w w':=
  (instG_any s u v A' m' cp' w hv hu).mono fun e w' ⟨A,n,c,ts,A2,n2,c2,ms,ok,h1,h2,h3,h4,h5⟩=>⟨.slice A n c,.slice A2 n2 c2,by rw[h1,show ok=q from Bool.eq_iff_iff.2 (h4.iff.trans hq.symm)],h5⟩
theorem bool_of (p:Prop):∃ q:Bool,q=true↔p:=⟨@decide p (Classical.propDecidable p),by simp⟩
structure Four (a b c:SchD) (t:TyD) (Aa:Option Addr) (ma ca:Nat) (A1:Option Addr) (a1:Nat) (A2:Option Addr) (a2:Nat) (A3:Option Addr) (a3:Nat) (Ab:Option Addr) (mb cb:Nat) (B1:Option Addr) (b1:Nat) (B2:Option Addr) (b2:Nat) (B3:Option Addr) (b3:Nat) (Ac:Option Addr) (mc cc:Nat) (C1:Option Addr) (c1:Nat) (C2:Option Addr) (c2:Nat) (C3:Option Addr) (c3:Nat) (At:Option Addr) (mt ct:Nat) (s:Nat) (w:World):Prop where
  ka:Blk w s 40 (cellsS a Aa ma ca A1 a1 A2 a2 A3 a3)
  kb:Blk w (s+1) 40 (cellsS b Ab mb cb B1 b1 B2 b2 B3 b3)
  kc:Blk w (s+1+1) 40 (cellsS c Ac mc cc C1 c1 C2 c2 C3 c3)
  kt:Blk w (s+1+1+1) 27 #[.int .u8 t.k,.int .i64 t.n,.int .i64 t.v,.int .u8 t.c,.slice At mt ct]
  ra:SchR w w.heap.size a Aa ma ca A1 a1 A2 a2 A3 a3
  rb:SchR w w.heap.size b Ab mb cb B1 b1 B2 b2 B3 b3
  rc:SchR w w.heap.size c Ac mc cc C1 c1 C2 c2 C3 c3
  rt:TysV w w.heap.size At mt ct t.l
theorem Four.fresh {a b c:SchD} {t:TyD} {Aa:Option Addr} {ma ca:Nat} {A1:Option Addr} {a1:Nat} {A2:Option Addr} {a2:Nat} {A3:Option Addr} {a3:Nat} {Ab:Option Addr} {mb cb:Nat} {B1:Option Addr} {b1:Nat} {B2:Option Addr} {b2:Nat} {B3:Option Addr} {b3:Nat} {Ac:Option Addr} {mc cc:Nat} {C1:Option Addr} {c1:Nat} {C2:Option Addr} {c2:Nat} {C3:Option Addr} {c3:Nat} {At:Option Addr} {mt ct:Nat} {s:Nat} {w w':World}
    (h:Four a b c t Aa ma ca A1 a1 A2 a2 A3 a3 Ab mb cb B1 b1 B2 b2 B3 b3 Ac mc cc C1 c1 C2 c2 C3 c3 At mt ct s w) (hb:Below w.heap.size w w'):Four a b c t Aa ma ca A1 a1 A2 a2 A3 a3 Ab mb cb B1 b1 B2 b2 B3 b3 Ac mc cc C1 c1 C2 c2 C3 c3 At mt ct s w':=
  ⟨h.ka.below hb h.ka.lt,h.kb.below hb h.kb.lt,h.kc.below hb h.kc.lt,h.kt.below hb h.kt.lt,h.ra.fresh hb,h.rb.fresh hb,h.rc.fresh hb,(h.rt.below hb).more hb.size⟩
set_option maxRecDepth 100000 in
set_option maxHeartbeats 4000000 in
theorem walk_schemeOrder {w:World} (ht:Tab w) (va:Value) (ha:SchIn w va) (vb:Value) (hb:SchIn w vb) (vc:Value) (hc:SchIn w vc) {H:Type} {d3:DataW H} (vt:Value) (hT:TyB w vt d3):
    Calls Tryz.prog 8 #[va,vb,vc,vt] w fun e w'=>e=.returned (.bool true)∧Below w.heap.size w w':=by
  obtain⟨a,Aa,ma,ca,A1,a1,A2,a2,A3,a3,rfl,ra⟩:=ha;obtain⟨b,Ab,mb,cb,B1,b1,B2,b2,B3,b3,rfl,rb⟩:=hb;obtain⟨c,Ac,mc,cc,C1,c1,C2,c2,C3,c3,rfl,rc⟩:=hc;obtain⟨t,At,mt,ct,rfl,rt,_⟩:=hT
  obtain⟨W,hW,hF,hbw⟩:∃ W,(((w.alloc (Obj.cells (cellsS a Aa ma ca A1 a1 A2 a2 A3 a3) 40)).alloc (Obj.cells (cellsS b Ab mb cb B1 b1 B2 b2 B3 b3) 40)).alloc (Obj.cells (cellsS c Ac mc cc C1 c1 C2 c2 C3 c3) 40)).alloc (Obj.cells #[.int .u8 t.k,.int .i64 t.n,.int .i64 t.v,.int .u8 t.c,.slice At mt ct] 27)=W∧Four a b c t Aa ma ca A1 a1 A2 a2 A3 a3 Ab mb cb B1 b1 B2 b2 B3 b3 Ac mc cc C1 c1 C2 c2 C3 c3 At mt ct w.heap.size W∧Below w.heap.size w W:=by
    obtain⟨W1,h1⟩:∃ x,w.alloc (Obj.cells (cellsS a Aa ma ca A1 a1 A2 a2 A3 a3) 40)=x:=⟨_,rfl⟩
    have s1:W1.heap.size=w.heap.size+1:=by rw[← h1]; simp
    have k1:=blk_new w (cellsS a Aa ma ca A1 a1 A2 a2 A3 a3) 40;have g1:=below_box (w:=w) (Obj.cells (cellsS a Aa ma ca A1 a1 A2 a2 A3 a3) 40);rw[h1] at k1 g1;obtain⟨W2,h2⟩:∃ x,W1.alloc (Obj.cells (cellsS b Ab mb cb B1 b1 B2 b2 B3 b3) 40)=x:=⟨_,rfl⟩
    have s2:W2.heap.size=w.heap.size+1+1:=by rw[← h2,← s1]; simp
    have k2:=blk_new W1 (cellsS b Ab mb cb B1 b1 B2 b2 B3 b3) 40;have g2:=below_box (w:=W1) (Obj.cells (cellsS b Ab mb cb B1 b1 B2 b2 B3 b3) 40);rw[h2,s1] at k2 g2;obtain⟨W3,h3⟩:∃ x,W2.alloc (Obj.cells (cellsS c Ac mc cc C1 c1 C2 c2 C3 c3) 40)=x:=⟨_,rfl⟩
    have s3:W3.heap.size=w.heap.size+1+1+1:=by rw[← h3,← s2]; simp
    have k3:=blk_new W2 (cellsS c Ac mc cc C1 c1 C2 c2 C3 c3) 40;have g3:=below_box (w:=W2) (Obj.cells (cellsS c Ac mc cc C1 c1 C2 c2 C3 c3) 40);rw[h3,s2] at k3 g3;obtain⟨W4,h4⟩:∃ x,W3.alloc (Obj.cells #[.int .u8 t.k,.int .i64 t.n,.int .i64 t.v,.int .u8 t.c,.slice At mt ct] 27)=x:=⟨_,rfl⟩;have k4:=blk_new W3 #[.int .u8 t.k,.int .i64 t.n,.int .i64 t.v,.int .u8 t.c,.slice At mt ct] 27;have g4:=below_box (w:=W3) (Obj.cells #[.int .u8 t.k,.int .i64 t.n,.int .i64 t.v,.int .u8 t.c,.slice At mt ct] 27);rw[h4,s3] at k4 g4;have G3:Below (w.heap.size+1+1) W2 W4:=g3.trans (g4.mono (by omega));have G2:Below (w.heap.size+1) W1 W4:=g2.trans (G3.mono (by omega));have G1:Below w.heap.size w W4:=g1.trans (G2.mono (by omega))
    exact⟨W4,by rw[h1,h2,h3,h4],⟨k1.below G2 (by omega),k2.below G3 (by omega),k3.below g4 (by omega),k4,ra.fresh G1,rb.fresh G1,rc.fresh G1,(rt.below G1).more G1.size⟩,G1⟩
  unfold cellsS at hW;have HW:=qq hW;have F0:=qq hF;have Q0:=qq hbw;have Ht:=qq ht;clear hW hF hbw ht ra rb rc rt;unfold cellsS
  go_enter Tryz.func8,Tryz.ntmps8
  go_upto_region 1 with fail;rw[HW.out]
  go_cut [27] (fun s wx=>∃ q,s=.bool q∧Below W.heap.size W wx)
  case first=>
    obtain⟨x0,x1,x2,x3,x4,x5,x6,x7,x8,x9⟩:=box_cells (F0.out).ka;have u0:=(F0.out).kt.cell 0;have u1:=(F0.out).kt.cell 1;have u2:=(F0.out).kt.cell 2;have u3:=(F0.out).kt.cell 3;have u4:=(F0.out).kt.cell 4;simp only[qc,qb,qa] at u0 u1 u2 u3 u4;go_wp2_with fail;refine(great8_any a t _ At mt ct W ⟨Aa,ma,ca,A1,a1,A2,a2,A3,a3,rfl,F0.out.ra⟩ F0.out.rt).mono ?_;rintro e w1 ⟨q1,rfl,hb1⟩;have hb1':=hb1;have F1:=qq (F0.out.fresh hb1);clear x0 x1 x2 x3 x4 x5 x6 x7 x8 x9 u0 u1 u2 u3 u4 hb1
    cases q1 with
    | true=>
      go_wp2_with fail;go_meet;exact⟨_,rfl,hb1'⟩
    | false=>
      obtain⟨y0,y1,y2,y3,y4,y5,y6,y7,y8,y9⟩:=box_cells (F1.out).kb;have u0:=(F1.out).kt.cell 0;have u1:=(F1.out).kt.cell 1;have u2:=(F1.out).kt.cell 2;have u3:=(F1.out).kt.cell 3;have u4:=(F1.out).kt.cell 4;simp only[qc,qb,qa] at u0 u1 u2 u3 u4;go_wp2_with fail;refine(great8_any b t _ At mt ct w1 ⟨Ab,mb,cb,B1,b1,B2,b2,B3,b3,rfl,F1.out.rb⟩ F1.out.rt).mono ?_;rintro e w2 ⟨q2,rfl,hb2⟩;have hb2':=hb1'.trans (hb2.mono hb1'.size);have F2:=qq (F1.out.fresh hb2);clear y0 y1 y2 y3 y4 y5 y6 y7 y8 y9 u0 u1 u2 u3 u4 hb2 hb1' F1
      cases q2 with
      | true=>
        go_wp2_with fail;go_meet;exact⟨_,rfl,hb2'⟩
      | false=>
        obtain⟨z0,z1,z2,z3,z4,z5',z6,z7,z8,z9⟩:=box_cells (F2.out).kc;have u0:=(F2.out).kt.cell 0;have u1:=(F2.out).kt.cell 1;have u2:=(F2.out).kt.cell 2;have u3:=(F2.out).kt.cell 3;have u4:=(F2.out).kt.cell 4;simp only[qc,qb,qa] at u0 u1 u2 u3 u4;go_wp2_with fail;refine(great8_any c t _ At mt ct w2 ⟨Ac,mc,cc,C1,c1,C2,c2,C3,c3,rfl,F2.out.rc⟩ F2.out.rt).mono ?_;rintro e w3 ⟨q3,rfl,hb3⟩;have hb3':=hb2'.trans (hb3.mono hb2'.size);clear z0 z1 z2 z3 z4 z5' z6 z7 z8 z9 u0 u1 u2 u3 u4 hb3 hb2' F2;go_wp2_with fail;go_meet;exact⟨_,rfl,hb3'⟩
  case rest=>
    obtain⟨q,rfl,hbc⟩:=hcut;have F1:=qq (F0.out.fresh hbc);have Q1:=qq (Q0.out.trans (hbc.mono Q0.out.size));clear hbc F0 Q0
    cases q with
    | true=>
      go_wp2_with fail
      refine(works8_any wc (Ht.out.below Q1.out)).mono ?_; rintro e w9 ⟨rfl,hb9⟩
      have Hb9:=qq (Q1.out.trans (hb9.mono Q1.out.size));clear hb9;go_wp2_with fail;go_ret;exact⟨rfl,Hb9.out⟩
    | false=>
      obtain⟨qab,hab⟩:=bool_of (MoreE a b);obtain⟨qbc,hbc⟩:=bool_of (MoreE b c);have Hab:=qq hab;have Hbc:=qq hbc;clear hab hbc;obtain⟨wD,hwD⟩:∃ x,x=wc:=⟨_,rfl⟩;subst hwD;go_upto_region 3 with fail
      go_cut [53] (fun s wx=>s=.bool false∧Below wD.heap.size wD wx)
      case first=>
        obtain⟨x0,x1,x2,x3,x4,x5,x6,x7,x8,x9⟩:=box_cells (F1.out).ka;go_wp2_with fail;refine(schMay_any a _ wD ⟨Aa,ma,ca,A1,a1,A2,a2,A3,a3,rfl,F1.out.ra⟩).mono ?_;rintro e w1 ⟨er,rfl,hiff,hb1⟩;have F2:=qq (F1.out.fresh hb1);have B2':=qq hb1;have Hiff:=qq hiff;clear x0 x1 x2 x3 x4 x5 x6 x7 x8 x9 hb1 hiff
        by_cases her:er=0
        · subst her
          have haa:MoreE a a:=MoreE.refl (Hiff.out.1 (by simp));have Haa:=qq haa;clear haa;obtain⟨x0,x1,x2,x3,x4,x5,x6,x7,x8,x9⟩:=box_cells (F2.out).ka;go_wp2_with fail;refine(schMore_b (q:=true) ⟨fun _=>Haa.out,fun _=>rfl⟩ _ _ w1 ⟨Aa,ma,ca,A1,a1,A2,a2,A3,a3,rfl,F2.out.ra⟩ ⟨Aa,ma,ca,A1,a1,A2,a2,A3,a3,rfl,F2.out.ra⟩).mono ?_;rintro e w2 ⟨rfl,hb2⟩;have F3:=qq (F2.out.fresh hb2);have B3':=qq (B2'.out.trans (hb2.mono B2'.out.size));clear x0 x1 x2 x3 x4 x5 x6 x7 x8 x9 hb2;obtain⟨x0,x1,x2,x3,x4,x5,x6,x7,x8,x9⟩:=box_cells (F3.out).ka;obtain⟨y0,y1,y2,y3,y4,y5,y6,y7,y8,y9⟩:=box_cells (F3.out).kb;go_wp2_with fail;refine(schMore_b Hab.out _ _ w2 ⟨Aa,ma,ca,A1,a1,A2,a2,A3,a3,rfl,F3.out.ra⟩ ⟨Ab,mb,cb,B1,b1,B2,b2,B3,b3,rfl,F3.out.rb⟩).mono ?_;rintro e v1 ⟨rfl,hv1⟩;have G1:=qq (F3.out.fresh hv1);have P1:=qq (B3'.out.trans (hv1.mono B3'.out.size));clear x0 x1 x2 x3 x4 x5 x6 x7 x8 x9 y0 y1 y2 y3 y4 y5 y6 y7 y8 y9 hv1
          cases qab with
          | false=>
            go_wp2_with fail;go_meet;exact⟨rfl,P1.out⟩
          | true=>
            obtain⟨y0,y1,y2,y3,y4,y5,y6,y7,y8,y9⟩:=box_cells (G1.out).kb;obtain⟨z0,z1,z2,z3,z4,z5',z6,z7,z8,z9⟩:=box_cells (G1.out).kc;go_wp2_with fail;refine(schMore_b Hbc.out _ _ v1 ⟨Ab,mb,cb,B1,b1,B2,b2,B3,b3,rfl,G1.out.rb⟩ ⟨Ac,mc,cc,C1,c1,C2,c2,C3,c3,rfl,G1.out.rc⟩).mono ?_;rintro e v2 ⟨rfl,hv2⟩;have G2:=qq (G1.out.fresh hv2);have P2:=qq (P1.out.trans (hv2.mono P1.out.size));clear y0 y1 y2 y3 y4 y5 y6 y7 y8 y9 z0 z1 z2 z3 z4 z5' z6 z7 z8 z9 hv2
            cases qbc with
            | false=>
              go_wp2_with fail;go_meet;exact⟨rfl,P2.out⟩
            | true=>
              obtain⟨x0,x1,x2,x3,x4,x5,x6,x7,x8,x9⟩:=box_cells (G2.out).ka;obtain⟨z0,z1,z2,z3,z4,z5',z6,z7,z8,z9⟩:=box_cells (G2.out).kc;have hac:MoreE a c:=(Hab.out.1 (by simp)).trans (Hbc.out.1 (by simp));have Hac:=qq hac;clear hac;go_wp2_with fail;refine(schMore_b (q:=true) ⟨fun _=>Hac.out,fun _=>rfl⟩ _ _ v2 ⟨Aa,ma,ca,A1,a1,A2,a2,A3,a3,rfl,G2.out.ra⟩ ⟨Ac,mc,cc,C1,c1,C2,c2,C3,c3,rfl,G2.out.rc⟩).mono ?_;rintro e v3 ⟨rfl,hv3⟩;have P3:=qq (P2.out.trans (hv3.mono P2.out.size));clear x0 x1 x2 x3 x4 x5 x6 x7 x8 x9 z0 z1 z2 z3 z4 z5' z6 z7 z8 z9 hv3;go_wp2_with fail;go_meet;exact⟨rfl,P3.out⟩
        · have de:(er==0)=false:=by simpa using her
          clear her;obtain⟨x0,x1,x2,x3,x4,x5,x6,x7,x8,x9⟩:=box_cells (F2.out).ka;obtain⟨y0,y1,y2,y3,y4,y5,y6,y7,y8,y9⟩:=box_cells (F2.out).kb;go_wp2_with fail;refine(schMore_b Hab.out _ _ w1 ⟨Aa,ma,ca,A1,a1,A2,a2,A3,a3,rfl,F2.out.ra⟩ ⟨Ab,mb,cb,B1,b1,B2,b2,B3,b3,rfl,F2.out.rb⟩).mono ?_;rintro e v1 ⟨rfl,hv1⟩;have G1:=qq (F2.out.fresh hv1);have P1:=qq (B2'.out.trans (hv1.mono B2'.out.size));clear x0 x1 x2 x3 x4 x5 x6 x7 x8 x9 y0 y1 y2 y3 y4 y5 y6 y7 y8 y9 hv1
          cases qab with
          | false=>
            go_wp2_with fail;go_meet;exact⟨rfl,P1.out⟩
          | true=>
            obtain⟨y0,y1,y2,y3,y4,y5,y6,y7,y8,y9⟩:=box_cells (G1.out).kb;obtain⟨z0,z1,z2,z3,z4,z5',z6,z7,z8,z9⟩:=box_cells (G1.out).kc;go_wp2_with fail;refine(schMore_b Hbc.out _ _ v1 ⟨Ab,mb,cb,B1,b1,B2,b2,B3,b3,rfl,G1.out.rb⟩ ⟨Ac,mc,cc,C1,c1,C2,c2,C3,c3,rfl,G1.out.rc⟩).mono ?_;rintro e v2 ⟨rfl,hv2⟩;have G2:=qq (G1.out.fresh hv2);have P2:=qq (P1.out.trans (hv2.mono P1.out.size));clear y0 y1 y2 y3 y4 y5 y6 y7 y8 y9 z0 z1 z2 z3 z4 z5' z6 z7 z8 z9 hv2
            cases qbc with
            | false=>
              go_wp2_with fail;go_meet;exact⟨rfl,P2.out⟩
            | true=>
              obtain⟨x0,x1,x2,x3,x4,x5,x6,x7,x8,x9⟩:=box_cells (G2.out).ka;obtain⟨z0,z1,z2,z3,z4,z5',z6,z7,z8,z9⟩:=box_cells (G2.out).kc;have hac:MoreE a c:=(Hab.out.1 (by simp)).trans (Hbc.out.1 (by simp));have Hac:=qq hac;clear hac;go_wp2_with fail;refine(schMore_b (q:=true) ⟨fun _=>Hac.out,fun _=>rfl⟩ _ _ v2 ⟨Aa,ma,ca,A1,a1,A2,a2,A3,a3,rfl,G2.out.ra⟩ ⟨Ac,mc,cc,C1,c1,C2,c2,C3,c3,rfl,G2.out.rc⟩).mono ?_;rintro e v3 ⟨rfl,hv3⟩;have P3:=qq (P2.out.trans (hv3.mono P2.out.size));clear x0 x1 x2 x3 x4 x5 x6 x7 x8 x9 z0 z1 z2 z3 z4 z5' z6 z7 z8 z9 hv3;go_wp2_with fail;go_meet;exact⟨rfl,P3.out⟩
      case rest=>
        obtain⟨rfl,hbe⟩:=hcut;have F2:=qq (F1.out.fresh hbe);have Q2:=qq (Q1.out.trans (hbe.mono Q1.out.size));clear hbe F1 Q1;obtain⟨ib,hib⟩:=bool_of (OkSch b∧InstE b t);obtain⟨ia,hia⟩:=bool_of (OkSch a∧InstE a t);have Hib:=qq hib;have Hia:=qq hia;clear hib hia;obtain⟨y0,y1,y2,y3,y4,y5,y6,y7,y8,y9⟩:=box_cells (F2.out).kb;have u0:=(F2.out).kt.cell 0;have u1:=(F2.out).kt.cell 1;have u2:=(F2.out).kt.cell 2;have u3:=(F2.out).kt.cell 3;have u4:=(F2.out).kt.cell 4;simp only[qc,qb,qa] at u0 u1 u2 u3 u4;go_wp2_with fail;refine(instG_b Hib.out _ At mt ct _ ⟨Ab,mb,cb,B1,b1,B2,b2,B3,b3,rfl,F2.out.rb⟩ F2.out.rt).mono ?_;rintro e w4 ⟨X1,X2,rfl,hb4⟩;have F4:=qq (F2.out.fresh hb4);have Q4:=qq (Q2.out.trans (hb4.mono Q2.out.size));clear y0 y1 y2 y3 y4 y5 y6 y7 y8 y9 u0 u1 u2 u3 u4 hb4 F2 Q2;obtain⟨x0,x1,x2,x3,x4,x5,x6,x7,x8,x9⟩:=box_cells (F4.out).ka;have u0:=(F4.out).kt.cell 0;have u1:=(F4.out).kt.cell 1;have u2:=(F4.out).kt.cell 2;have u3:=(F4.out).kt.cell 3;have u4:=(F4.out).kt.cell 4;simp only[qc,qb,qa] at u0 u1 u2 u3 u4;go_wp2_with fail;refine(instG_b Hia.out _ At mt ct _ ⟨Aa,ma,ca,A1,a1,A2,a2,A3,a3,rfl,F4.out.ra⟩ F4.out.rt).mono ?_;rintro e w5 ⟨X3,X4,rfl,hb5⟩;have F5:=qq (F4.out.fresh hb5);have Q5:=qq (Q4.out.trans (hb5.mono Q4.out.size));clear x0 x1 x2 x3 x4 x5 x6 x7 x8 x9 u0 u1 u2 u3 u4 hb5 F4 Q4;obtain⟨x0,x1,x2,x3,x4,x5,x6,x7,x8,x9⟩:=box_cells (F5.out).ka;obtain⟨y0,y1,y2,y3,y4,y5,y6,y7,y8,y9⟩:=box_cells (F5.out).kb;go_wp2_with fail;refine(schMore_b Hab.out _ _ w5 ⟨Aa,ma,ca,A1,a1,A2,a2,A3,a3,rfl,F5.out.ra⟩ ⟨Ab,mb,cb,B1,b1,B2,b2,B3,b3,rfl,F5.out.rb⟩).mono ?_;rintro e w6 ⟨rfl,hb6⟩;have Q6:=qq (Q5.out.trans (hb6.mono Q5.out.size));clear x0 x1 x2 x3 x4 x5 x6 x7 x8 x9 y0 y1 y2 y3 y4 y5 y6 y7 y8 y9 hb6
        cases qab with
        | false=>
          go_wp2_with fail
          refine(works8_any w6 (Ht.out.below Q6.out)).mono ?_; rintro e w9 ⟨rfl,hb9⟩
          have Hb9:=qq (Q6.out.trans (hb9.mono Q6.out.size));clear hb9;go_wp2_with fail;go_ret;exact⟨rfl,Hb9.out⟩
        | true=>
          cases ib with
          | false=>
            go_wp2_with fail
            refine(works8_any w6 (Ht.out.below Q6.out)).mono ?_; rintro e w9 ⟨rfl,hb9⟩
            have Hb9:=qq (Q6.out.trans (hb9.mono Q6.out.size));clear hb9;go_wp2_with fail;go_ret;exact⟨rfl,Hb9.out⟩
          | true=>
            obtain rfl:ia=true:=Hia.out.2 ⟨(Hab.out.1 (by simp)).ha,(Hab.out.1 (by simp)).inst (Hib.out.1 (by simp)).2⟩;go_wp2_with fail
            refine(works8_any w6 (Ht.out.below Q6.out)).mono ?_; rintro e w9 ⟨rfl,hb9⟩
            have Hb9:=qq (Q6.out.trans (hb9.mono Q6.out.size));clear hb9;go_wp2_with fail;go_ret;exact⟨rfl,Hb9.out⟩
namespace schemeOrder
set_option maxRecDepth 100000 in
theorem lifted (os:Os) (started:os.Started) (H:Type) (enc:TypeId × Value→H):
    ReturnsInHanded {} Tryz.checked os 8 .any (fun w args=>(Rows.schemeOrderSpec.pre enc Tryz.prog Tryz.f8 [] false w args∧laidMetH Tryz.prog laid3 w)∧sizedMet enc Tryz.prog Tryz.f8 (OpenSpec.ofChange Rows.schemeOrderSpec) false w args) (Rows.schemeOrderSpec.post enc Tryz.prog Tryz.f8 false true false false):=by
  refine returnsInHanded_of_change_and (C:=Tryz.checked) (X:=fun w _=>laidMetH Tryz.prog laid3 w) (fun _ _ _ hh h=>h.of_heap hh) own started (by kernel_rfl) Tryz.func8
    (ChangeSpec.witness_shaped (enc:=enc) (C:=Tryz.checked) (os:=os) (X:=fun w _=>laidMetH Tryz.prog laid3 w) false (World.doorLaid Tryz.prog 400 os) #[.agg #[.int .i64 0,.int .i64 0,.int .u8 0,.int .i64 0,.int .i64 0,.int .u8 0,.slice none 0 0,.slice none 0 0,.slice none 0 0,.slice none 0 0],.agg #[.int .i64 0,.int .i64 0,.int .u8 0,.int .i64 0,.int .i64 0,.int .u8 0,.slice none 0 0,.slice none 0 0,.slice none 0 0,.slice none 0 0],.agg #[.int .i64 0,.int .i64 0,.int .u8 0,.int .i64 0,.int .i64 0,.int .u8 0,.slice none 0 0,.slice none 0 0,.slice none 0 0,.slice none 0 0],.agg #[.int .u8 0,.int .i64 0,.int .i64 0,.int .u8 0,.slice none 0 0]] 8 rfl (World.shaped_of_RefB (by kernel_rfl) (by kernel_rfl)) (by kernel_rfl) (by kernel_rfl) (by kernel_rfl) (door_met os _)) ?_
  intro W base args ds gs before hval0 hW hcnd hsz0 hL _
  have hsz:(DataW.weightsEach Tryz.prog (Tryz.f8.params.toList++Rows.schemeOrderSpec.plain.varTypes Tryz.prog) (ds++gs)).all (· ≤ reachBytes)=true:=hsz0
  have hval:∀ (j:Nat) t v,Tryz.f8.params[j]?=some t→args[j]?=some v→Value.okWide Tryz.prog W .any base t v:=hval0;have hW':=hW;obtain⟨p,q,hA0,hV,rfl,hfz,hnd⟩:=hW;have hA:DataW.TrodAll enc Tryz.prog W 0 (fun _=>true) true Tryz.f8.params.toList args.toList ds p:=hA0;rw[Tryz.params8] at hA hval hsz;obtain⟨v0,vs0,d0,ds0,p0,q0,hargs,rfl,rfl,h0,r_0⟩:=trodAll_cons hA;obtain⟨v1,vs1,d1,ds1,p1,q1,rfl,rfl,rfl,h1,r_1⟩:=trodAll_cons r_0;obtain⟨v2,vs2,d2,ds2,p2,q2,rfl,rfl,rfl,h2,r_2⟩:=trodAll_cons r_1;obtain⟨v3,vs3,d3,ds3,p3,q3,rfl,rfl,rfl,h3,r_3⟩:=trodAll_cons r_2;obtain⟨rfl,rfl,rfl⟩:=trodAll_nil r_3
  obtain rfl:args=#[v0,v1,v2,v3]:=by cases args; simp_all
  obtain⟨rfl,rfl⟩:=trodVars_none hV;have w0:=rd_sch (hval 0 40 v0 rfl rfl) h0 (light_of hsz (j:=0) rfl rfl);have w1:=rd_sch (hval 1 40 v1 rfl rfl) h1 (light_of hsz (j:=1) rfl rfl);have w2:=rd_sch (hval 2 40 v2 rfl rfl) h2 (light_of hsz (j:=2) rfl rfl);have w3:=rd_ty (hval 3 27 v3 rfl rfl) h3;refine(walk_schemeOrder (w:=W) (tab_of_laid hL) v0 w0 v1 w1 v2 w2 v3 w3).mono fun e W' ⟨he,bel⟩=>?_;subst he;exact⟨_,rfl,law_post laidOut (by kernel_rfl) rfl rfl Tryz.underlying4 hW' rfl rfl rfl bel⟩
theorem over:Rows.schemeOrderRow.holds Tryz.pinned (OpenSpec.ofChange Rows.schemeOrderSpec):=
  OpenClaim.holds_of_wide 8 Tryz.f8 rfl rfl rfl rfl rfl rfl rfl ⟨rfl,rfl,rfl,rfl,rfl⟩ rfl rfl rfl rfl rfl (by kernel_rfl) Tryz.func8 (by kernel_rfl)
    (of_decide_eq_true (by kernel_rfl)) (by unfold Func.isWrapper; first | (rw[if_pos (by decide +kernel)]; kernel_rfl) | (rw[if_neg (by decide +kernel)]; exact⟨rfl,rfl⟩))
    (fun os started H enc _=>lifted os started H enc)
theorem card:Rows.SchemeOrderCardSaid:=
  Claim7.holds_tied_plain_at .later [] [.data,.data,.data] true Rows.schemeOrderCard.stood.harness false
    over (fun _ h=>by cases h) (by kernel_rfl) (fun _ h=>by cases h) schemeOrder_row_tie rfl ⟨rfl,rfl⟩ (by kernel_rfl) rfl
    (fun f fn hf hfn=>by
      obtain rfl:f=8:=Option.some.inj ((show Tryz.prog.funcNamed "usufruct/usufructlaw08.SchemeOrder"=some 8 by kernel_rfl).symm.trans hf) |>.symm
      obtain rfl:fn=Tryz.f8:=(Option.some.inj (Tryz.func8.symm.trans hfn)).symm
      exact⟨by kernel_rfl,fun j t ht=>by
        rw[Tryz.params8] at ht
        have hm:t∈[40,27]:=by simpa using Array.mem_of_getElem? ht
        have hall:([40,27].all fun u=>!Tryz.prog.wantsStandIn u)=true:=by kernel_rfl
        exact(show Tryz.prog.wantsStandIn t=false by simpa using List.all_eq_true.1 hall t hm)⟩)
    (by kernel_rfl)
theorem proved:Rows.SchemeOrderCardSaid:=card
#print axioms proved
end schemeOrder
end Go.Proofs.YtdmakpmbknindaaGreatDoor
