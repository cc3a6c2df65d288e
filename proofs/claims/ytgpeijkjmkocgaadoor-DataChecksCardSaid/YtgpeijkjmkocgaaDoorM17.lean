import Derived.Test.YtgpeijkjmkocgaaDoorM16
set_option linter.unusedVariables false
set_option linter.unusedSimpArgs false
set_option maxRecDepth 100000
namespace Go.Proofs.YtgpeijkjmkocgaaDoor
open Go.RowKit
theorem given1_any (k:Int) (A:Option Addr) (m c:Nat) (w:World):Calls Tryd.prog 44 #[.int .u8 k,.slice A m c] w fun e w'=>e=.returned (.agg #[.int .u8 k,.int .i64 0,.int .i64 0,.int .u8 0,.slice A m c])∧Below w.heap.size w w':=by
 have hb:=below_box (w:=w) (Obj.cells #[.int .u8 0,.int .i64 0,.int .i64 0,.int .u8 0,.slice none 0 0] 63);have hk:=blk_new w #[.int .u8 0,.int .i64 0,.int .i64 0,.int .u8 0,.slice none 0 0] 63;obtain⟨W,hW⟩:∃ x,w.alloc (Obj.cells #[.int .u8 0,.int .i64 0,.int .i64 0,.int .u8 0,.slice none 0 0] 63)=x:=⟨_,rfl⟩;rw[hW] at hb hk;have x0:=hk.cell 0;have x1:=hk.cell 1;have x2:=hk.cell 2;have x3:=hk.cell 3;have x4:=hk.cell 4;have f0:=hk.frozen 0;have f1:=hk.frozen 1;have f2:=hk.frozen 2;have f3:=hk.frozen 3;have f4:=hk.frozen 4;simp only[qc,qb,qa] at x0 x1 x2 x3 x4;have hs:=((((hk.set_ 0 (.int .u8 k)).set_ 1 (.int .i64 0)).set_ 2 (.int .i64 0)).set_ 3 (.int .u8 0)).set_ 4 (.slice A m c);have hb9:=((((hb.setCell (p:=⟨w.heap.size,0,none⟩) (Nat.le_refl _) (.int .u8 k)).setCell (p:=⟨w.heap.size,1,none⟩) (Nat.le_refl _) (.int .i64 0)).setCell (p:=⟨w.heap.size,2,none⟩) (Nat.le_refl _) (.int .i64 0)).setCell (p:=⟨w.heap.size,3,none⟩) (Nat.le_refl _) (.int .u8 0)).setCell (p:=⟨w.heap.size,4,none⟩) (Nat.le_refl _) (.slice A m c);have HW:=qq hW;have HS:=qq hs;have HB:=qq hb9;clear hW hs hb9 hb hk
 go_enter Tryd.func44,Tryd.ntmps44
 go_upto_region 1 with fail;rw[HW.out];go_wp2_with fail;have hs:=HS.out;have hb9:=HB.out;generalize (((((W.setCell ⟨w.heap.size,0,none⟩ (.int .u8 k)).setCell ⟨w.heap.size,1,none⟩ (.int .i64 0)).setCell ⟨w.heap.size,2,none⟩ (.int .i64 0)).setCell ⟨w.heap.size,3,none⟩ (.int .u8 0)).setCell ⟨w.heap.size,4,none⟩ (.slice A m c))=W9 at hs hb9 ⊢;replace hs:Blk W9 w.heap.size 63 #[.int .u8 k,.int .i64 0,.int .i64 0,.int .u8 0,.slice A m c]:=hs;have d0:W9.cell? ⟨w.heap.size,0,none⟩=some (.int .u8 k):=hs.cell 0;have d1:W9.cell? ⟨w.heap.size,1,none⟩=some (.int .i64 0):=hs.cell 1;have d2:W9.cell? ⟨w.heap.size,2,none⟩=some (.int .i64 0):=hs.cell 2;have d3:W9.cell? ⟨w.heap.size,3,none⟩=some (.int .u8 0):=hs.cell 3;have d4:W9.cell? ⟨w.heap.size,4,none⟩=some (.slice A m c):=hs.cell 4;exact bodyPost_ret (v:=.agg #[.int .u8 k,.int .i64 0,.int .i64 0,.int .u8 0,.slice A m c]) (by simp[results,Tryd.results44,go_sem,d0,d1,d2,d3,d4]) rfl ⟨rfl,hb9⟩
theorem given2_any (t:TyD) (A:Option Addr) (m c:Nat) (w:World):Calls Tryd.prog 45 #[.agg #[.int .u8 t.k,.int .i64 t.n,.int .i64 t.v,.int .u8 t.c,.slice A m c]] w fun e w'=>e=.returned (.agg #[.int .u8 1,.int .u8 t.k,.int .i64 t.n,.int .i64 t.v,.int .u8 t.c,.slice A m c])∧Below w.heap.size w w':=by
 have hb1:=below_box (w:=w) (Obj.cells #[.int .u8 t.k,.int .i64 t.n,.int .i64 t.v,.int .u8 t.c,.slice A m c] 63);have hk1:=blk_new w #[.int .u8 t.k,.int .i64 t.n,.int .i64 t.v,.int .u8 t.c,.slice A m c] 63;obtain⟨W1,hW1⟩:∃ x,w.alloc (Obj.cells #[.int .u8 t.k,.int .i64 t.n,.int .i64 t.v,.int .u8 t.c,.slice A m c] 63)=x:=⟨_,rfl⟩
 have hs1:W1.heap.size=w.heap.size+1:=by rw[← hW1]; simp
 rw[hW1] at hb1 hk1;have hb2:=below_box (w:=W1) (Obj.cells #[.int .u8 0,.int .u8 0,.int .i64 0,.int .i64 0,.int .u8 0,.slice none 0 0] 109);have hk:=blk_new W1 #[.int .u8 0,.int .u8 0,.int .i64 0,.int .i64 0,.int .u8 0,.slice none 0 0] 109;obtain⟨W,hW⟩:∃ x,W1.alloc (Obj.cells #[.int .u8 0,.int .u8 0,.int .i64 0,.int .i64 0,.int .u8 0,.slice none 0 0] 109)=x:=⟨_,rfl⟩;rw[hW] at hb2 hk;rw[hs1] at hk;have hk1:=hk1.below hb2 hk1.lt
 have hle:w.heap.size≤w.heap.size+1:=by omega
 have hb:=hb1.trans (hb2.mono hb1.size);rw[← hW1] at hW;have y0:=hk1.cell 0;have y1:=hk1.cell 1;have y2:=hk1.cell 2;have y3:=hk1.cell 3;have y4:=hk1.cell 4;have x0:=hk.cell 0;have x1:=hk.cell 1;have x2:=hk.cell 2;have x3:=hk.cell 3;have x4:=hk.cell 4;have x5:=hk.cell 5;have f0:=hk.frozen 0;have f1:=hk.frozen 1;have f2:=hk.frozen 2;have f3:=hk.frozen 3;have f4:=hk.frozen 4;have f5:=hk.frozen 5;simp only[qc,qb,qa] at x0 x1 x2 x3 x4 x5 y0 y1 y2 y3 y4;have hs:=((((((hk.set_ 0 (.int .u8 1)).set_ 1 (.int .u8 t.k)).set_ 2 (.int .i64 t.n)).set_ 3 (.int .i64 t.v)).set_ 4 (.int .u8 t.c)).set_ 5 (.slice A m c));have hb9:=((((((hb.setCell (p:=⟨w.heap.size+1,0,none⟩) hle (.int .u8 1)).setCell (p:=⟨w.heap.size+1,1,none⟩) hle (.int .u8 t.k)).setCell (p:=⟨w.heap.size+1,2,none⟩) hle (.int .i64 t.n)).setCell (p:=⟨w.heap.size+1,3,none⟩) hle (.int .i64 t.v)).setCell (p:=⟨w.heap.size+1,4,none⟩) hle (.int .u8 t.c)).setCell (p:=⟨w.heap.size+1,5,none⟩) hle (.slice A m c));have HW:=qq hW;have HS:=qq hs;have HB:=qq hb9;clear hW hs hb9 hb hk hW1 hs1 hb1 hb2 hk1
 go_enter Tryd.func45,Tryd.ntmps45
 go_upto_region 1 with fail;rw[HW.out];go_wp2_with fail;have hs:=HS.out;have hb9:=HB.out;generalize ((((((W.setCell ⟨w.heap.size+1,0,none⟩ (.int .u8 1)).setCell ⟨w.heap.size+1,1,none⟩ (.int .u8 t.k)).setCell ⟨w.heap.size+1,2,none⟩ (.int .i64 t.n)).setCell ⟨w.heap.size+1,3,none⟩ (.int .i64 t.v)).setCell ⟨w.heap.size+1,4,none⟩ (.int .u8 t.c)).setCell ⟨w.heap.size+1,5,none⟩ (.slice A m c))=W9 at hs hb9 ⊢;replace hs:Blk W9 (w.heap.size+1) 109 #[.int .u8 1,.int .u8 t.k,.int .i64 t.n,.int .i64 t.v,.int .u8 t.c,.slice A m c]:=hs;have d0:W9.cell? ⟨w.heap.size+1,0,none⟩=some (.int .u8 1):=hs.cell 0;have d1:W9.cell? ⟨w.heap.size+1,1,none⟩=some (.int .u8 t.k):=hs.cell 1;have d2:W9.cell? ⟨w.heap.size+1,2,none⟩=some (.int .i64 t.n):=hs.cell 2;have d3:W9.cell? ⟨w.heap.size+1,3,none⟩=some (.int .i64 t.v):=hs.cell 3;have d4:W9.cell? ⟨w.heap.size+1,4,none⟩=some (.int .u8 t.c):=hs.cell 4;have d5:W9.cell? ⟨w.heap.size+1,5,none⟩=some (.slice A m c):=hs.cell 5;exact bodyPost_ret (v:=.agg #[.int .u8 1,.int .u8 t.k,.int .i64 t.n,.int .i64 t.v,.int .u8 t.c,.slice A m c]) (by simp[results,Tryd.results45,go_sem,d0,d1,d2,d3,d4,d5]) rfl ⟨rfl,hb9⟩
theorem given3_any (t:TyD) (A:Option Addr) (m c:Nat) (w:World):Calls Tryd.prog 46 #[.agg #[.int .u8 t.k,.int .i64 t.n,.int .i64 t.v,.int .u8 t.c,.slice A m c]] w fun e w'=>e=.returned (.agg #[.int .u8 3,.int .u8 t.k,.int .i64 t.n,.int .i64 t.v,.int .u8 t.c,.slice A m c])∧Below w.heap.size w w':=by
 have hb1:=below_box (w:=w) (Obj.cells #[.int .u8 t.k,.int .i64 t.n,.int .i64 t.v,.int .u8 t.c,.slice A m c] 63);have hk1:=blk_new w #[.int .u8 t.k,.int .i64 t.n,.int .i64 t.v,.int .u8 t.c,.slice A m c] 63;obtain⟨W1,hW1⟩:∃ x,w.alloc (Obj.cells #[.int .u8 t.k,.int .i64 t.n,.int .i64 t.v,.int .u8 t.c,.slice A m c] 63)=x:=⟨_,rfl⟩
 have hs1:W1.heap.size=w.heap.size+1:=by rw[← hW1]; simp
 rw[hW1] at hb1 hk1;have hb2:=below_box (w:=W1) (Obj.cells #[.int .u8 0,.int .u8 0,.int .i64 0,.int .i64 0,.int .u8 0,.slice none 0 0] 109);have hk:=blk_new W1 #[.int .u8 0,.int .u8 0,.int .i64 0,.int .i64 0,.int .u8 0,.slice none 0 0] 109;obtain⟨W,hW⟩:∃ x,W1.alloc (Obj.cells #[.int .u8 0,.int .u8 0,.int .i64 0,.int .i64 0,.int .u8 0,.slice none 0 0] 109)=x:=⟨_,rfl⟩;rw[hW] at hb2 hk;rw[hs1] at hk;have hk1:=hk1.below hb2 hk1.lt
 have hle:w.heap.size≤w.heap.size+1:=by omega
 have hb:=hb1.trans (hb2.mono hb1.size);rw[← hW1] at hW;have y0:=hk1.cell 0;have y1:=hk1.cell 1;have y2:=hk1.cell 2;have y3:=hk1.cell 3;have y4:=hk1.cell 4;have x0:=hk.cell 0;have x1:=hk.cell 1;have x2:=hk.cell 2;have x3:=hk.cell 3;have x4:=hk.cell 4;have x5:=hk.cell 5;have f0:=hk.frozen 0;have f1:=hk.frozen 1;have f2:=hk.frozen 2;have f3:=hk.frozen 3;have f4:=hk.frozen 4;have f5:=hk.frozen 5;simp only[qc,qb,qa] at x0 x1 x2 x3 x4 x5 y0 y1 y2 y3 y4;have hs:=((((((hk.set_ 0 (.int .u8 3)).set_ 1 (.int .u8 t.k)).set_ 2 (.int .i64 t.n)).set_ 3 (.int .i64 t.v)).set_ 4 (.int .u8 t.c)).set_ 5 (.slice A m c));have hb9:=((((((hb.setCell (p:=⟨w.heap.size+1,0,none⟩) hle (.int .u8 3)).setCell (p:=⟨w.heap.size+1,1,none⟩) hle (.int .u8 t.k)).setCell (p:=⟨w.heap.size+1,2,none⟩) hle (.int .i64 t.n)).setCell (p:=⟨w.heap.size+1,3,none⟩) hle (.int .i64 t.v)).setCell (p:=⟨w.heap.size+1,4,none⟩) hle (.int .u8 t.c)).setCell (p:=⟨w.heap.size+1,5,none⟩) hle (.slice A m c));have HW:=qq hW;have HS:=qq hs;have HB:=qq hb9;clear hW hs hb9 hb hk hW1 hs1 hb1 hb2 hk1
 go_enter Tryd.func46,Tryd.ntmps46
 go_upto_region 1 with fail;rw[HW.out];go_wp2_with fail;have hs:=HS.out;have hb9:=HB.out;generalize ((((((W.setCell ⟨w.heap.size+1,0,none⟩ (.int .u8 3)).setCell ⟨w.heap.size+1,1,none⟩ (.int .u8 t.k)).setCell ⟨w.heap.size+1,2,none⟩ (.int .i64 t.n)).setCell ⟨w.heap.size+1,3,none⟩ (.int .i64 t.v)).setCell ⟨w.heap.size+1,4,none⟩ (.int .u8 t.c)).setCell ⟨w.heap.size+1,5,none⟩ (.slice A m c))=W9 at hs hb9 ⊢;replace hs:Blk W9 (w.heap.size+1) 109 #[.int .u8 3,.int .u8 t.k,.int .i64 t.n,.int .i64 t.v,.int .u8 t.c,.slice A m c]:=hs;have d0:W9.cell? ⟨w.heap.size+1,0,none⟩=some (.int .u8 3):=hs.cell 0;have d1:W9.cell? ⟨w.heap.size+1,1,none⟩=some (.int .u8 t.k):=hs.cell 1;have d2:W9.cell? ⟨w.heap.size+1,2,none⟩=some (.int .i64 t.n):=hs.cell 2;have d3:W9.cell? ⟨w.heap.size+1,3,none⟩=some (.int .i64 t.v):=hs.cell 3;have d4:W9.cell? ⟨w.heap.size+1,4,none⟩=some (.int .u8 t.c):=hs.cell 4;have d5:W9.cell? ⟨w.heap.size+1,5,none⟩=some (.slice A m c):=hs.cell 5;exact bodyPost_ret (v:=.agg #[.int .u8 3,.int .u8 t.k,.int .i64 t.n,.int .i64 t.v,.int .u8 t.c,.slice A m c]) (by simp[results,Tryd.results46,go_sem,d0,d1,d2,d3,d4,d5]) rfl ⟨rfl,hb9⟩
def leafT (k n:Int):TyD:=.mk k n 0 0 []
def gvD:List DataD:=[⟨⟨#[66,111,111,108]⟩,0,[]⟩,⟨⟨#[85,110,105,116]⟩,0,[]⟩,⟨⟨#[80,97,105,114]⟩,2,[]⟩,⟨⟨#[76,105,115,116]⟩,1,[]⟩,⟨⟨#[79,112,101,110,101,100]⟩,0,[]⟩,⟨⟨#[82,101,97,100]⟩,0,[]⟩,⟨⟨#[71,111,116]⟩,1,[]⟩,⟨⟨#[83,105,122,101,100]⟩,1,[]⟩,⟨⟨#[87,114,111,116,101]⟩,0,[]⟩]
def gvC:List (ByteArray × Nat × List (Int × TyD)):=[(⟨#[70,97,108,115,101]⟩,0,[]),
 (⟨#[84,114,117,101]⟩,0,[]),
 (⟨#[85,110,105,116]⟩,1,[]),
 (⟨#[80,97,105,114]⟩,2,[(1,(leafT 1 0)),(1,(leafT 1 1))]),
 (⟨#[78,105,108]⟩,3,[]),
 (⟨#[67,111,110,115]⟩,3,[(1,(leafT 1 0)),(1,(.mk 8 3 0 0 [(leafT 1 0)]))]),
 (⟨#[89,101,115]⟩,4,[(1,(leafT 5 0)),(1,(leafT 4 0))]),
 (⟨#[78,111]⟩,4,[(1,(leafT 4 0))]),
 (⟨#[76,105,110,101]⟩,5,[(3,(leafT 3 0)),(1,(leafT 5 0))]),
 (⟨#[69,110,100]⟩,5,[(1,(leafT 5 0))]),
 (⟨#[84,111,114,110]⟩,5,[(1,(leafT 5 0))]),
 (⟨#[71,111,116]⟩,6,[(1,(.mk 6 0 0 0 [(leafT 1 0)])),(3,(leafT 1 0))]),
 (⟨#[83,105,122,101,100]⟩,7,[(1,(.mk 6 0 0 0 [(leafT 1 0)])),(3,(leafT 2 0))]),
 (⟨#[68,111,110,101]⟩,8,[(1,(leafT 5 0))]),
 (⟨#[70,97,105,108]⟩,8,[(1,(leafT 5 0))])]
def gvAdd (s:SigD) (c:ByteArray × Nat × List (Int × TyD)):SigD:=addCon s c.2.1 ⟨c.1,c.2.1,c.2.2.map Prod.snd,c.2.2.map Prod.fst⟩
def gv (k:Nat):SigD:=(gvC.take k).foldl gvAdd ⟨gvD,[]⟩
def givenS:SigD:=gv 15
theorem gv_step {k:Nat} {c:ByteArray × Nat × List (Int × TyD)} (h:gvC[k]?=some c):gv (k+1)=gvAdd (gv k) c:=by
 have hk:k<gvC.length:=(List.getElem?_eq_some_iff.1 h).1;have e:gvC[k]=c:=(List.getElem?_eq_some_iff.1 h).2;unfold gv;rw[List.take_succ_eq_append_getElem hk,List.foldl_append,e];rfl
theorem gv_datas (k:Nat):(gv k).datas.length=9:=by
 have:∀ (l:List (ByteArray × Nat × List (Int × TyD))) (s:SigD),(l.foldl gvAdd s).datas.length=s.datas.length:=by
  intro l
  induction l with
  | nil=>intro s; rfl
  | cons c l ih=>
    intro s;rw[List.foldl_cons,ih];simp[gvAdd,addCon]
 unfold gv;rw[this];rfl
theorem gv_cons (k:Nat):(gv k).cons.length≤15:=by
 have:∀ (l:List (ByteArray × Nat × List (Int × TyD))) (s:SigD),(l.foldl gvAdd s).cons.length=s.cons.length+l.length:=by
  intro l
  induction l with
  | nil=>intro s; rfl
  | cons c l ih=>
    intro s;rw[List.foldl_cons,ih,List.length_cons];show(s.cons++[_]).length+l.length=_;rw[List.length_append,List.length_singleton];omega
 unfold gv;rw[this,List.length_take];show 0+min k 15≤15;omega
theorem gv_nums (k:Nat):∀ x∈(gv k).datas,x.cons.length≤15:=by
 have:∀ (l:List (ByteArray × Nat × List (Int × TyD))) (s:SigD) (m:Nat),(∀ x∈s.datas,x.cons.length≤m)→∀ x∈(l.foldl gvAdd s).datas,x.cons.length≤m+l.length:=by
  intro l
  induction l with
  | nil=>intro s m h; exact h
  | cons c l ih=>
    intro s m h
    rw[List.foldl_cons,List.length_cons,show m+(l.length+1)=m+1+l.length from by omega]
    refine ih _ _ fun x hx=>?_
    obtain⟨i,hi,rfl⟩:=List.getElem_of_mem (show x∈s.datas.modify c.2.1 (fun d => { d with cons:=d.cons++[(s.cons.length:Int)] }) from hx)
    have hi':i<s.datas.length:=by simpa using hi
    have h0:=h _ (List.getElem_mem hi');rw[List.getElem_modify]
    split
    · show(s.datas[i].cons++[_]).length≤_
      rw[List.length_append,List.length_singleton];omega
    · omega
 have h:=this (gvC.take k) ⟨gvD,[]⟩ 0 (by decide);intro x hx;have h1:=h x hx
 have h2:(gvC.take k).length≤15:=by rw[List.length_take]; show min k 15≤15; omega
 omega
structure GvM (wb:World) (g r:Nat) (s:SigD) (vd vc:Value) (vs:List Value) (w:World):Prop where
 blk:Blk w g 91 (mkC vd vc diagZ)
 sig:SigM w wb.heap.size (fun b=>b=g∨b≤r) s vd vc vs
 but:But g wb w
 gl:g<wb.heap.size
 rl:r<wb.heap.size
section
variable {wb w w1:World} {g r:Nat} {s:SigD} {vd vc:Value} {vs:List Value}
theorem GvM.below (h:GvM wb g r s vd vc vs w) (hb:Below w.heap.size w w1):GvM wb g r s vd vc vs w1:=⟨h.blk.below hb h.blk.lt,h.sig.below hb,h.but.then hb,h.gl,h.rl⟩
theorem SigM.rows {B:Nat} {R:Nat→Prop} (h:SigM w B R s vd vc vs) {b:Nat} (hb:RowB vd vc vs b):B≤b∧b<w.heap.size:=by
 rcases hb with e | e | ⟨v,hv,e⟩
 · exact own_lt h.od e
 · exact h.oc.lt' e
 · exact h.rowLt hv e
theorem SigM.weak {B:Nat} {R R':Nat→Prop} (h:SigM w B R s vd vc vs) (hR:∀ b,b<w.heap.size→R' b→R b):SigM w B R' s vd vc vs:=by
 refine⟨h.len,h.od,h.oi,?_,h.sdc,h.sd,h.sc,h.sep⟩;obtain⟨h0,cs,h1,h2⟩:=h.oc;exact⟨h0,cs,h1,h2.keep (fun b hb=>⟨hb.1,hb.2.1,fun q=>hb.2.2 (q.elim (fun q=>Or.inl (hR b hb.1 q)) Or.inr)⟩) fun _ _=>rfl⟩
theorem own_base {B B':Nat} (hB:B'≤B) {e:TypeId} {size:Nat} {v:Value} {n:Nat} {us:List Value} (h:w.ownsRow B e size v n us):w.ownsRow B' e size v n us:=by
 refine⟨h.1,?_⟩
 rcases h.2 with q | ⟨g,cap,cur,q1,q2,q3⟩
 · exact Or.inl q
 · exact Or.inr ⟨g,cap,cur,q1,Nat.le_trans hB q2,q3⟩
theorem SigM.base {B B':Nat} {R:Nat→Prop} (h:SigM w B R s vd vc vs) (hB:B'≤B):SigM w B' R s vd vc vs:=by
 refine⟨h.len,own_base hB h.od,fun j hj hj'=>own_base hB (h.oi j hj hj'),?_,h.sdc,h.sd,h.sc,h.sep⟩;obtain⟨h0,cs,h1,h2⟩:=h.oc;exact⟨h0,cs,own_base hB h1,h2⟩
theorem GvM.no (h:GvM wb g r s vd vc vs w):¬ RowB vd vc vs g:=fun e=>by
 have:=(h.sig.rows e).1;have:=h.gl;omega
theorem GvM.butS (h:GvM wb g r s vd vc vs w) {vd' vc':Value} {vs':List Value} {s':SigD} (hb:Below w.heap.size w w1) {w':World} (hk:Blk w' g 91 (mkC vd' vc' diagZ)) (hs:SigM w' wb.heap.size (fun b=>b=g∨b≤r) s' vd' vc' vs') (hf:ButS g (RowB vd vc vs) w1 w'):GvM wb g r s' vd' vc' vs' w':=by
 refine⟨hk,hs,?_,h.gl,h.rl⟩;have h1:=h.but.then hb;refine⟨hf.os.trans h1.os,hf.tape.trans h1.tape,hf.output.trans h1.output,Nat.le_trans h1.size hf.size,fun k hk hne=>?_⟩;refine(hf.block k (Nat.lt_of_lt_of_le hk h1.size) hne fun e=>?_).trans (h1.block k hk hne);have:=(h.sig.rows e).1;omega
end
def GvK (wb:World) (g r k:Nat) (w:World):Prop:=∃ vd vc vs,GvM wb g r (gv k) vd vc vs w
def GvDt (wb:World) (g r k:Nat) (w:World):Prop:=∃ vd vc vs,GvM wb g r ⟨gvD.take k,[]⟩ vd vc vs w
theorem GvK.below {wb w w1:World} {g r k:Nat} (h:GvK wb g r k w) (hb:Below w.heap.size w w1):GvK wb g r k w1:=by
 obtain⟨vd,vc,vs,h⟩:=h;exact⟨vd,vc,vs,h.below hb⟩
def GvS (wb:World) (g r B:Nat) (w:World):Nat→Prop:=fun b=>b<w.heap.size∧(b≠g∧r<b)∧(b<wb.heap.size∨B≤b)
theorem con_gv (wb:World) (g r k n:Nat) (name:ByteArray) (fs:List (Int × TyD)) (Af:Option Addr) (nf cf:Nat) (w w1:World) (hc:gvC[k]?=some (name,n,fs)) (hn:n<9) (h:GvK wb g r k w) (hb:Below w.heap.size w w1) (hf:Sl w1 (GvS wb g r w.heap.size w1) encFt 6 fs Af nf cf) (hl:nf≤1000):
  Calls Tryd.prog 48 #[.pointer (some ⟨g,0,none⟩),.int .i64 n,.string name,.slice Af nf cf] w1 fun e w'=>e=.returned (.tuple #[])∧GvK wb g r (k+1) w':=by
 obtain⟨vd,vc,vs,h⟩:=h;have h1:=h.below hb;have hsz:=h.but.size
 refine(con_any g wb.heap.size (fun b=>b=g∨b≤r) (gv k) vd vc vs diagZ n name fs Af nf cf w1 h1.blk h1.sig h1.no (Or.inl rfl) (fun b e=>by
  have:=h1.blk.lt;have:=h1.rl;have:=h1.but.size
  rcases e with e | e <;> omega) (hf.mono fun b hb'=>?_) (by rw[gv_datas]; exact hn) h1.but.size (by have:=gv_cons k; omega) (fun x hx=>by have:=gv_nums k x hx; omega) (by omega) (by rw[gv_datas]; omega)).mono ?_
 · obtain⟨q1,q2,q3⟩:=hb'
   have hrow:¬ RowB vd vc vs b:=fun e=>by
    have:=h.sig.rows e;omega
   refine⟨q1,fun e=>?_,fun e=>hrow (Or.inr (Or.inl e.symm))⟩
   rcases e with e | e | e
   · rcases e with e | e
     · exact q2.1 e
     · have:=q2.2; omega
   · exact hrow (Or.inl e)
   · exact hrow (Or.inr (Or.inr e))
 · rintro e w' ⟨rfl,vc',vn,hk,hs,hf',_⟩
   refine⟨rfl,vd,vc',vs.set n vn,?_⟩;rw[gv_step hc];exact h.butS hb hk hs hf'
theorem data_gv (wb:World) (g r k:Nat) (name:ByteArray) (params:Int) (w:World) (hc:gvD[k]?=some ⟨name,params,[]⟩) (h:GvDt wb g r k w):
  Calls Tryd.prog 47 #[.pointer (some ⟨g,0,none⟩),.string name,.int .i64 params] w fun e w'=>e=.returned (.tuple #[])∧GvDt wb g r (k+1) w':=by
 obtain⟨vd,vc,vs,h⟩:=h;have hk:k<gvD.length:=(List.getElem?_eq_some_iff.1 hc).1;have e0:gvD[k]=⟨name,params,[]⟩:=(List.getElem?_eq_some_iff.1 hc).2
 refine(data_anyS g wb.heap.size (fun b=>b=g∨b≤r) ⟨gvD.take k,[]⟩ vd vc vs diagZ name params w h.blk h.sig h.no (Or.inl rfl) (by show(gvD.take k).length≤_; rw[List.length_take]; have:gvD.length=9:=rfl; omega) h.but.size).mono ?_
 rintro e w' ⟨rfl,vd',hk',hs,hf,_⟩;refine⟨rfl,vd',vc,vs++[.slice none 0 0],?_⟩;rw[List.take_succ_eq_append_getElem hk,e0];exact h.butS (Below.refl _ _) hk' hs hf
section
variable {w:World} {S:Nat→Prop}
theorem sl_blk {X:Type} {enc:X→List Cel} {k m:Nat} {xs:List X} {b:Nat} {t:TypeId} {us:Array Value} (hk:Blk w b t us) (hS:S b) (hv:CelsV w S (xs.flatMap enc) us.toList) (hm:xs.length=m) (hc:m≤1000000):Sl w S enc k xs (some ⟨b,0,none⟩) m m:=
 ⟨hm,Nat.le_refl _,by unfold maxLen; omega,fun _=>⟨b,0,rfl,hS,hv.in_ fun j u hj=>by
  rw[Nat.zero_add,hk.cell]
  simpa using hj⟩⟩
theorem celV_ty {k n v c:Int} {ks:List TyD} {A:Option Addr} {m cp:Nat} (h:Sl w S encT 5 ks A m cp):CelsV w S (encT (.mk k n v c ks)) [.int .u8 k,.int .i64 n,.int .i64 v,.int .u8 c,.slice A m cp]:=by
 rw[encT_eq];exact⟨celIn_v.2 rfl,celIn_v.2 rfl,celIn_v.2 rfl,celIn_v.2 rfl,(sl_iff encT_len (by omega)).2 ⟨A,m,cp,rfl,h⟩,trivial⟩
theorem celV_leaf {k n:Int}:CelsV w S (encT (leafT k n)) [.int .u8 k,.int .i64 n,.int .i64 0,.int .u8 0,.slice none 0 0]:=celV_ty Sl.nil
theorem celV_ft {m:Int} {t:TyD} {us:List Value} (h:CelsV w S (encT t) us):CelsV w S (encFt (m,t)) (.int .u8 m :: us):=⟨celIn_v.2 rfl,h⟩
theorem celV_one {X:Type} {enc:X→List Cel} {x:X} {us:List Value} (h:CelsV w S (enc x) us):CelsV w S ([x].flatMap enc) us:=by
 simp only[List.flatMap_cons,List.flatMap_nil,List.append_nil];exact h
theorem celV_two {X:Type} {enc:X→List Cel} {x y:X} {us vs:List Value} (h:CelsV w S (enc x) us) (h2:CelsV w S (enc y) vs):CelsV w S ([x,y].flatMap enc) (us++vs):=by
 simp only[List.flatMap_cons,List.flatMap_nil,List.append_nil];exact h.append h2
end
theorem box5 {w:World} {b:Nat} {T:TypeId} {u0 u1 u2 u3 u4:Value} (h:Blk w b T #[u0,u1,u2,u3,u4]):w.cell? ⟨b,0,none⟩=some u0∧w.cell? ⟨b,1,none⟩=some u1∧w.cell? ⟨b,2,none⟩=some u2∧w.cell? ⟨b,3,none⟩=some u3∧w.cell? ⟨b,4,none⟩=some u4:=⟨h.cell 0,h.cell 1,h.cell 2,h.cell 3,h.cell 4⟩
theorem GvK.box {wb w:World} {g r k b:Nat} {T:TypeId} {cs:Array Value} (h:GvK wb g r k w) (hk:Blk wb b T cs) (hne:b≠g):Blk w b T cs:=by
 obtain⟨vd,vc,vs,h⟩:=h;exact hk.but h.but hne
theorem GvK.size {wb w:World} {g r k:Nat} (h:GvK wb g r k w):wb.heap.size≤w.heap.size:=by
 obtain⟨vd,vc,vs,h⟩:=h;exact h.but.size
theorem GvK.gl {wb w:World} {g r k:Nat} (h:GvK wb g r k w):g<wb.heap.size:=by
 obtain⟨vd,vc,vs,h⟩:=h;exact h.gl
theorem GvK.rl {wb w:World} {g r k:Nat} (h:GvK wb g r k w):r<wb.heap.size:=by
 obtain⟨vd,vc,vs,h⟩:=h;exact h.rl
theorem GvS.new {wb w w1:World} {g r k b:Nat} (h:GvK wb g r k w) (hb:w.heap.size≤b) (hl:b<w1.heap.size):GvS wb g r w.heap.size w1 b:=by
 have:=h.size;have:=h.gl;have:=h.rl
 exact⟨hl,⟨by omega,by omega⟩,Or.inr hb⟩
theorem GvS.old {wb w w1:World} {g r k b:Nat} (h:GvK wb g r k w) (hw:w.heap.size≤w1.heap.size) (hb:b<wb.heap.size) (hne:b≠g) (hnr:r<b):GvS wb g r w.heap.size w1 b:=by
 have:=h.size
 exact⟨by omega,⟨hne,hnr⟩,Or.inl hb⟩
def tyA (k:Int) (sl:Value):Array Value:=#[.int .u8 k,.int .i64 0,.int .i64 0,.int .u8 0,sl]
def V3 (bl:Nat→Nat):Nat→Value
 | 0=>.func (.func 44) #[] #[]
 | 1=>.agg (tyA 5 (.slice none 0 0))
 | 2=>.func (.func 44) #[] #[]
 | 3=>.agg (tyA 4 (.slice none 0 0))
 | 4=>.func (.func 44) #[] #[]
 | 5=>.agg (tyA 1 (.slice none 0 0))
 | 6=>.slice (some ⟨bl 6,0,none⟩) 1 1
 | 7=>.agg (tyA 6 (.slice (some ⟨bl 6,0,none⟩) 1 1))
 | 8=>.pointer (some ⟨bl 8,0,none⟩)
 | 9=>.pointer (some ⟨bl 9,0,none⟩)
 | 10=>.pointer (some ⟨bl 10,0,none⟩)
 | _=>undef
def C3 (f:Nat→Bool) (bl:Nat→Nat):Nat→Array Value
 | 6=>tyA 1 (.slice none 0 0)
 | 8=>if f 11 then tyA 5 (.slice none 0 0) else tyA 0 (.slice none 0 0)
 | 9=>if f 12 then tyA 4 (.slice none 0 0) else tyA 0 (.slice none 0 0)
 | 10=>if f 13 then tyA 6 (.slice (some ⟨bl 6,0,none⟩) 1 1) else tyA 0 (.slice none 0 0)
 | _=>#[]
def I3:Nat→Bool
 | 6=>true
 | 8=>true
 | 9=>true
 | 10=>true
 | _=>false
def D3:List Nat:=[15,16,17,18,19,20,21,22,4,5,6]
def J3 (v0 v3:Value) (pa:Nat) (W:World) (f:Nat→Bool) (a:Act) (w:World):Prop:=
 ∃ bl:Nat→Nat,FixJ [(0,v0),(1,.func (.func 44) #[] #[]),(2,.pointer (some ⟨pa,0,none⟩)),(3,v3)] 137 a∧SlotJ D3 f (V3 bl) a∧Bxs W.heap.size w 63 I3 f bl (C3 f bl)∧Below W.heap.size W w∧(f 7=true→f 6=true)∧((f 11=true∨f 12=true∨f 13=true)→f 6=true∧f 7=true∧f 8=true∧f 9=true∧f 10=true)
theorem J3.start {v0 v3:Value} {pa:Nat} {W:World} {a:Act} (h:FixJ [(0,v0),(1,.func (.func 44) #[] #[]),(2,.pointer (some ⟨pa,0,none⟩)),(3,v3)] 137 a):J3 v0 v3 pa W (fun _=>false) a W.drew:=
 ⟨fun _=>0,h,fun _ _ _ h=>Bool.noConfusion h,⟨fun _ _ h=>Bool.noConfusion h,fun _ _ _ _ h=>Bool.noConfusion h⟩,Below.drew (Below.refl _ _),fun h=>Bool.noConfusion h,fun h=>by rcases h with h | h | h <;> exact Bool.noConfusion h⟩
section
variable {v0 v3:Value} {pa:Nat} {W w w':World} {f:Nat→Bool} {a:Act}
theorem J3.value (h:J3 v0 v3 pa W f a w) (i d:Nat) (v:Value) (hi:D3[i]?=some d) (hd:d<137) (hd4:4≤d) (hI:I3 i=false) (hv:∀ bl,SlotJ D3 f (V3 bl) a→V3 bl i=v) (hb:Below w.heap.size w w') (h7:i=7→f 6=true) (h6:i≠6) (hi11:i<11):J3 v0 v3 pa W (fun j=>j==i || f j) (a.put (some d) v) w':=by
 obtain⟨bl,hfx,hsl,hbx,hbe,h76,h13⟩:=h;refine⟨bl,hfx.put d v ?_,hsl.put hfx.1 (by decide) i d v hi hd (hv bl hsl) (fun _ _ _=>rfl),?_,hbe.trans (hb.mono hbe.size),fun h=>?_,fun h=>?_⟩
 · simp only[List.all_cons,List.all_nil,Bool.and_true,Bool.and_eq_true,bne_iff_ne,ne_eq]
   omega
 · refine(hbx.below hb).on i hI fun k hk hf=>?_
   have e11:(11==i || f 11)=f 11:=by rw[show(11==i)=false from by simpa using (by omega:¬ 11=i)]; rfl
   have e12:(12==i || f 12)=f 12:=by rw[show(12==i)=false from by simpa using (by omega:¬ 12=i)]; rfl
   have e13:(13==i || f 13)=f 13:=by rw[show(13==i)=false from by simpa using (by omega:¬ 13=i)]; rfl
   unfold C3;simp only[e11,e12,e13]
 · have e6:(6==i || f 6)=f 6:=by rw[show(6==i)=false from by simpa using (by omega:¬ 6=i)]; rfl
   simp only[e6]
   rcases Bool.or_eq_true _ _ ▸ h with q | q
   · exact h7 (Eq.symm (by simpa using q))
   · exact h76 q
 · have e11:(11==i || f 11)=f 11:=by rw[show(11==i)=false from by simpa using (by omega:¬ 11=i)]; rfl
   have e12:(12==i || f 12)=f 12:=by rw[show(12==i)=false from by simpa using (by omega:¬ 12=i)]; rfl
   have e13:(13==i || f 13)=f 13:=by rw[show(13==i)=false from by simpa using (by omega:¬ 13=i)]; rfl
   simp only[e11,e12,e13] at h;obtain⟨q1,q2,q3,q4,q5⟩:=h13 h;simp only[q1,q2,q3,q4,q5,Bool.or_true,and_self]
theorem J3.block (h:J3 v0 v3 pa W f a w) (i d:Nat) (cs:Array Value) (mk:Nat→Value) (hi:D3[i]?=some d) (hd:d<137) (hd4:4≤d) (hi8:i=6∨i=8∨i=9∨i=10) (hfi:f i=false) (hno:f 11=false∧f 12=false∧f 13=false) (hc:∀ bl,C3 f bl i=cs) (hv:∀ bl,V3 bl i=mk (bl i)):J3 v0 v3 pa W (fun j=>j==i || f j) (a.put (some d) (mk w.heap.size)) (w.alloc (Obj.cells cs 63)):=by
 obtain⟨bl,hfx,hsl,hbx,hbe,h76,h13⟩:=h;have hb:=below_box (w:=w) (Obj.cells cs 63);have hbl:∀ k,k≠i→(fun k=>if k=i then w.heap.size else bl k) k=bl k:=fun k hk=>if_neg hk;have hbi:(fun k=>if k=i then w.heap.size else bl k) i=w.heap.size:=if_pos rfl
 have e11:(11==i || f 11)=f 11:=by rw[show(11==i)=false from by simpa using (by omega:¬ 11=i)]; rfl
 have e12:(12==i || f 12)=f 12:=by rw[show(12==i)=false from by simpa using (by omega:¬ 12=i)]; rfl
 have e13:(13==i || f 13)=f 13:=by rw[show(13==i)=false from by simpa using (by omega:¬ 13=i)]; rfl
 refine⟨fun k=>if k=i then w.heap.size else bl k,hfx.put d _ ?_,hsl.put hfx.1 (by decide) i d _ hi hd (by rw[hv]; simp) (fun k hk hf=>?_),hbx.new i hbe.size cs ?_ (fun k hk hI hf=>?_) hbi hbl,hbe.trans (hb.mono hbe.size),fun h=>?_,fun h=>?_⟩
 · simp only[List.all_cons,List.all_nil,Bool.and_true,Bool.and_eq_true,bne_iff_ne,ne_eq]
   omega
 · have h6:k=7→i≠6:=fun e e2=>by subst e; subst e2; rw[h76 hf] at hfi; cases hfi
   unfold V3
   split <;> (first | rfl | skip)
   · rw[hbl 6 (fun e=>hk (e ▸ rfl))]
   · rw[hbl 6 (fun e=>h6 rfl e.symm)]
   · rw[hbl 8 (fun e=>hk (e ▸ rfl))]
   · rw[hbl 9 (fun e=>hk (e ▸ rfl))]
   · rw[hbl 10 (fun e=>hk (e ▸ rfl))]
 · rw[← hc (fun k=>if k=i then w.heap.size else bl k)]
   unfold C3;simp only[e11,e12,e13]
 · unfold C3
   simp only[e11,e12,e13];simp only[hno.2.2,Bool.false_eq_true,if_false]
 · by_cases q:i=6
   · subst q; rfl
   · have e7:(7==i || f 7)=f 7:=by rw[show(7==i)=false from by simpa using (by omega:¬ 7=i)]; rfl
     simp only[e7] at h;simp only[h76 h,Bool.or_true]
 · simp only[e11,e12,e13] at h
   simp[hno.1,hno.2.1,hno.2.2] at h
theorem J3.store (h:J3 v0 v3 pa W f a w) (i j:Nat) (hij:(i=11∧j=8)∨(i=12∧j=9)∨(i=13∧j=10)) (hf:f j=true) (hal:f 6=true∧f 7=true∧f 8=true∧f 9=true∧f 10=true) (hw:∀ bl,SlotJ D3 f (V3 bl) a→Bxs W.heap.size w 63 I3 f bl (C3 f bl)→w'.heap.size=w.heap.size∧w'.os=w.os∧w'.tape=w.tape∧w'.output=w.output∧Blk w' (bl j) 63 (C3 (fun k=>k==i || f k) bl j)∧∀ b,b≠bl j→w'.heap[b]?=w.heap[b]?):J3 v0 v3 pa W (fun j=>j==i || f j) (a.put none undef) w':=by
 obtain⟨bl,hfx,hsl,hbx,hbe,h76,h13⟩:=h;obtain⟨q1,q2,q3,q4,q5,q6⟩:=hw bl hsl hbx
 have hIj:I3 j=true:=by rcases hij with h | h | h <;> (rw[h.2]; rfl)
 have hIi:I3 i=false:=by rcases hij with h | h | h <;> (rw[h.1]; rfl)
 have hj:=(hbx.blk j hIj hf).1
 have hct:∀ k,k≠j→I3 k=true→f k=true→C3 (fun k=>k==i || f k) bl k=C3 f bl k:=fun k hk hI _=>by
  unfold I3 at hI;unfold C3
  rcases hij with ⟨rfl,rfl⟩ | ⟨rfl,rfl⟩ | ⟨rfl,rfl⟩ <;> split <;> first | rfl | exact absurd rfl hk
 refine⟨bl,hfx.none _,hsl.none i _ (by rcases hij with h | h | h <;> (rw[h.1]; decide)) (fun _ _=>rfl),?_,⟨q2.trans hbe.os,q3.trans hbe.tape,q4.trans hbe.output,by rw[q1]; exact hbe.size,fun k hk=>(q6 k (by omega)).trans (hbe.block k hk)⟩,fun h=>?_,fun _=>by simp only[hal.1,hal.2.1,hal.2.2.1,hal.2.2.2.1,hal.2.2.2.2,Bool.or_true,and_self]⟩
 · exact(hbx.set j hIj hf q5 q6 hct).on i hIi fun _ _ _=>rfl
 · simp only[hal.1,Bool.or_true]
theorem J3.no (h:J3 v0 v3 pa W f a w) {i:Nat} (hf:f i=false) (hi:i=6∨i=8∨i=9∨i=10):f 11=false∧f 12=false∧f 13=false:=by
 obtain⟨bl,_,_,_,_,_,h13⟩:=h
 have:¬ (f 11=true∨f 12=true∨f 13=true):=fun q=>by
  obtain⟨q1,q2,q3,q4,q5⟩:=h13 q
  rcases hi with e | e | e | e
  · rw[e,q1] at hf; cases hf
  · rw[e,q3] at hf; cases hf
  · rw[e,q4] at hf; cases hf
  · rw[e,q5] at hf; cases hf
 simpa[not_or] using this
theorem J3.al (h:J3 v0 v3 pa W f a w) (h11:f 11=true):f 6=true∧f 7=true∧f 8=true∧f 9=true∧f 10=true:=by
 obtain⟨bl,_,_,_,_,_,h13⟩:=h;exact h13 (Or.inl h11)
theorem J3.al7 (h:J3 v0 v3 pa W f a w) (h7:f 7=true) (h8:f 8=true) (h9:f 9=true) (h10:f 10=true):f 6=true∧f 7=true∧f 8=true∧f 9=true∧f 10=true:=by
 obtain⟨bl,_,_,_,_,h76,_⟩:=h;exact⟨h76 h7,h7,h8,h9,h10⟩
theorem J3.slot (h:J3 v0 v3 pa W f a w) (i d:Nat) (v:Value) (hi:D3[i]?=some d) (hf:f i=true) (hv:∀ bl,V3 bl i=v):a.tmps[d]?=some v:=by
 obtain⟨bl,_,hsl,_⟩:=h;rw[hsl i d hi hf,hv]
theorem store_five {b:Nat} {T:TypeId} {u0 u1 u2 u3 u4:Value} (v0 v1 v2 v3 v4:Value) {w':World} (h:Blk w b T #[u0,u1,u2,u3,u4]) (hw:((((w.setCell ⟨b,0,none⟩ v0).setCell ⟨b,1,none⟩ v1).setCell ⟨b,2,none⟩ v2).setCell ⟨b,3,none⟩ v3).setCell ⟨b,4,none⟩ v4=w'):
  w'.heap.size=w.heap.size∧w'.os=w.os∧w'.tape=w.tape∧w'.output=w.output∧Blk w' b T #[v0,v1,v2,v3,v4]∧∀ c,c≠b→w'.heap[c]?=w.heap[c]?:=by
 subst hw;have hb:=(((((Below.refl 0 w).setCell (p:=⟨b,0,none⟩) (Nat.zero_le _) v0).setCell (p:=⟨b,1,none⟩) (Nat.zero_le _) v1).setCell (p:=⟨b,2,none⟩) (Nat.zero_le _) v2).setCell (p:=⟨b,3,none⟩) (Nat.zero_le _) v3).setCell (p:=⟨b,4,none⟩) (Nat.zero_le _) v4
 refine⟨by simp only[World.size_setCell],hb.os,hb.tape,hb.output,((((h.set_ 0 v0).set_ 1 v1).set_ 2 v2).set_ 3 v3).set_ 4 v4,fun c hc=>?_⟩
 exact(Below.heap_setCell _ _ _ _ hc).trans ((Below.heap_setCell _ _ _ _ hc).trans ((Below.heap_setCell _ _ _ _ hc).trans ((Below.heap_setCell _ _ _ _ hc).trans (Below.heap_setCell _ _ _ _ hc))))
end
end Go.Proofs.YtgpeijkjmkocgaaDoor
