import Derived.Test.YtdmakpmbknindaaGreatDoorM4
set_option linter.unusedVariables false
set_option linter.unusedSimpArgs false
set_option maxRecDepth 100000
namespace Go.Proofs.YtdmakpmbknindaaGreatDoor
open Go.RowKit Go.Conc
def RowC (w:World) (g:Nat) (t:TypeId) (k:IntKind) (xs:List Int):Prop:=
 ∃ cs:Array Value,Blk w g t cs∧xs.length≤cs.size∧∀ (i:Nat) (h:i<xs.length),cs[i]?=some (.int k xs[i])
section
variable {w w':World} {g g':Nat} {t:TypeId} {k:IntKind} {xs:List Int}
theorem RowC.lt (h:RowC w g t k xs):g<w.heap.size:=by obtain⟨cs,hb,_⟩:=h; exact hb.lt
theorem RowC.cell (h:RowC w g t k xs) (i:Nat) (hi:i<xs.length):w.cell? ⟨g,i,none⟩=some (.int k xs[i]):=by
 obtain⟨cs,hb,_,hc⟩:=h;rw[Blk.cell hb,hc i hi]
theorem RowC.frozen (h:RowC w g t k xs) (i:Nat):w.frozen? ⟨g,i,none⟩=false:=by obtain⟨cs,hb,_⟩:=h; exact hb.frozen i
theorem RowC.set_ (h:RowC w g t k xs) (i:Nat) (hi:i<xs.length) (u:Int):RowC (w.setCell ⟨g,i,none⟩ (.int k u)) g t k (xs.set i u):=by
 obtain⟨cs,hb,hl,hc⟩:=h
 refine⟨_,hb.set_ i _,by simpa using hl,fun j hj=>?_⟩
 rw[List.length_set] at hj;rw[Array.getElem?_setIfInBounds,List.getElem_set]
 by_cases e:i=j
 · subst e; rw[if_pos rfl,if_pos rfl,if_pos (by omega)]
 · rw[if_neg e,if_neg e]; exact hc j hj
theorem RowC.other (h:RowC w g t k xs) (hg:g'≠g) (i:Nat) (u:Value):RowC (w.setCell ⟨g',i,none⟩ u) g t k xs:=by
 obtain⟨cs,hb,hl⟩:=h; exact⟨cs,hb.other hg i u,hl⟩
theorem RowC.below {B:Nat} (h:RowC w g t k xs) (hb:Below B w w') (hg:g<B):RowC w' g t k xs:=by
 obtain⟨cs,hb',hl⟩:=h; exact⟨cs,hb'.below hb hg,hl⟩
theorem RowC.off {S:List Nat} (h:RowC w g t k xs) (hb:Off S w w') (hg:g∉S):RowC w' g t k xs:=by
 obtain⟨cs,hb',hl⟩:=h; exact⟨cs,hb'.off hb hg,hl⟩
theorem RowC.rd (h:RowC w g t k xs) {n c:Nat} (hn:xs.length=n) (hc:n≤c) (hm:c≤maxLen):RdI k w w.heap.size (some ⟨g,0,none⟩) n c xs:=by
 refine⟨⟨by simpa using hn,fun _=>⟨g,0,rfl,h.lt,fun j u hu=>?_⟩⟩,hc,hm⟩
 obtain⟨hj,rfl⟩:=List.getElem?_eq_some_iff.1 hu;rw[Nat.zero_add,h.cell j (by simpa using hj)];simp
end
theorem set_blk {w:World} {b b':Nat} (h:b≠b') {i j:Nat} {u v:Value} (hc:w.cell? ⟨b',j,none⟩=some v):(w.setCell ⟨b,i,none⟩ u).cell? ⟨b',j,none⟩=some v:=
 (World.cell?_setCell_other w ⟨b,i,none⟩ ⟨b',j,none⟩ u (fun e=>h (by cases e; rfl))).trans hc
theorem raise_yes (g:Nat) (Al:Option Addr) (nl cl:Nat) (xs:List IneqD) (I Y n ci cy:Nat) (is why:List Int) (i k:Nat) (lv lc xc:Int) (w:World) (h0:w.cell? ⟨g,0,none⟩=some (.slice Al nl cl)) (h2:w.cell? ⟨g,2,none⟩=some (.slice (some ⟨I,0,none⟩) n ci)) (h3:w.cell? ⟨g,3,none⟩=some (.slice (some ⟨Y,0,none⟩) n cy)) (hx:IneqsV w w.heap.size Al nl cl xs)
 (hI:RowC w I 22 .u8 is) (hY:RowC w Y 3 .i64 why) (his:is.length=n) (hwhy:why.length=n) (hci:n≤ci) (hci2:ci≤maxLen) (hne:I≠Y) (hgI:I≠g) (hgY:Y≠g) (hg:g<w.heap.size)
 (hi:xs[i]?=some ⟨lv,lc,xc,(k:Int)⟩) (hlv:lc=0→0≤lv∧lv<n) (hkn:k<n) (hyes:raiseB is ⟨lv,lc,xc,(k:Int)⟩=true):
 Calls Tryz.prog 130 #[.pointer (some ⟨g,0,none⟩),.int .i64 i] w fun e w'=>e=.returned (.bool true)∧RowC w' I 22 .u8 (is.set k (leftL is ⟨lv,lc,xc,(k:Int)⟩))∧RowC w' Y 3 .i64 (why.set k i)∧Off [I,Y] w w':=by
 have hmx:=@run_max2 Tryz.prog;obtain⟨hil,hxi⟩:=List.getElem?_eq_some_iff.1 hi;have hr:=hI.rd his hci hci2;have hl:=hx.len
 have hin:i<nl:=by omega
 have hnl63:nl≤9223372036854775807:=Nat.le_trans hx.2.1 hx.2.2.1;have hn63:n≤9223372036854775807:=Nat.le_trans hr.2.1 hr.2.2;obtain⟨bl,offl,rfl,hbl,hcl⟩:=hx.at_ (by omega);obtain⟨e0,e1,e2,e3⟩:=hcl i hil;rw[hxi] at e0 e1 e2 e3;dsimp only at e0 e1 e2 e3
 have i1:(0:Int)≤(i:Int):=by omega
 have i2:(i:Int)<nl:=by omega
 have hkl:k<is.length:=by omega
 have hky:k<why.length:=by omega
 have hbI:I≠w.heap.size:=Nat.ne_of_lt hI.lt;have hbY:Y≠w.heap.size:=Nat.ne_of_lt hY.lt;have hbx:=below_box (w:=w) (Obj.cells #[.int .i64 lv,.int .u8 lc,.int .u8 xc,.int .i64 (k:Int)] 70);have hX:=blk_new w #[.int .i64 lv,.int .u8 lc,.int .u8 xc,.int .i64 (k:Int)] 70;have hr1:=(hr.below hbx).more hbx.size;have hI1:=hI.below hbx hI.lt;have hY1:=hY.below hbx hY.lt;have y2:(w.alloc (Obj.cells #[.int .i64 lv,.int .u8 lc,.int .u8 xc,.int .i64 (k:Int)] 70)).cell? ⟨g,2,none⟩=some (.slice (some ⟨I,0,none⟩) n ci):=(World.cell?_alloc_lt _ _ ⟨g,2,none⟩ hg).trans h2;have y3:(w.alloc (Obj.cells #[.int .i64 lv,.int .u8 lc,.int .u8 xc,.int .i64 (k:Int)] 70)).cell? ⟨g,3,none⟩=some (.slice (some ⟨Y,0,none⟩) n cy):=(World.cell?_alloc_lt _ _ ⟨g,3,none⟩ hg).trans h3
 have hg1:g<(w.alloc (Obj.cells #[.int .i64 lv,.int .u8 lc,.int .u8 xc,.int .i64 (k:Int)] 70)).heap.size:=by simp; omega
 obtain⟨L,hL⟩:∃ L,leftL is ⟨lv,lc,xc,(k:Int)⟩=L:=⟨_,rfl⟩;rw[hL];have HL:=qq hL;have Hlv:=qq hlv
 have hgd:is.getD (k:Int).toNat 0=is[k]:=by rw[Int.toNat_natCast]; simp[List.getD,hkl]
 have hnn:max xc is[k]<L:=by
  unfold raiseB at hyes;rw[Bool.and_eq_true,decide_eq_true_eq,decide_eq_true_eq] at hyes;have:=hyes.2;dsimp only at this;rw[hgd,hL] at this;exact this
 have q0:=hI1.cell k hkl;generalize is[k]=LL at q0 hnn
 have d0:decide ((k:Int)<0)=false:=by simp
 have d1:decide (L≤max xc LL)=false:=by simp; omega
 have k1:(0:Int)≤(k:Int):=by omega
 have k2:(k:Int)<n:=by omega
 have Hbx:=qq hbx;have Hr1:=qq hr1;have HX:=qq hX;have Hy2:=qq y2;have Hy3:=qq y3;have HI:=qq hI1;have HY:=qq hY1;have Hkl:=qq hkl;have Hky:=qq hky;clear hl hcl hxi hi hyes hlv hL hnn hr1 hr hX hbx hgd hI1 hY1 hI hY h2 h3 hx his hwhy y3 hkl hky
 go_enter Tryz.func130,Tryz.ntmps130
 go_wp2_with fail;generalize hW:w.alloc (Obj.cells #[.int .i64 lv,.int .u8 lc,.int .u8 xc,.int .i64 (k:Int)] 70)=w0 at y2 q0 hg1 Hr1 HX Hy2 Hy3 Hbx HI HY ⊢;clear hW;have x0:w0.cell? ⟨w.heap.size,0,none⟩=some (.int .i64 lv):=HX.out.cell 0;have x1:w0.cell? ⟨w.heap.size,1,none⟩=some (.int .u8 lc):=HX.out.cell 1;have x2:w0.cell? ⟨w.heap.size,2,none⟩=some (.int .u8 xc):=HX.out.cell 2;have x3:w0.cell? ⟨w.heap.size,3,none⟩=some (.int .i64 (k:Int)):=HX.out.cell 3;have kx0:=fun d os=>cell_regrown x0 d os;have kx1:=fun d os=>cell_regrown x1 d os;have kx2:=fun d os=>cell_regrown x2 d os;have kx3:=fun d os=>cell_regrown x3 d os;have ky2:=fun d os=>cell_regrown y2 d os;have kq0:=fun d os=>cell_regrown q0 d os;clear x0 x1 x2 x3 y2 q0
 have hq:∀ d os,Calls Tryz.prog 84 #[.pointer (some ⟨g,0,none⟩),.agg #[.int .i64 lv,.int .u8 lc,.int .u8 xc,.int .i64 (k:Int)]] («Sort».grow (redrawn w0 d) os) (fun e w'=>e=.returned (.int .u8 L)∧Below («Sort».grow (redrawn w0 d) os).heap.size («Sort».grow (redrawn w0 d) os) w'):=fun d os=>
  left_at (x:=⟨lv,lc,xc,(k:Int)⟩) HL.out (cell_regrown Hy2.out d os) ((Hr1.out.below (below_regrown w0 d os)).more (below_regrown w0 d os).size) (Nat.lt_of_lt_of_le hg1 (below_regrown w0 d os).size) Hlv.out
 replace hq:=qq hq;refine wp_region_quiet_below (by kernel_rfl) (by kernel_rfl) ?_
 repeat (go_big_quiet_step ((first | (go_at_call 84; exact Calls.regrown_of (hq.out _ _)))))
 refine wpQuiet_nil ?_;intro _ hw';obtain⟨⟨dq,osq⟩,hw''⟩:=hw';subst hw'';have hb1:=below_regrown w0 dq osq;clear kx0 kx1 kx2 kx3 ky2 kq0 hq;generalize «Sort».grow (redrawn w0 dq) osq=w1 at hb1 ⊢;have hX1:=HX.out.below hb1 HX.out.lt;have hr2:=(Hr1.out.below hb1).more hb1.size;have y2:w1.cell? ⟨g,2,none⟩=some (.slice (some ⟨I,0,none⟩) n ci):=(hb1.cell hg1).trans Hy2.out;have y3:w1.cell? ⟨g,3,none⟩=some (.slice (some ⟨Y,0,none⟩) n cy):=(hb1.cell hg1).trans Hy3.out;have hg2:g<w1.heap.size:=Nat.lt_of_lt_of_le hg1 hb1.size;have hI2:=HI.out.below hb1 HI.out.lt;have hY2:=HY.out.below hb1 HY.out.lt;have hbw:Below w.heap.size w w1:=Hbx.out.trans (hb1.mono Hbx.out.size);clear hb1 Hbx Hr1 HX Hy2 Hy3 HI HY hg1;clear w0;have x0:w1.cell? ⟨w.heap.size,0,none⟩=some (.int .i64 lv):=hX1.cell 0;have x1:w1.cell? ⟨w.heap.size,1,none⟩=some (.int .u8 lc):=hX1.cell 1;have x2:w1.cell? ⟨w.heap.size,2,none⟩=some (.int .u8 xc):=hX1.cell 2;have x3:w1.cell? ⟨w.heap.size,3,none⟩=some (.int .i64 (k:Int)):=hX1.cell 3;have hwl:w.heap.size<w1.heap.size:=hX1.lt;have Hr2:=qq hr2;have HI2:=qq hI2;have HY2:=qq hY2;have Hbw:=qq hbw;clear hr2 hI2 hY2 hbw hX1;have hne':¬ Y=I:=fun e=>hne e.symm;go_wp2_with fail
 go_region_held3 (fun w'=>w'.cell? ⟨g,2,none⟩=some (.slice (some ⟨I,0,none⟩) n ci)∧w'.cell? ⟨g,3,none⟩=some (.slice (some ⟨Y,0,none⟩) n cy)∧w'.cell? ⟨w.heap.size,0,none⟩=some (.int .i64 lv)∧w'.cell? ⟨w.heap.size,1,none⟩=some (.int .u8 lc)∧w'.cell? ⟨w.heap.size,2,none⟩=some (.int .u8 xc)∧w'.cell? ⟨w.heap.size,3,none⟩=some (.int .i64 (k:Int)))
  (first | go_keep | exact⟨y2,y3,x0,x1,x2,x3⟩ | exact⟨z2,z3,v0,v1,v2,v3⟩ | exact⟨set_blk hgI z2,set_blk hgI z3,set_blk hbI v0,set_blk hbI v1,set_blk hbI v2,set_blk hbI v3⟩ | exact⟨set_blk hgY z2,set_blk hgY z3,set_blk hbY v0,set_blk hbY v1,set_blk hbY v2,set_blk hbY v3⟩ | exact⟨set_blk hgY (set_blk hgI z2),set_blk hgY (set_blk hgI z3),set_blk hbY (set_blk hbI v0),set_blk hbY (set_blk hbI v1),set_blk hbY (set_blk hbI v2),set_blk hbY (set_blk hbI v3)⟩ | exact⟨set_blk hgI (set_blk hgY z2),set_blk hgI (set_blk hgY z3),set_blk hbI (set_blk hbY v0),set_blk hbI (set_blk hbY v1),set_blk hbI (set_blk hbY v2),set_blk hbI (set_blk hbY v3)⟩)
  ((go_at_call 84; refine(left_at (x:=⟨lv,lc,xc,(k:Int)⟩) (w:=w1.drew) HL.out y2 (Hr2.out.keep (w':=w1.drew) fun _ _=>rfl) hg2 Hlv.out).mono ?_; rintro e w5 ⟨rfl,hb5⟩;
    replace hb5:Below w1.heap.size w1 w5:=((Below.refl _ _).drew).trans hb5; have hI5:=HI2.out.below hb5 HI2.out.lt; have hY5:=HY2.out.below hb5 HY2.out.lt;
    have p0:=hI5.frozen k; have p1:=hY5.frozen k; have p2:=hI5.cell k Hkl.out; have p3:=hY5.cell k Hky.out;
    have z2:w5.cell? ⟨g,2,none⟩=some (.slice (some ⟨I,0,none⟩) n ci):=(hb5.cell (p:=⟨g,2,none⟩) hg2).trans y2; have z3:w5.cell? ⟨g,3,none⟩=some (.slice (some ⟨Y,0,none⟩) n cy):=(hb5.cell (p:=⟨g,3,none⟩) hg2).trans y3;
    have v0:w5.cell? ⟨w.heap.size,0,none⟩=some (.int .i64 lv):=(hb5.cell (p:=⟨w.heap.size,0,none⟩) hwl).trans x0; have v1:w5.cell? ⟨w.heap.size,1,none⟩=some (.int .u8 lc):=(hb5.cell (p:=⟨w.heap.size,1,none⟩) hwl).trans x1;
    have v2:w5.cell? ⟨w.heap.size,2,none⟩=some (.int .u8 xc):=(hb5.cell (p:=⟨w.heap.size,2,none⟩) hwl).trans x2; have v3:w5.cell? ⟨w.heap.size,3,none⟩=some (.int .i64 (k:Int)):=(hb5.cell (p:=⟨w.heap.size,3,none⟩) hwl).trans x3))
 have hfI:RowC ((w5.setCell ⟨I,k,none⟩ (.int .u8 L)).setCell ⟨Y,k,none⟩ (.int .i64 i)) I 22 .u8 (is.set k L):=(hI5.set_ k Hkl.out L).other (Ne.symm hne) k _;have hfY:RowC ((w5.setCell ⟨I,k,none⟩ (.int .u8 L)).setCell ⟨Y,k,none⟩ (.int .i64 i)) Y 3 .i64 (why.set k i):=(hY5.other hne k _).set_ k Hky.out i;have hfo:Off [I,Y] w ((w5.setCell ⟨I,k,none⟩ (.int .u8 L)).setCell ⟨Y,k,none⟩ (.int .i64 i)):=((Off.of_below (Hbw.out.trans (hb5.mono Hbw.out.size))).set (by simp) _ _).set (by simp) _ _;generalize (w5.setCell ⟨I,k,none⟩ (.int .u8 L)).setCell ⟨Y,k,none⟩ (.int .i64 i)=w9 at hfI hfY hfo ⊢;clear hI5 hY5 hb5 p0 p1 p2 p3 z2 z3 v0 v1 v2 v3;go_wp2_with fail;go_ret;exact⟨rfl,hfI,hfY,hfo⟩
end Go.Proofs.YtdmakpmbknindaaGreatDoor
namespace Go.Proofs.YtdmakpmbknindaaGreatDoor
open Go.RowKit Go.Conc
theorem ownsRow_block {w w':World} {base:Nat} {e:TypeId} {size:Nat} {v:Value} {n:Nat} {xs:List Value} (h:w.ownsRow base e size v n xs) (hb:∀ b,v.ownBlock=some b→w'.heap[b]?=w.heap[b]?):w'.ownsRow base e size v n xs:=by
 refine⟨h.1,?_⟩
 rcases h.2 with q | ⟨g,cap,cur,e1,e2,e3,e4⟩
 · exact Or.inl q
 · exact Or.inr ⟨g,cap,cur,e1,e2,by rw[hb g (by rw[e1]; rfl)]; exact e3,e4⟩
theorem ownsRow_lt {w:World} {base:Nat} {e:TypeId} {size:Nat} {v:Value} {n:Nat} {xs:List Value} (h:w.ownsRow base e size v n xs) {b:Nat} (hb:v.ownBlock=some b):base≤b∧b<w.heap.size:=by
 rcases h.2 with ⟨rfl,_⟩ | ⟨g,cap,cur,e1,e2,e3,e4⟩
 · cases hb
 · rw[e1] at hb
   cases hb
   exact⟨e2,(Array.getElem?_eq_some_iff.1 e3).1⟩
structure FromM (w:World) (F base:Nat) (vs:List Value) (fr:Nat→List Int):Prop where
 blk:Blk w F 30 vs.toArray
 low:F<base
 own:∀ j (h:j<vs.length),w.ownsRow base 3 1 vs[j] (fr j).length ((fr j).map (Value.int .i64))
 sep:∀ i j b (hi:i<vs.length) (hj:j<vs.length),vs[i].ownBlock=some b→vs[j].ownBlock=some b→i=j
section
variable {w w':World} {F base:Nat} {vs:List Value} {fr:Nat→List Int}
theorem FromM.off {S:List Nat} (h:FromM w F base vs fr) (ho:Off S w w') (hF:F∉S) (hS:∀ s∈S,s<base):FromM w' F base vs fr:=
 ⟨h.blk.off ho hF,h.low,fun j hj=>ownsRow_block (h.own j hj) fun b hb=>by
  have:=ownsRow_lt (h.own j hj) hb
  exact ho.block b this.2 fun e=>by have:=hS b e; omega,h.sep⟩
theorem FromM.cell (h:FromM w F base vs fr) (j:Nat) (hj:j<vs.length):w.cell? ⟨F,j,none⟩=some vs[j]:=by
 rw[Blk.cell h.blk];simp[hj]
theorem FromM.frozen (h:FromM w F base vs fr) (j:Nat):w.frozen? ⟨F,j,none⟩=false:=h.blk.frozen j
theorem FromM.row (h:FromM w F base vs fr) (j:Nat) (hj:j<vs.length):∃ A c,vs[j]=.slice A (fr j).length c∧RdI .i64 w w.heap.size A (fr j).length c (fr j):=by
 have ho:=h.own j hj;obtain⟨A,c,e⟩:=ownsRow_form ho;rw[e] at ho;exact⟨A,c,e,RdI.of_own ho⟩
theorem FromM.add (h:FromM w F base vs fr) {j:Nat} (hj:j<vs.length) {v':Value} {u:Int} (ho:w'.ownsRow base 3 1 v' ((fr j).length+1) ((fr j).map (Value.int .i64)++[.int .i64 u])) (hg:w.grownBy w' vs[j].ownBlock) (hn:v'.ownBlock=vs[j].ownBlock∨v'.ownBlock=some w.heap.size):
 FromM (w'.setCell ⟨F,j,none⟩ v') F base (vs.set j v') (fun k=>if k=j then fr j++[u] else fr k):=by
 have hFl:=h.blk.lt;refine⟨?_,h.low,fun k hk=>?_,fun i k b hi hk ei ek=>?_⟩
 · have:=(h.blk.grown hg (fun e=>by have:=ownsRow_lt (h.own j hj) e.symm; have:=h.low; omega)).set_ j v'
   simpa using this
 · have hk':k<vs.length:=by simpa using hk
   by_cases e:k=j
   · subst e
     rw[List.getElem_set,if_pos rfl];simp only[if_true];have:=ownsRow_setCell_below ho (a:=⟨F,k,none⟩) h.low v'
     simpa using this
   · rw[List.getElem_set,if_neg (fun q=>e q.symm)]
     simp only[if_neg e];have hold:=h.own k hk';refine ownsRow_setCell_below (ownsRow_block hold fun b hb=>?_) (a:=⟨F,j,none⟩) h.low v';have hlt:=ownsRow_lt hold hb;exact hg.block b hlt.2 fun e'=>e (h.sep k j b hk' hj hb e'.symm)
 · have hi':i<vs.length:=by simpa using hi
   have hk':k<vs.length:=by simpa using hk
   rw[List.getElem_set] at ei ek
   by_cases e1:j=i
   · by_cases e2:j=k
     · omega
     · rw[if_pos e1] at ei
       rw[if_neg e2] at ek
       exfalso
       rcases hn with q | q
       · rw[q] at ei
         exact e2 (h.sep j k b hj hk' ei ek)
       · rw[q] at ei
         have:=ownsRow_lt (h.own k hk') ek;simp at ei;omega
   · rw[if_neg e1] at ei
     by_cases e2:j=k
     · rw[if_pos e2] at ek
       exfalso
       rcases hn with q | q
       · rw[q] at ek
         exact e1 (h.sep j i b hj hi' ek ei)
       · rw[q] at ek
         have:=ownsRow_lt (h.own i hi') ei;simp at ek;omega
     · rw[if_neg e2] at ek
       exact h.sep i k b hi' hk' ei ek
end
end Go.Proofs.YtdmakpmbknindaaGreatDoor
namespace Go.Proofs.YtdmakpmbknindaaGreatDoor
theorem getD_set (l:List Int) (i j:Nat) (a d:Int) (hi:i<l.length):(l.set i a).getD j d=if i=j then a else l.getD j d:=by
 simp only[List.getD,List.getElem?_set]
 by_cases e:i=j
 · subst e; simp[hi]
 · simp[e]
def keepsL (is:List Int) (x:IneqD):Prop:=0≤x.r→leftL is x≤max x.c (is.getD x.r.toNat 0)
structure OverL (n:Nat) (x:IneqD):Prop where
 lv:x.lc=0→0≤x.lv∧x.lv<n
 r:x.r<n
 lc:x.lc≤3
structure SolL (xs:List IneqD) (low asg:List Int):Prop where
 len:asg.length=low.length
 low:∀ v,v<low.length→low.getD v 0≤asg.getD v 0
 keeps:∀ x∈xs,keepsL asg x
theorem raiseB_iff (is:List Int) (x:IneqD):raiseB is x=true↔0≤x.r∧max x.c (is.getD x.r.toNat 0)<leftL is x:=by
 unfold raiseB; simp
theorem raiseB_not (is:List Int) (x:IneqD) (h:raiseB is x=false):keepsL is x:=by
 intro hr;unfold raiseB at h;simp only[Bool.and_eq_false_iff,decide_eq_false_iff_not] at h;omega
def WhyL (xs:List IneqD) (low is why:List Int) (rank:Nat→Nat) (v:Nat):Prop:=
 (why.getD v (-1) = -1∧is.getD v 0=low.getD v 0) ∨
 ∃ (k:Nat) (x:IneqD),why.getD v (-1)=(k:Int)∧xs[k]?=some x∧x.r=(v:Int)∧x.c<is.getD v 0∧is.getD v 0≤leftL is x∧(x.lc=0→leftL is x=is.getD v 0→rank x.lv.toNat<rank v)
structure InvL (xs:List IneqD) (low is why:List Int):Prop where
 il:is.length=low.length
 wl:why.length=low.length
 le:∀ v,v<low.length→low.getD v 0≤is.getD v 0
 top:∀ v,v<low.length→is.getD v 0≤3
 rk:∃ (rank:Nat→Nat) (T:Nat),(∀ v,rank v≤T)∧∀ v,v<low.length→WhyL xs low is why rank v
 least:∀ asg,SolL xs low asg→∀ v,v<low.length→is.getD v 0≤asg.getD v 0
theorem InvL.start (xs:List IneqD) (low:List Int) (h3:∀ v,v<low.length→low.getD v 0≤3):InvL xs low low (List.replicate low.length (-1)):=
 ⟨rfl,by simp,fun _ _=>Int.le_refl _,h3,⟨fun _=>0,0,fun _=>Nat.le_refl _,fun v hv=>Or.inl ⟨by simp[List.getD,hv],rfl⟩⟩,fun asg h=>h.low⟩
theorem leftL_top {n:Nat} {x:IneqD} {is:List Int} (hx:OverL n x) (ht:∀ v,v<n→is.getD v 0≤3):leftL is x≤3:=by
 unfold leftL
 split
 · rename_i h; have:=hx.lv h; exact ht _ (by omega)
 · exact hx.lc
theorem leftL_set {is:List Int} {r:Nat} {L:Int} (y:IneqD) (hr:r<is.length):leftL (is.set r L) y=if y.lc=0∧r=y.lv.toNat then L else leftL is y:=by
 unfold leftL;rw[getD_set _ _ _ _ _ hr]
 by_cases h0:y.lc=0
 · by_cases h1:r=y.lv.toNat
   · simp[h0,h1]
   · simp[h0,h1]
 · simp[h0]
theorem InvL.raise {xs:List IneqD} {low is why:List Int} (h:InvL xs low is why) {i:Nat} {x:IneqD} (hi:xs[i]?=some x) (hx:OverL low.length x) (hy:raiseB is x=true):
 InvL xs low (is.set x.r.toNat (leftL is x)) (why.set x.r.toNat i):=by
 obtain⟨hr0,hlt⟩:=(raiseB_iff _ _).1 hy;obtain⟨lv,lc,c,r⟩:=x;dsimp only at *;obtain⟨k,rfl⟩:∃ k:Nat,r=(k:Int):=⟨r.toNat,(Int.toNat_of_nonneg hr0).symm⟩;rw[Int.toNat_natCast] at *
 have hk:k<low.length:=by have:=hx.r; dsimp only at this; omega
 have hki:k<is.length:=by rw[h.il]; exact hk
 have hkw:k<why.length:=by rw[h.wl]; exact hk
 generalize hL:leftL is ⟨lv,lc,c,(k:Int)⟩=L at *
 refine⟨by simp[h.il],by simp[h.wl],fun v hv=>?_,fun v hv=>?_,?_,fun asg ha v hv=>?_⟩
 · rw[getD_set _ _ _ _ _ hki]
   have:=h.le v hv
   split
   · rename_i e; subst e; omega
   · exact this
 · rw[getD_set _ _ _ _ _ hki]
   split
   · rw[← hL]; exact leftL_top hx h.top
   · exact h.top v hv
 · obtain⟨rank,T,hT,hW⟩:=h.rk
   refine⟨fun v=>if v=k then T+1 else rank v,T+1,fun v=>?_,fun v hv=>?_⟩
   · have:=hT v
     dsimp only
     split <;> omega
   · by_cases e:k=v
     · subst e
       refine Or.inr ⟨i,⟨lv,lc,c,(k:Int)⟩,?_,hi,rfl,?_,?_,?_⟩
       · rw[getD_set _ _ _ _ _ hkw,if_pos rfl]
       · rw[getD_set _ _ _ _ _ hki,if_pos rfl]; dsimp only; omega
       · rw[getD_set _ _ _ _ _ hki,if_pos rfl,leftL_set _ hki,hL]; split <;> omega
       · intro h0 _
         dsimp only at h0 ⊢
         have hne:lv.toNat≠k:=by
          intro e
          have:L=is.getD k 0:=by rw[← hL]; unfold leftL; dsimp only; rw[if_pos h0,e]
          omega
         rw[if_neg hne,if_pos rfl];have:=hT lv.toNat;omega
     · have hv':¬ v=k:=fun e'=>e e'.symm
       rcases hW v hv with ⟨a,b⟩ | ⟨j,y,a,b,c',d,f,g⟩
       · exact Or.inl ⟨by rw[getD_set _ _ _ _ _ hkw,if_neg e,a],by rw[getD_set _ _ _ _ _ hki,if_neg e,b]⟩
       · refine Or.inr ⟨j,y,by rw[getD_set _ _ _ _ _ hkw,if_neg e,a],b,c',by rw[getD_set _ _ _ _ _ hki,if_neg e]; exact d,?_,?_⟩
         · rw[getD_set _ _ _ _ _ hki,if_neg e,leftL_set _ hki]
           split
           · rename_i hh
             have:leftL is y=is.getD k 0:=by unfold leftL; rw[if_pos hh.1,← hh.2]
             omega
           · exact f
         · intro h0 hq
           rw[getD_set _ _ _ _ _ hki,if_neg e,leftL_set _ hki] at hq
           by_cases hh:k=y.lv.toNat
           · rw[if_pos ⟨h0,hh⟩] at hq
             have:leftL is y=is.getD k 0:=by unfold leftL; rw[if_pos h0,← hh]
             omega
           · rw[if_neg (fun z=>hh z.2)] at hq
             have:=g h0 hq;dsimp only;rw[if_neg (fun z=>hh z.symm),if_neg hv'];exact this
 · rw[getD_set _ _ _ _ _ hki]
   split
   · rename_i e
     subst e
     have hm:=ha.keeps _ (List.mem_of_getElem? hi) (by dsimp only; omega)
     dsimp only at hm;rw[Int.toNat_natCast] at hm
     have hle:L≤leftL asg ⟨lv,lc,c,(k:Int)⟩:=by
      rw[← hL];unfold leftL;dsimp only
      split
      · rename_i h0
        have:=hx.lv h0;dsimp only at this;exact h.least asg ha _ (by omega)
      · exact Int.le_refl _
     omega
   · exact h.least asg ha v hv
end Go.Proofs.YtdmakpmbknindaaGreatDoor
namespace Go.Proofs.YtdmakpmbknindaaGreatDoor
open Go.RowKit Go.Conc
structure Place where
 g:Nat
 F:Nat
 I:Nat
 Y:Nat
 gw:Nat
 W:Nat
 gt:Nat
 C:Nat
 B:Nat
 base:Nat
 n:Nat
 Al:Option Addr
 nl:Nat
 cl:Nat
 lowV:Value
 ci:Nat
 cy:Nat
 cf:Nat
structure Place.ok (p:Place):Prop where
 nd:[p.g,p.F,p.I,p.Y,p.gw,p.W,p.gt,p.C].Nodup
 lt:∀ b∈[p.g,p.F,p.I,p.Y,p.gw,p.W,p.gt,p.C],p.B≤b∧b<p.base
 n20:p.n≤1048576
 ci:p.n≤p.ci
 ci2:p.ci≤maxLen
 B:p.B≤p.base
structure RunSt (p:Place) (w0 w:World) (xs:List IneqD) (low is why:List Int) (vs:List Value) (fr:Nat→List Int) (flags:List Bool) (q:List Int):Prop where
 ok:p.ok
 s0:w.cell? ⟨p.g,0,none⟩=some (.slice p.Al p.nl p.cl)
 s2:w.cell? ⟨p.g,2,none⟩=some (.slice (some ⟨p.I,0,none⟩) p.n p.ci)
 s3:w.cell? ⟨p.g,3,none⟩=some (.slice (some ⟨p.Y,0,none⟩) p.n p.cy)
 s4:w.cell? ⟨p.g,4,none⟩=some (.slice (some ⟨p.F,0,none⟩) p.n p.cf)
 size:p.base≤w.heap.size
 xsM:IneqsV w p.B p.Al p.nl p.cl xs
 lowl:low.length=p.n
 rI:RowC w p.I 22 .u8 is
 rY:RowC w p.Y 3 .i64 why
 vl:vs.length=p.n
 frm:FromM w p.F p.base vs fr
 qs:QSt w p.gw p.W p.gt p.C p.n flags q
 inv:InvL xs low is why
 over:∀ x∈xs,OverL p.n x
 off:Off [p.I,p.Y,p.F,p.W,p.C] w0 w
theorem cell_off {S:List Nat} {w w':World} (h:Off S w w') {b i:Nat} {v:Value} (hc:w.cell? ⟨b,i,none⟩=some v) (hb:b∉S):w'.cell? ⟨b,i,none⟩=some v:=
 (World.cell?_of_block (h.block b (block_lt_of_cell hc) hb)).trans hc
theorem QSt.off {S:List Nat} {w w':World} {gw W gt C n:Nat} {flags:List Bool} {q:List Int} (h:QSt w gw W gt C n flags q) (ho:Off S w w') (h1:gw∉S) (h2:W∉S) (h3:gt∉S) (h4:C∉S):QSt w' gw W gt C n flags q:=by
 obtain⟨a,b,c,d,s,r,e⟩:=h
 exact⟨a,b.off ho h1,c.off ho h2,d.off ho h3,s,r,by rw[ho.block C (Array.getElem?_eq_some_iff.1 e).1 h4]; exact e⟩
section
variable {p:Place} {w0 w w':World} {xs:List IneqD} {low is why:List Int} {vs:List Value} {fr:Nat→List Int} {flags:List Bool} {q:List Int}
theorem Place.ok.off (h:p.ok):(p.g∉[p.I,p.Y]∧p.F∉[p.I,p.Y]∧p.gw∉[p.I,p.Y]∧p.W∉[p.I,p.Y]∧p.gt∉[p.I,p.Y]∧p.C∉[p.I,p.Y]∧p.I≠p.Y)∧(p.g∉[p.W,p.C]∧p.F∉[p.W,p.C]∧p.I∉[p.W,p.C]∧p.Y∉[p.W,p.C]):=by
 have:=h.nd;simp only[List.nodup_cons,qk,List.not_mem_nil,or_false,not_or] at this;simp only[qk,List.not_mem_nil,or_false,not_or];obtain⟨⟨a1,a2,a3,a4,a5,a6,a7⟩,⟨b1,b2,b3,b4,b5,b6⟩,⟨c1,c2,c3,c4,c5⟩,⟨d1,d2,d3,d4⟩,⟨e1,e2,e3⟩,⟨f1,f2⟩,g1,_⟩:=this;exact⟨⟨⟨a2,a3⟩,⟨b1,b2⟩,⟨Ne.symm c2,Ne.symm d1⟩,⟨Ne.symm c3,Ne.symm d2⟩,⟨Ne.symm c4,Ne.symm d3⟩,⟨Ne.symm c5,Ne.symm d4⟩,c1⟩,⟨a5,a7⟩,⟨b4,b6⟩,⟨c3,c5⟩,d2,d4⟩
theorem RunSt.below (h:RunSt p w0 w xs low is why vs fr flags q) (hb:Below w.heap.size w w'):RunSt p w0 w' xs low is why vs fr flags q:=by
 have ho:Off [] w w':=Off.of_below hb
 have n0:∀ b:Nat,b∉([]:List Nat):=fun b=>by simp
 exact⟨h.ok,cell_off ho h.s0 (n0 _),cell_off ho h.s2 (n0 _),cell_off ho h.s3 (n0 _),cell_off ho h.s4 (n0 _),Nat.le_trans h.size hb.size,h.xsM.below (hb.mono (Nat.le_trans h.ok.B h.size)),h.lowl,h.rI.off ho (n0 _),h.rY.off ho (n0 _),h.vl,h.frm.off ho (n0 _) (fun s hs=>by cases hs),h.qs.off ho (n0 _) (n0 _) (n0 _) (n0 _),h.inv,h.over,h.off.trans (ho.mono (by simp))⟩
theorem RunSt.il (h:RunSt p w0 w xs low is why vs fr flags q):is.length=p.n:=h.inv.il.trans h.lowl
theorem RunSt.lt (h:RunSt p w0 w xs low is why vs fr flags q) {b:Nat} (hb:b∈[p.g,p.F,p.I,p.Y,p.gw,p.W,p.gt,p.C]):b<w.heap.size:=Nat.lt_of_lt_of_le (h.ok.lt b hb).2 h.size
theorem RunSt.raised (h:RunSt p w0 w xs low is why vs fr flags q) {i:Nat} {x:IneqD} (hi:xs[i]?=some x) (hy:raiseB is x=true) (ho:Off [p.I,p.Y] w w') (h1:RowC w' p.I 22 .u8 (is.set x.r.toNat (leftL is x))) (h2:RowC w' p.Y 3 .i64 (why.set x.r.toNat i)):
 RunSt p w0 w' xs low (is.set x.r.toNat (leftL is x)) (why.set x.r.toNat i) vs fr flags q:=by
 obtain⟨⟨a1,a2,a3,a4,a5,a6,_⟩,_⟩:=Place.ok.off h.ok
 have hB:∀ s∈[p.I,p.Y],p.B≤s∧s<p.base:=fun s hs=>h.ok.lt s (by simp only[qk,List.not_mem_nil,or_false] at hs ⊢; rcases hs with e | e <;> simp[e])
 exact⟨h.ok,cell_off ho h.s0 a1,cell_off ho h.s2 a1,cell_off ho h.s3 a1,cell_off ho h.s4 a1,Nat.le_trans h.size ho.size,h.xsM.below (ho.below (fun s hs=>(hB s hs).1) (Nat.le_trans h.ok.B h.size)),h.lowl,h1,h2,h.vl,h.frm.off ho a2 (fun s hs=>(hB s hs).2),h.qs.off ho a3 a4 a5 a6,h.inv.raise hi (by rw[h.lowl]; exact h.over x (List.mem_of_getElem? hi)) hy,h.over,h.off.trans (ho.mono (by simp))⟩
theorem RunSt.queued (h:RunSt p w0 w xs low is why vs fr flags q) {flags':List Bool} {q':List Int} (ho:Off [p.W,p.C] w w') (hq:QSt w' p.gw p.W p.gt p.C p.n flags' q'):
 RunSt p w0 w' xs low is why vs fr flags' q':=by
 obtain⟨_,a1,a2,a3,a4⟩:=Place.ok.off h.ok
 have hB:∀ s∈[p.W,p.C],p.B≤s∧s<p.base:=fun s hs=>h.ok.lt s (by simp only[qk,List.not_mem_nil,or_false] at hs ⊢; rcases hs with e | e <;> simp[e])
 exact⟨h.ok,cell_off ho h.s0 a1,cell_off ho h.s2 a1,cell_off ho h.s3 a1,cell_off ho h.s4 a1,Nat.le_trans h.size ho.size,h.xsM.below (ho.below (fun s hs=>(hB s hs).1) (Nat.le_trans h.ok.B h.size)),h.lowl,h.rI.off ho a3,h.rY.off ho a4,h.vl,h.frm.off ho a2 (fun s hs=>(hB s hs).2),hq,h.inv,h.over,h.off.trans (ho.mono (by simp))⟩
theorem raise_run (h:RunSt p w0 w xs low is why vs fr flags q) {i:Nat} {x:IneqD} (hi:xs[i]?=some x) (b:Bool) (hb:raiseB is x=b):
 Calls Tryz.prog 130 #[.pointer (some ⟨p.g,0,none⟩),.int .i64 i] w fun e w'=>e=.returned (.bool b)∧∃ is' why',RunSt p w0 w' xs low is' why' vs fr flags q∧(is'=if b=true then is.set x.r.toNat (leftL is x) else is)∧Off [p.I,p.Y] w w':=by
 have hx:=h.over x (List.mem_of_getElem? hi);have hg:p.g<w.heap.size:=h.lt (by simp);have hxs:IneqsV w w.heap.size p.Al p.nl p.cl xs:=h.xsM.more (Nat.le_trans h.ok.B h.size)
 cases b with
 | false=>
   refine(raise_no p.g p.Al p.nl p.cl xs p.I p.n p.ci is i x w h.s0 h.s2 hxs (h.rI.rd h.il h.ok.ci h.ok.ci2) hg hi hx.lv hx.r hb).mono ?_;rintro e w' ⟨rfl,hbel⟩;exact⟨rfl,is,why,h.below hbel,rfl,Off.of_below hbel⟩
 | true=>
   have hr0:=((raiseB_iff _ _).1 hb).1;obtain⟨⟨a1,_,_,_,_,_,a7⟩,_⟩:=Place.ok.off h.ok;have hraised:=@RunSt.raised p w0 w;obtain⟨lv,lc,c,r⟩:=x;dsimp only at hr0;obtain⟨k,rfl⟩:∃ k:Nat,r=(k:Int):=⟨r.toNat,(Int.toNat_of_nonneg hr0).symm⟩
   refine(raise_yes p.g p.Al p.nl p.cl xs p.I p.Y p.n p.ci p.cy is why i k lv lc c w h.s0 h.s2 h.s3 hxs h.rI h.rY h.il (h.inv.wl.trans h.lowl) h.ok.ci h.ok.ci2 a7 (fun e=>a1 (by simp[e])) (fun e=>a1 (by simp[e])) hg hi hx.lv (by have:=hx.r; dsimp only at this; omega) hb).mono ?_
   rintro e w' ⟨rfl,hI,hY,ho⟩;exact⟨rfl,_,_,hraised h hi hb ho hI hY,rfl,ho⟩
end
end Go.Proofs.YtdmakpmbknindaaGreatDoor
namespace Go.Proofs.YtdmakpmbknindaaGreatDoor
open Go.RowKit Go.Conc
theorem nodup_len:∀ (l1 l2:List Int),l1.Nodup→(∀ z∈l1,z∈l2)→l1.length≤l2.length
 | [],_,_,_=>Nat.zero_le _
 | a :: t,l2,hn,hs=>by
   have h1:a∈l2:=hs a List.mem_cons_self;obtain⟨ha,ht⟩:=List.nodup_cons.1 hn
   have h2:=nodup_len t (l2.erase a) ht (fun z hz=>(List.mem_erase_of_ne (fun e:z=a=>ha (by rw[← e]; exact hz))).2 (hs z (List.mem_cons_of_mem _ hz)))
   rw[List.length_erase_of_mem h1] at h2;have:=List.length_pos_of_mem h1;simp only[List.length_cons];omega
structure QInv (n:Nat) (flags:List Bool) (q:List Int):Prop where
 len:flags.length=n
 nd:q.Nodup
 iff:∀ u,u<n→(flags.getD u false=true↔(u:Int)∈q)
 rng:∀ z∈q,∃ u:Nat,u<n∧z=(u:Int)
theorem QInv.room {n:Nat} {flags:List Bool} {q:List Int} (h:QInv n flags q) {v:Nat} (hv:v<n) (hf:flags.getD v false=false):q.length<n:=by
 have h1:((v:Int) :: q).Nodup:=List.nodup_cons.2 ⟨fun hm=>(by have:=(h.iff v hv).2 hm; rw[hf] at this; cases this),h.nd⟩
 have h2:=nodup_len _ ((List.range n).map (fun u:Nat=>(u:Int))) h1 (fun z hz=>by
  rcases qk.1 hz with he | hz
  · rw[he]; exact List.mem_map.2 ⟨v,List.mem_range.2 hv,rfl⟩
  · obtain⟨u,hu,rfl⟩:=h.rng z hz
    exact List.mem_map.2 ⟨u,List.mem_range.2 hu,rfl⟩)
 simp at h2;omega
theorem getDb_set (l:List Bool) (i j:Nat) (a:Bool) (hi:i<l.length):(l.set i a).getD j false=if i=j then a else l.getD j false:=by
 simp only[List.getD,List.getElem?_set]
 by_cases e:i=j
 · subst e; simp[hi]
 · simp[e]
theorem QInv.put {n:Nat} {flags:List Bool} {q:List Int} (h:QInv n flags q) {v:Nat} (hv:v<n) (hf:flags.getD v false=false):QInv n (flags.set v true) (q++[(v:Int)]):=by
 have hvl:v<flags.length:=by rw[h.len]; exact hv
 refine⟨by simpa using h.len,?_,fun u hu=>?_,fun z hz=>?_⟩
 · refine List.nodup_append.2 ⟨h.nd,by simp,fun a ha b hb=>?_⟩
   simp only[List.mem_singleton] at hb;subst hb;intro e;subst e;have:=(h.iff v hv).2 ha;rw[hf] at this
   cases this
 · rw[getDb_set _ _ _ _ hvl]
   by_cases e:v=u
   · subst e; simp
   · rw[if_neg e,h.iff u hu,List.mem_append]
     constructor
     · exact fun q=>Or.inl q
     · rintro(q | q)
       · exact q
       · simp only[List.mem_singleton] at q; omega
 · rcases List.mem_append.1 hz with q | q
   · exact h.rng z q
   · simp only[List.mem_singleton] at q
     exact⟨v,hv,q⟩
theorem QInv.take {n:Nat} {flags:List Bool} {q:List Int} {z:Int} (h:QInv n flags (z :: q)):∃ v:Nat,v<n∧z=(v:Int)∧QInv n (flags.set v false) q:=by
 obtain⟨v,hv,rfl⟩:=h.rng z List.mem_cons_self
 have hvl:v<flags.length:=by rw[h.len]; exact hv
 obtain⟨hz,hn⟩:=List.nodup_cons.1 h.nd
 refine⟨v,hv,rfl,by simpa using h.len,hn,fun u hu=>?_,fun z hz=>h.rng z (List.mem_cons_of_mem _ hz)⟩
 rw[getDb_set _ _ _ _ hvl]
 by_cases e:v=u
 · subst e
   rw[if_pos rfl];exact⟨fun q=>Bool.noConfusion q,fun q=>absurd q hz⟩
 · rw[if_neg e,h.iff u hu,qk]
   constructor
   · rintro(q | q)
     · omega
     · exact q
   · exact fun q=>Or.inr q
section
variable {p:Place} {w0 w w':World} {xs:List IneqD} {low is why:List Int} {vs:List Value} {fr:Nat→List Int} {flags:List Bool} {q:List Int}
theorem put_run (h:RunSt p w0 w xs low is why vs fr flags q) (hq:QInv p.n flags q) {v:Nat} (hv:v<p.n):
 Calls Tryz.prog 129 #[.int .i64 v,.pointer (some ⟨p.gw,0,none⟩),.pointer (some ⟨p.gt,0,none⟩)] w fun e w'=>e=.returned (.tuple #[])∧∃ flags' q',RunSt p w0 w' xs low is why vs fr flags' q'∧QInv p.n flags' q'∧(∀ u,flags'.getD u false=true↔flags.getD u false=true∨u=v)∧q'.length≤q.length+1:=by
 cases hf:flags.getD v false with
 | true=>
   refine(putQ_yes v p.gw p.W p.gt p.C p.n flags q w h.qs hv hf h.ok.n20).mono ?_;rintro e w' ⟨rfl,rfl⟩;refine⟨rfl,flags,q,h,hq,fun u=>⟨Or.inl,?_⟩,Nat.le_succ _⟩
   rintro(e | rfl)
   · exact e
   · exact hf
 | false=>
   refine(putQ_no v p.gw p.W p.gt p.C p.n flags q w h.qs hv hf h.ok.n20 (hq.room hv hf)).mono ?_;rintro e w' ⟨rfl,hs,ho⟩
   refine⟨rfl,_,_,h.queued ho hs,hq.put hv hf,fun u=>?_,by simp⟩
   rw[getDb_set _ _ _ _ (by rw[hq.len]; exact hv)]
   by_cases e:v=u
   · subst e; simp
   · rw[if_neg e]
     constructor
     · exact Or.inl
     · rintro(q | q)
       · exact q
       · exact absurd q.symm e
end
end Go.Proofs.YtdmakpmbknindaaGreatDoor
namespace Go.Proofs.YtdmakpmbknindaaGreatDoor
def holdL (asg:List Int) (x:IneqD):Prop:=leftL asg x≤if 0≤x.r then max x.c (asg.getD x.r.toNat 0) else x.c
theorem holdL.keeps {asg:List Int} {x:IneqD} (h:holdL asg x):keepsL asg x:=fun hr=>by unfold holdL at h; rwa [if_pos hr] at h
theorem keepsL.hold {asg:List Int} {x:IneqD} (h:keepsL asg x) (hr:0≤x.r):holdL asg x:=by unfold holdL; rw[if_pos hr]; exact h hr
inductive ChainL (xs:List IneqD) (low why:List Int):IneqD→Int→List Nat→Prop
 | stop (x:IneqD) (over:Int) (h:¬ (x.lc=0∧low.getD x.lv.toNat 0≤over)):ChainL xs low why x over []
 | step (x y:IneqD) (over:Int) (k:Nat) (l:List Nat) (h0:x.lc=0) (h1:low.getD x.lv.toNat 0≤over) (hk:why.getD x.lv.toNat (-1)=(k:Int)) (hy:xs[k]?=some y) (ht:ChainL xs low why y (max over y.c) l):ChainL xs low why x over (k :: l)
structure EndL (xs:List IneqD) (low is why:List Int):Prop where
 inv:InvL xs low is why
 closed:∀ x∈xs,keepsL is x
 over:∀ x∈xs,OverL low.length x
theorem EndL.next {xs:List IneqD} {low is why:List Int} {rank:Nat→Nat} (h:EndL xs low is why) (hW:∀ v,v<low.length→WhyL xs low is why rank v) {x:IneqD} {over:Int} (hx:OverL low.length x) (ho:over<leftL is x) (h0:x.lc=0) (h1:low.getD x.lv.toNat 0≤over):
 ∃ (k:Nat) (y:IneqD),why.getD x.lv.toNat (-1)=(k:Int)∧xs[k]?=some y∧y.r=x.lv∧0≤y.r∧OverL low.length y∧max over y.c<leftL is y∧(y.lc=0→rank y.lv.toNat<rank x.lv.toNat):=by
 obtain⟨hv0,hv1⟩:=hx.lv h0;obtain⟨v,hv⟩:∃ v:Nat,x.lv=(v:Int):=⟨x.lv.toNat,(Int.toNat_of_nonneg hv0).symm⟩
 have hvn:v<low.length:=by omega
 have hl:leftL is x=is.getD v 0:=by unfold leftL; rw[if_pos h0,hv,Int.toNat_natCast]
 have hvt:x.lv.toNat=v:=by omega
 rw[hvt] at h1 ⊢
 rcases hW v hvn with ⟨a,b⟩ | ⟨k,y,a,b,c,d,f,g⟩
 · omega
 · have hm:=List.mem_of_getElem? b
   have hc:=h.closed y hm (by omega);rw[c,Int.toNat_natCast] at hc
   have e:leftL is y=is.getD v 0:=by omega
   exact⟨k,y,a,b,c.trans hv.symm,by omega,h.over y hm,by omega,fun h2=>g h2 e⟩
theorem EndL.chain {xs:List IneqD} {low is why:List Int} {rank:Nat→Nat} (h:EndL xs low is why) (hW:∀ v,v<low.length→WhyL xs low is why rank v):
 ∀ (f:Nat) (x:IneqD) (over:Int),OverL low.length x→over<leftL is x→(x.lc=0→rank x.lv.toNat<f)→∃ l,ChainL xs low why x over l:=by
 intro f
 induction f with
 | zero=>
   intro x over hx ho hr
   by_cases hh:x.lc=0∧low.getD x.lv.toNat 0≤over
   · exact absurd (hr hh.1) (Nat.not_lt_zero _)
   · exact⟨[],.stop x over hh⟩
 | succ f ih=>
   intro x over hx ho hr
   by_cases hh:x.lc=0∧low.getD x.lv.toNat 0≤over
   · obtain⟨k,y,a,b,c,d,e,g,i⟩:=h.next hW hx ho hh.1 hh.2
     obtain⟨l,hl⟩:=ih y (max over y.c) e g (fun h2=>by have:=i h2; have:=hr hh.1; omega)
     exact⟨k :: l,.step x y over k l hh.1 hh.2 a b hl⟩
   · exact⟨[],.stop x over hh⟩
theorem ChainL.mem {xs:List IneqD} {low is why:List Int} {rank:Nat→Nat} (h:EndL xs low is why) (hW:∀ v,v<low.length→WhyL xs low is why rank v) {x:IneqD} {over:Int} {l:List Nat} (hc:ChainL xs low why x over l):
 OverL low.length x→over<leftL is x→∀ j∈l,x.lc=0∧∃ y,xs[j]?=some y∧OverL low.length y∧0≤y.r∧rank y.r.toNat≤rank x.lv.toNat∧(y.lc=0→rank y.lv.toNat<rank y.r.toNat):=by
 induction hc with
 | stop x over hh=>intro _ _ j hj; cases hj
 | step x y over k l h0 h1 hk hy ht ih=>
   intro hx ho j hj;refine⟨h0,?_⟩;obtain⟨k',y',a,b,c,d,e,g,i⟩:=h.next hW hx ho h0 h1
   have hkk:k'=k:=by rw[a] at hk; omega
   subst hkk;rw[b] at hy
   cases hy
   rcases qk.1 hj with rfl | hj
   · exact⟨y,b,e,d,by rw[c]; exact Nat.le_refl _,by rw[c]; exact i⟩
   · obtain⟨q0,z,z1,z2,z3,z4,z5⟩:=ih e g j hj
     have:=i q0
     exact⟨z,z1,z2,z3,by omega,z5⟩
theorem ChainL.no {xs:List IneqD} {low is why:List Int} {rank:Nat→Nat} (h:EndL xs low is why) (hW:∀ v,v<low.length→WhyL xs low is why rank v) {x:IneqD} {over:Int} {l:List Nat} (hc:ChainL xs low why x over l) (asg:List Int) (hlow:∀ v,v<low.length→low.getD v 0≤asg.getD v 0):
 OverL low.length x→over<leftL is x→(∀ j∈l,∀ y,xs[j]?=some y→keepsL asg y)→over<leftL asg x:=by
 induction hc with
 | stop x over hh=>
   intro hx ho _;unfold leftL at ho ⊢
   by_cases h0:x.lc=0
   · rw[if_pos h0]
     have:=hx.lv h0;have h2:=hlow x.lv.toNat (by omega);have h3:¬ low.getD x.lv.toNat 0≤over:=fun z=>hh ⟨h0,z⟩;omega
   · rw[if_neg h0] at ho ⊢; exact ho
 | step x y over k l h0 h1 hk hy ht ih=>
   intro hx ho hall;obtain⟨k',y',a,b,c,d,e,g,i⟩:=h.next hW hx ho h0 h1
   have hkk:k'=k:=by rw[a] at hk; omega
   subst hkk;rw[b] at hy
   cases hy
   have h2:=ih e g (fun j hj=>hall j (List.mem_cons_of_mem _ hj));have h3:=hall _ List.mem_cons_self y b d;rw[c] at h3
   have h4:leftL asg x=asg.getD x.lv.toNat 0:=by unfold leftL; rw[if_pos h0]
   omega
theorem ChainL.some {xs:List IneqD} {low is why:List Int} {rank:Nat→Nat} (h:EndL xs low is why) (hW:∀ v,v<low.length→WhyL xs low is why rank v) (hlow3:∀ v,v<low.length→low.getD v 0≤3) {x:IneqD} {over:Int} {l:List Nat} (hc:ChainL xs low why x over l):
 OverL low.length x→over<leftL is x→∀ (l1:List Nat) (k:Nat) (l2:List Nat),l=l1++k :: l2 →
  ∃ asg:List Int,asg.length=low.length∧(∀ v,v<low.length→low.getD v 0≤asg.getD v 0∧asg.getD v 0≤3)∧leftL asg x≤over∧(∀ j∈l1++l2,∀ y,xs[j]?=Option.some y→keepsL asg y)∧∀ v,v<low.length→rank x.lv.toNat<rank v→asg.getD v 0=3:=by
 induction hc with
 | stop x over hh=>intro _ _ l1 k l2 hl; exact absurd hl.symm (by simp)
 | step x y over k l h0 h1 hk hy ht ih=>
   intro hx ho l1 k0 l2 hl;have hmem:=ChainL.mem h hW (.step x y over k l h0 h1 hk hy ht) hx ho;obtain⟨hv0,hv1⟩:=hx.lv h0
   have hvn:x.lv.toNat<low.length:=by omega
   have ho3:over≤3:=by have:=leftL_top hx h.inv.top; omega
   obtain⟨k',y',a,b,c,d,e,g,i⟩:=h.next hW hx ho h0 h1
   have hkk:k'=k:=by rw[a] at hk; omega
   subst hkk;rw[b] at hy
   cases hy
   -- a variable of the rest is not x's
   have hrest:∀ j∈l,∃ z,xs[j]?=Option.some z∧OverL low.length z∧0≤z.r∧z.r.toNat≠x.lv.toNat∧(z.lc=0→z.lv.toNat≠x.lv.toNat):=by
    intro j hj;obtain⟨q0,z,z1,z2,z3,z4,z5⟩:=ChainL.mem h hW ht e g j hj;have:=i q0;refine⟨z,z1,z2,z3,fun e'=>?_,fun hz e'=>?_⟩
    · rw[e'] at z4; omega
    · have:=z5 hz; rw[e'] at this; omega
   cases l1 with
   | nil=>
     simp only[List.nil_append,List.cons.injEq] at hl;obtain⟨rfl,rfl⟩:=hl
     have hl3:x.lv.toNat<(List.replicate low.length (3:Int)).length:=by simpa using hvn
     have hg3:∀ v,v<low.length→(List.replicate low.length (3:Int)).getD v 0=3:=fun v hv=>by simp[List.getD,hv]
     refine⟨(List.replicate low.length 3).set x.lv.toNat over,by simp,fun v hv=>?_,?_,?_,?_⟩
     · rw[getD_set _ _ _ _ _ hl3]
       split
       · rename_i e'; subst e'; exact⟨h1,ho3⟩
       · rw[hg3 v hv]; exact⟨hlow3 v hv,Int.le_refl _⟩
     · rw[leftL_set _ hl3,if_pos ⟨h0,rfl⟩]; exact Int.le_refl _
     · intro j hj z hz hzr
       obtain⟨z',a1,a2,a3,a4,a5⟩:=hrest j (by simpa using hj);rw[hz] at a1
       cases a1
       have hzn:z.r.toNat<low.length:=by have:=a2.r; omega
       rw[getD_set _ _ _ _ _ hl3,if_neg (fun e'=>a4 e'.symm),hg3 _ hzn]
       have:leftL ((List.replicate low.length 3).set x.lv.toNat over) z≤3:=leftL_top a2 fun v hv=>by
        rw[getD_set _ _ _ _ _ hl3]
        split
        · exact ho3
        · rw[hg3 v hv]; exact Int.le_refl _
       omega
     · intro v hv hr
       rw[getD_set _ _ _ _ _ hl3,if_neg (fun e'=>by subst e'; omega),hg3 v hv]
   | cons k1 l1=>
     simp only[List.cons_append,List.cons.injEq] at hl;obtain⟨rfl,hl⟩:=hl;obtain⟨asg,s1,s2,s3,s4,s5⟩:=ih e g l1 k0 l2 hl
     have hla:x.lv.toNat<asg.length:=by omega
     have hy0:y.lc=0:=(ChainL.mem h hW ht e g k0 (by rw[hl]; simp)).1
     have hyr:=i hy0
     refine⟨asg.set x.lv.toNat over,by simpa using s1,fun v hv=>?_,?_,?_,?_⟩
     · rw[getD_set _ _ _ _ _ hla]
       split
       · rename_i e'; subst e'; exact⟨h1,ho3⟩
       · exact s2 v hv
     · rw[leftL_set _ hla,if_pos ⟨h0,rfl⟩]; exact Int.le_refl _
     · intro j hj z hz hzr
       rcases qk.1 hj with rfl | hj
       · rw[b] at hz
         cases hz
         rw[leftL_set _ hla,if_neg (fun e'=>by have:=e'.2; rw[this] at hyr; omega),getD_set _ _ _ _ _ hla,if_pos (by rw[c])]
         omega
       · have hjl:j∈l:=by
          rw[hl]
          rcases List.mem_append.1 hj with q | q
          · exact List.mem_append.2 (Or.inl q)
          · exact List.mem_append.2 (Or.inr (List.mem_cons_of_mem _ q))
         obtain⟨z',a1,a2,a3,a4,a5⟩:=hrest j hjl;rw[hz] at a1
         cases a1
         have:=s4 j hj z hz hzr;rw[leftL_set _ hla,if_neg (fun e'=>a5 e'.1 e'.2.symm),getD_set _ _ _ _ _ hla,if_neg (fun e'=>a4 e'.symm)];exact this
     · intro v hv hr
       rw[getD_set _ _ _ _ _ hla,if_neg (fun e'=>by subst e'; omega)]
       exact s5 v hv (by omega)
theorem ChainL.nodup {xs:List IneqD} {low is why:List Int} {rank:Nat→Nat} (h:EndL xs low is why) (hW:∀ v,v<low.length→WhyL xs low is why rank v) {x:IneqD} {over:Int} {l:List Nat} (hc:ChainL xs low why x over l):
 OverL low.length x→over<leftL is x→l.Nodup:=by
 induction hc with
 | stop x over hh=>intro _ _; exact List.nodup_nil
 | step x y over k l h0 h1 hk hy ht ih=>
   intro hx ho;obtain⟨k',y',a,b,c,d,e,g,i⟩:=h.next hW hx ho h0 h1
   have hkk:k'=k:=by rw[a] at hk; omega
   subst hkk;rw[b] at hy
   cases hy
   refine List.nodup_cons.2 ⟨fun hm=>?_,ih e g⟩;obtain⟨q0,z,z1,z2,z3,z4,z5⟩:=ChainL.mem h hW ht e g _ hm;rw[b] at z1
   cases z1
   have:=i q0;rw[c] at z4;omega
end Go.Proofs.YtdmakpmbknindaaGreatDoor
