import Derived.Test.YtdmakpmbknindaaGreatDoorM3
import Derived.Lib.QuietBelow
set_option linter.unusedVariables false
set_option linter.unusedSimpArgs false
set_option maxHeartbeats 1000000
set_option maxRecDepth 100000
namespace Go.Proofs.YtdmakpmbknindaaGreatDoor
open Go.RowKit
def putsV (c r:Int) (vars:List Int):List IneqD:=vars.flatMap fun v=>putQ c r v 0
def fitsQL (c r top:Int) (vars:List Int):List IneqD:=putQ c r 0 top++putsV c r vars
def fitsQ (t:TermD) (g mv mc:Int):List IneqD:=fitsQL (max g mc) (if mc=0 then mv else -1) (leastT t).c (leastT t).vars
def fitsB (t:TermD) (g mv mc:Int):Bool:=mayB t&&isB mc mv&&decide (1≤g)&&decide (g≤3)
theorem putQ_len (c r mv mc:Int):(putQ c r mv mc).length≤1:=by unfold putQ; split <;> simp
theorem putsV_len (c r:Int):∀ (vars:List Int),(putsV c r vars).length≤vars.length
 | []=>by simp[putsV]
 | v :: l=>by
   have h1:=putQ_len c r v 0;have h2:=putsV_len c r l;unfold putsV at h2 ⊢;rw[List.flatMap_cons,List.length_append,List.length_cons];omega
theorem putsV_snoc (c r:Int) (l:List Int) (v:Int):putsV c r (l++[v])=putsV c r l++putQ c r v 0:=by
 unfold putsV;rw[List.flatMap_append];simp
def RetQE (xs:List IneqD) (x:Int) (w:World) (e:Ending) (w':World):Prop:=
 ∃ A n c,e=.returned (.tuple #[.slice A n c,.int .i64 x])∧IneqsV w' w'.heap.size A n c xs∧Below w.heap.size w w'
def F0 (t:TermD) (A:Option Addr) (n cp:Nat) (mv mc:Int) (w:World):World:=(w.alloc (Obj.cells #[.bool t.never,.int .u8 t.c,.slice A n cp] 180)).alloc (Obj.cells #[.int .i64 mv,.int .u8 mc] 24)
theorem F0_facts (t:TermD) (A:Option Addr) (n cp:Nat) (mv mc:Int) (w:World):
 Below w.heap.size w (F0 t A n cp mv mc w)∧(F0 t A n cp mv mc w).heap.size=w.heap.size+2∧Blk (F0 t A n cp mv mc w) w.heap.size 180 #[.bool t.never,.int .u8 t.c,.slice A n cp]∧Blk (F0 t A n cp mv mc w) (w.heap.size+1) 24 #[.int .i64 mv,.int .u8 mc]:=by
 unfold F0
 refine⟨((Below.refl _ _).alloc (Nat.le_refl _) _).alloc (by simp) _,by simp,(blk_new _ _ _).alloc _,?_⟩
 have:=blk_new (w.alloc (Obj.cells #[.bool t.never,.int .u8 t.c,.slice A n cp] 180)) #[.int .i64 mv,.int .u8 mc] 24;rw[World.size_alloc] at this;exact this
theorem may_at (v:Value) (t:TermD) (x:Int) (hx:mayE t=x) (w:World) (B:Nat) (hv:TermV w B v t) (hB:B≤w.heap.size):
 Calls Tryz.prog 152 #[v] w fun e w'=>e=.returned (.int .i64 x)∧Below w.heap.size w w':=by
 rw[← hx]; exact may_any v t w B hv hB
theorem fits_yes (tv:Value) (t:TermD) (g mv mc:Int) (w:World) (B:Nat) (hv:TermV w B tv t) (hB:B≤w.heap.size) (h:fitsB t g mv mc=true) (hbig:t.vars.length≤1000000000):
 Calls Tryz.prog 135 #[tv,.int .u8 g,.agg #[.int .i64 mv,.int .u8 mc]] w (RetQE (fitsQ t g mv mc) 0 w):=by
 have hmx:=@run_max2 Tryz.prog;unfold fitsB at h;simp only[Bool.and_eq_true,decide_eq_true_eq] at h;obtain⟨⟨⟨hm,hi⟩,hg1⟩,hg2⟩:=h;have HM:=qq (mayE_yes hm);have HI:=qq (isE_yes hi);clear hm hi;obtain⟨A,n,cp,rfl,hr⟩:=hv;obtain⟨hb0,hs0,ht0,hm0⟩:=F0_facts t A n cp mv mc w;have hr0:=(hr.more hB).below hb0;have tx:∀ w',Below (w.heap.size+2) (F0 t A n cp mv mc w) w'→w'.cell? ⟨w.heap.size,0,none⟩=some (.bool t.never)∧w'.cell? ⟨w.heap.size,1,none⟩=some (.int .u8 t.c)∧w'.cell? ⟨w.heap.size,2,none⟩=some (.slice A n cp)∧w'.cell? ⟨w.heap.size+1,0,none⟩=some (.int .i64 mv)∧w'.cell? ⟨w.heap.size+1,1,none⟩=some (.int .u8 mc):=fun w' hb=>⟨(ht0.below hb (by omega)).cell 0,(ht0.below hb (by omega)).cell 1,(ht0.below hb (by omega)).cell 2,(hm0.below hb (by omega)).cell 0,(hm0.below hb (by omega)).cell 1⟩;have Tx:=qq tx;obtain⟨x0,x1,x2, -, -⟩:=tx _ (Below.refl _ _);clear tx
 go_enter Tryz.func135,Tryz.ntmps135
 go_wp2_with fail
 refine(may_at (.agg #[.bool t.never,.int .u8 t.c,.slice A n cp]) t _ HM.out (F0 t A n cp mv mc w) w.heap.size ⟨A,n,cp,rfl,hr0⟩ (by omega)).mono ?_; rintro e w1 ⟨rfl,hb1⟩
 clear x0 x1 x2;generalize hF:F0 t A n cp mv mc w=w0 at hb0 hs0 ht0 hm0 hr0 Tx hb1 ⊢;clear hF
 have hk1:=hb1.mono (show w.heap.size+2≤w0.heap.size by omega)
 have hw1:=hb0.trans (hb1.mono (by omega));obtain⟨-, -, -,y0,y1⟩:=Tx.out _ hk1;go_wp2_with fail
 refine(isQ_at mc mv _ HI.out w1).mono ?_; rintro e w2 ⟨rfl,hb2⟩
 have hk2:=hk1.trans (hb2.mono (by have:=hb1.size; omega))
 have hw2:=hw1.trans (hb2.mono hw1.size);clear y0 y1;obtain⟨t0,t1,t2,y0,y1⟩:=Tx.out _ hk2
 have z0:w.heap.size+1<w2.heap.size:=by have h1:=hb1.size; have h2:=hb2.size; omega
 have z1:w.heap.size<w2.heap.size:=by omega
 have d1:decide (g<1)=false:=by simp; omega
 have d2:decide (3<g)=false:=by simp; omega
 have Hbig:=qq hbig
 have HT:Hid ((leastT t).vars.length≤1000000000):=by
  show _≤_;unfold leastT
  split
  · simp
  · exact hbig
 clear hbig
 by_cases h0:mc=0
 · subst h0
   have Hfit:Hid (fitsQ t g mv 0=fitsQL (max g 0) mv (leastT t).c (leastT t).vars):=qq rfl;go_wp2_with fail;have hG:=blk_new w2 #[.int .u8 (max g 0),.int .i64 mv,.slice none 0 0] 209;have hb3:=below_box (w:=w2) (Obj.cells #[.int .u8 (max g 0),.int .i64 mv,.slice none 0 0] 209)
   have hz3:w2.heap.size<(w2.alloc (Obj.cells #[.int .u8 (max g 0),.int .i64 mv,.slice none 0 0] 209)).heap.size:=by simp
   generalize w2.alloc (Obj.cells #[.int .u8 (max g 0),.int .i64 mv,.slice none 0 0] 209)=w3 at hG hb3 hz3 ⊢;have hk3:=hk2.trans (hb3.mono (by omega));have hw3:=hw2.trans (hb3.mono (by omega));have hr3:=(hr0.below (hk3.mono (by omega)));have ht3:=ht0.below hk3 (by omega);clear t0 t1 t2
   refine(least_own_t (.agg #[.bool t.never,.int .u8 t.c,.slice A n cp]) t w3 w.heap.size ⟨A,n,cp,rfl,hr3⟩ (by omega) (by have:=Hbig.out; omega)).mono ?_
   rintro e w4 ⟨A4,n4,c4,rfl,hr4,hb4,hf4⟩;have ht4:=ht3.below hb4 (by omega);have hG4:=hG.below hb4 (by omega);have hw4:=hw3.trans (hb4.mono (by omega));have hz4:w3.heap.size≤w4.heap.size:=hb4.size;have u0:w4.cell? ⟨w.heap.size,0,none⟩=some (.bool t.never):=ht4.cell 0;have u1:w4.cell? ⟨w.heap.size,1,none⟩=some (.int .u8 t.c):=ht4.cell 1;have u2:w4.cell? ⟨w.heap.size,2,none⟩=some (.slice A n cp):=ht4.cell 2;have v0:=ht4.frozen 0;have v1:=ht4.frozen 1;have v2:=ht4.frozen 2;generalize leastT t=T at Hfit hr4 HT ⊢;clear hb4 hG ht3 hr3 hk3 hw3 hb3;go_wp2_with fail;have hX:=(((But.refl w4.heap.size w.heap.size w4).set 0 (.bool T.never)).set 1 (.int .u8 T.c)).set 2 (.slice A4 n4 c4);have hs5:=ht4.set3 (.bool T.never) (.int .u8 T.c) (.slice A4 n4 c4);have hw5:=hw4.trans (hX.below (by omega))
   have hz5:w4.heap.size≤((((w4.setCell ⟨w.heap.size,0,none⟩ (.bool T.never)).setCell ⟨w.heap.size,1,none⟩ (.int .u8 T.c)).setCell ⟨w.heap.size,2,none⟩ (.slice A4 n4 c4))).heap.size:=by simp
   have hG5:=hG4.but hX (by omega) (by omega)
   have hr5:=hX.rdI hr4 (fun a ha=>by have:=hf4 a ha; omega)
   generalize (((w4.setCell ⟨w.heap.size,0,none⟩ (.bool T.never)).setCell ⟨w.heap.size,1,none⟩ (.int .u8 T.c)).setCell ⟨w.heap.size,2,none⟩ (.slice A4 n4 c4))=w5 at hX hs5 hw5 hz5 hG5 hr5 ⊢
   have hL5:LayW w5 w2.heap.size w4.heap.size (max g 0) mv []:=⟨none,0,hG5,World.ownsRow_nil _ _ _ _,by omega,by omega⟩
   clear hX u0 u1 u2 v0 v1 v2 hG4 ht4 hr4 hw4;refine(put_any 0 T.c (max g 0) mv w2.heap.size w4.heap.size [] w5 hL5 (by simp)).mono ?_;rintro e w6 ⟨rfl,hL6,hx6⟩;rw[List.nil_append] at hL6;have hs6:=hs5.but hx6 (by omega) (by omega);have p2:w6.cell? ⟨w.heap.size,2,none⟩=some (.slice A4 n4 c4):=hs6.cell 2
   have Hr6:=qq (hx6.rdI hr5 (fun a ha=>by have:=hf4 a ha; omega))
   have Hw6:=qq (hw5.trans (hx6.below (by omega) |>.mono (by omega)))
   have HL6:=qq hL6;have Hf4:=qq hf4;have Hl:=qq Hr6.out.len
   have hn63:n4≤1000000000:=by have:=Hl.out; have:=HT.out; omega
   clear hL5 hs5 hG5 hr5 hx6 hs6 hL6 hf4 hw5;go_wp2_with fail
   go_loopg [54] n4 (fun gh i wr=>∃ k:Nat,k≤n4∧gh=n4 - k∧i=.int .i64 k∧Hid (LayW wr w2.heap.size w4.heap.size (max g 0) mv (putQ (max g 0) mv 0 T.c++putsV (max g 0) mv (T.vars.take k)))∧Hid (But w4.heap.size w2.heap.size w6 wr))
   case atStart=>exact⟨0,Nat.zero_le _,rfl,rfl,by rw[List.take_zero]; show Hid (LayW _ _ _ _ _ (_++[])); rw[List.append_nil]; exact HL6,qq (But.refl _ _ _)⟩
   case round=>
    obtain⟨k,hk,rfl,rfl,HL,HX⟩:=hrel
    by_cases hlk:k<n4
    · have hk':k<T.vars.length:=by rw[Hl.out]; exact hlk
      have hrr:=HX.out.rdI Hr6.out (fun a ha=>by have:=Hf4.out a ha; omega)
      obtain⟨b,off,rfl,hb,hcell⟩:=hrr.at_ (by omega);have q0:=hcell k hk'
      have htk:T.vars.take (k+1)=T.vars.take k++[T.vars[k]]:=by rw[List.take_succ_eq_append_getElem hk']
      have Htk:=qq htk;generalize T.vars[k]=V at q0 Htk
      have hlen:(putQ (max g 0) mv 0 T.c++putsV (max g 0) mv (T.vars.take k)).length≤1099511627776:=by
       have h1:=putQ_len (max g 0) mv 0 T.c;have h2:=putsV_len (max g 0) mv (T.vars.take k);have h3:(T.vars.take k).length≤k:=List.length_take_le _ _;rw[List.length_append];omega
      have Hlen:=qq hlen;clear htk hcell hrr hlen;go_wp2_with fail;refine(put_any V 0 (max g 0) mv w2.heap.size w4.heap.size _ wr HL.out Hlen.out).mono ?_;rintro e w7 ⟨rfl,hL7,hx7⟩
      have HL7:Hid (LayW w7 w2.heap.size w4.heap.size (max g 0) mv (putQ (max g 0) mv 0 T.c++putsV (max g 0) mv (T.vars.take (k+1)))):=by
       show LayW _ _ _ _ _ _;rw[Htk.out,putsV_snoc,← List.append_assoc];exact hL7
      have HX7:=qq (HX.out.trans hx7);clear hL7 hx7;go_wp2_with fail;go_roundg (n4 - (k+1))
      case measure=>omega
      case rel=>exact⟨k+1,by omega,rfl,by go_num,HL7,HX7⟩
    · have hkn:k=n4:=by omega
      subst hkn
      have HL':Hid (LayW wr w2.heap.size w4.heap.size (max g 0) mv (fitsQ t g mv 0)):=by
       show LayW _ _ _ _ _ _;rw[Hfit.out];have:=HL.out
       rw[List.take_of_length_le (by rw[Hl.out]; exact Nat.le_refl _)] at this
       exact this
      obtain⟨A8,c8,hG8,ho8, -, -⟩:=HL'.out;have p8:wr.cell? ⟨w2.heap.size,2,none⟩=some (.slice A8 (fitsQ t g mv 0).length c8):=hG8.cell 2;have Ho8:=qq ho8;clear HL ho8 hG8;go_wp2_with fail
      go_ret2
      exact⟨A8,_,c8,rfl,IneqsV.of_own Ho8.out,Hw6.out.trans ((HX.out.below (by omega)).mono (by omega))⟩
 · have Hfit:Hid (fitsQ t g mv mc=fitsQL (max g mc) (-1) (leastT t).c (leastT t).vars):=by show _=_; unfold fitsQ; rw[if_neg h0]
   have hz:(mc==0)=false:=by simp[h0]
   clear h0;go_wp2_with fail;have hG:=blk_new w2 #[.int .u8 (max g mc),.int .i64 (-1),.slice none 0 0] 209;have hb3:=below_box (w:=w2) (Obj.cells #[.int .u8 (max g mc),.int .i64 (-1),.slice none 0 0] 209)
   have hz3:w2.heap.size<(w2.alloc (Obj.cells #[.int .u8 (max g mc),.int .i64 (-1),.slice none 0 0] 209)).heap.size:=by simp
   generalize w2.alloc (Obj.cells #[.int .u8 (max g mc),.int .i64 (-1),.slice none 0 0] 209)=w3 at hG hb3 hz3 ⊢;have hk3:=hk2.trans (hb3.mono (by omega));have hw3:=hw2.trans (hb3.mono (by omega));have hr3:=(hr0.below (hk3.mono (by omega)));have ht3:=ht0.below hk3 (by omega);clear t0 t1 t2
   refine(least_own_t (.agg #[.bool t.never,.int .u8 t.c,.slice A n cp]) t w3 w.heap.size ⟨A,n,cp,rfl,hr3⟩ (by omega) (by have:=Hbig.out; omega)).mono ?_
   rintro e w4 ⟨A4,n4,c4,rfl,hr4,hb4,hf4⟩;have ht4:=ht3.below hb4 (by omega);have hG4:=hG.below hb4 (by omega);have hw4:=hw3.trans (hb4.mono (by omega));have hz4:w3.heap.size≤w4.heap.size:=hb4.size;have u0:w4.cell? ⟨w.heap.size,0,none⟩=some (.bool t.never):=ht4.cell 0;have u1:w4.cell? ⟨w.heap.size,1,none⟩=some (.int .u8 t.c):=ht4.cell 1;have u2:w4.cell? ⟨w.heap.size,2,none⟩=some (.slice A n cp):=ht4.cell 2;have v0:=ht4.frozen 0;have v1:=ht4.frozen 1;have v2:=ht4.frozen 2;generalize leastT t=T at Hfit hr4 HT ⊢;clear hb4 hG ht3 hr3 hk3 hw3 hb3;go_wp2_with fail;have hX:=(((But.refl w4.heap.size w.heap.size w4).set 0 (.bool T.never)).set 1 (.int .u8 T.c)).set 2 (.slice A4 n4 c4);have hs5:=ht4.set3 (.bool T.never) (.int .u8 T.c) (.slice A4 n4 c4);have hw5:=hw4.trans (hX.below (by omega))
   have hz5:w4.heap.size≤((((w4.setCell ⟨w.heap.size,0,none⟩ (.bool T.never)).setCell ⟨w.heap.size,1,none⟩ (.int .u8 T.c)).setCell ⟨w.heap.size,2,none⟩ (.slice A4 n4 c4))).heap.size:=by simp
   have hG5:=hG4.but hX (by omega) (by omega)
   have hr5:=hX.rdI hr4 (fun a ha=>by have:=hf4 a ha; omega)
   generalize (((w4.setCell ⟨w.heap.size,0,none⟩ (.bool T.never)).setCell ⟨w.heap.size,1,none⟩ (.int .u8 T.c)).setCell ⟨w.heap.size,2,none⟩ (.slice A4 n4 c4))=w5 at hX hs5 hw5 hz5 hG5 hr5 ⊢
   have hL5:LayW w5 w2.heap.size w4.heap.size (max g mc) (-1) []:=⟨none,0,hG5,World.ownsRow_nil _ _ _ _,by omega,by omega⟩
   clear hX u0 u1 u2 v0 v1 v2 hG4 ht4 hr4 hw4;refine(put_any 0 T.c (max g mc) (-1) w2.heap.size w4.heap.size [] w5 hL5 (by simp)).mono ?_;rintro e w6 ⟨rfl,hL6,hx6⟩;rw[List.nil_append] at hL6;have hs6:=hs5.but hx6 (by omega) (by omega);have p2:w6.cell? ⟨w.heap.size,2,none⟩=some (.slice A4 n4 c4):=hs6.cell 2
   have Hr6:=qq (hx6.rdI hr5 (fun a ha=>by have:=hf4 a ha; omega))
   have Hw6:=qq (hw5.trans (hx6.below (by omega) |>.mono (by omega)))
   have HL6:=qq hL6;have Hf4:=qq hf4;have Hl:=qq Hr6.out.len
   have hn63:n4≤1000000000:=by have:=Hl.out; have:=HT.out; omega
   clear hL5 hs5 hG5 hr5 hx6 hs6 hL6 hf4 hw5;go_wp2_with fail
   go_loopg [54] n4 (fun gh i wr=>∃ k:Nat,k≤n4∧gh=n4 - k∧i=.int .i64 k∧Hid (LayW wr w2.heap.size w4.heap.size (max g mc) (-1) (putQ (max g mc) (-1) 0 T.c++putsV (max g mc) (-1) (T.vars.take k)))∧Hid (But w4.heap.size w2.heap.size w6 wr))
   case atStart=>exact⟨0,Nat.zero_le _,rfl,rfl,by rw[List.take_zero]; show Hid (LayW _ _ _ _ _ (_++[])); rw[List.append_nil]; exact HL6,qq (But.refl _ _ _)⟩
   case round=>
    obtain⟨k,hk,rfl,rfl,HL,HX⟩:=hrel
    by_cases hlk:k<n4
    · have hk':k<T.vars.length:=by rw[Hl.out]; exact hlk
      have hrr:=HX.out.rdI Hr6.out (fun a ha=>by have:=Hf4.out a ha; omega)
      obtain⟨b,off,rfl,hb,hcell⟩:=hrr.at_ (by omega);have q0:=hcell k hk'
      have htk:T.vars.take (k+1)=T.vars.take k++[T.vars[k]]:=by rw[List.take_succ_eq_append_getElem hk']
      have Htk:=qq htk;generalize T.vars[k]=V at q0 Htk
      have hlen:(putQ (max g mc) (-1) 0 T.c++putsV (max g mc) (-1) (T.vars.take k)).length≤1099511627776:=by
       have h1:=putQ_len (max g mc) (-1) 0 T.c;have h2:=putsV_len (max g mc) (-1) (T.vars.take k);have h3:(T.vars.take k).length≤k:=List.length_take_le _ _;rw[List.length_append];omega
      have Hlen:=qq hlen;clear htk hcell hrr hlen;go_wp2_with fail;refine(put_any V 0 (max g mc) (-1) w2.heap.size w4.heap.size _ wr HL.out Hlen.out).mono ?_;rintro e w7 ⟨rfl,hL7,hx7⟩
      have HL7:Hid (LayW w7 w2.heap.size w4.heap.size (max g mc) (-1) (putQ (max g mc) (-1) 0 T.c++putsV (max g mc) (-1) (T.vars.take (k+1)))):=by
       show LayW _ _ _ _ _ _;rw[Htk.out,putsV_snoc,← List.append_assoc];exact hL7
      have HX7:=qq (HX.out.trans hx7);clear hL7 hx7;go_wp2_with fail;go_roundg (n4 - (k+1))
      case measure=>omega
      case rel=>exact⟨k+1,by omega,rfl,by go_num,HL7,HX7⟩
    · have hkn:k=n4:=by omega
      subst hkn
      have HL':Hid (LayW wr w2.heap.size w4.heap.size (max g mc) (-1) (fitsQ t g mv mc)):=by
       show LayW _ _ _ _ _ _;rw[Hfit.out];have:=HL.out
       rw[List.take_of_length_le (by rw[Hl.out]; exact Nat.le_refl _)] at this
       exact this
      obtain⟨A8,c8,hG8,ho8, -, -⟩:=HL'.out;have p8:wr.cell? ⟨w2.heap.size,2,none⟩=some (.slice A8 (fitsQ t g mv mc).length c8):=hG8.cell 2;have Ho8:=qq ho8;clear HL ho8 hG8;go_wp2_with fail
      go_ret2
      exact⟨A8,_,c8,rfl,IneqsV.of_own Ho8.out,Hw6.out.trans ((HX.out.below (by omega)).mono (by omega))⟩
end Go.Proofs.YtdmakpmbknindaaGreatDoor
namespace Go.Proofs.YtdmakpmbknindaaGreatDoor
open Go.RowKit Go.Conc
structure QSt (w:World) (gw W gt C n:Nat) (flags:List Bool) (q:List Int):Prop where
 len:flags.length=n
 bw:Blk w gw 169 #[.slice (some ⟨W,0,none⟩) n n]
 fl:Blk w W 4 (flags.map Value.bool).toArray
 bt:Blk w gt 168 #[.chan (some C)]
 ch:∃ s r,w.heap[C]?=some (.chan n (q.map (Value.int .i64)).toArray false s r false)
theorem Blk.chan {w:World} {g:Nat} {t:TypeId} {cs:Array Value} (h:Blk w g t cs) {C cap:Nat} (buf:Array Value) (cl:Bool) (s r:Nat) (tm:Bool) (hne:g≠C):Blk (w.setChan C cap buf cl s r tm) g t cs:=by
 unfold Blk at h ⊢;simp[World.setChan,Array.getElem?_setIfInBounds,Ne.symm hne,h]
theorem QSt.ne {w:World} {gw W gt C n:Nat} {flags:List Bool} {q:List Int} (h:QSt w gw W gt C n flags q):gw≠C∧W≠C∧gt≠C∧gt≠W∧gw≠W:=by
 obtain⟨_,b1,b2,b3,s,r,hc⟩:=h;unfold Blk at b1 b2 b3
 refine⟨?_,?_,?_,?_,?_⟩ <;> rintro rfl
 · rw[b1] at hc; cases hc
 · rw[b2] at hc; cases hc
 · rw[b3] at hc; cases hc
 · rw[b2] at b3; simp at b3
 · rw[b2] at b1; simp at b1
structure Off (S:List Nat) (w w':World):Prop where
 os:w'.os=w.os
 tape:w'.tape=w.tape
 output:w'.output=w.output
 size:w.heap.size≤w'.heap.size
 block:∀ k,k<w.heap.size→k∉S→w'.heap[k]?=w.heap[k]?
section
variable {S:List Nat} {w w' w'':World}
theorem Off.refl (S:List Nat) (w:World):Off S w w:=⟨rfl,rfl,rfl,Nat.le_refl _,fun _ _ _=>rfl⟩
theorem Off.trans (h:Off S w w') (k:Off S w' w''):Off S w w'':=
 ⟨k.os.trans h.os,k.tape.trans h.tape,k.output.trans h.output,Nat.le_trans h.size k.size,fun i hi hs=>(k.block i (Nat.lt_of_lt_of_le hi h.size) hs).trans (h.block i hi hs)⟩
theorem Off.mono {S':List Nat} (h:Off S w w') (hs:∀ k∈S,k∈S'):Off S' w w':=⟨h.os,h.tape,h.output,h.size,fun k hk hn=>h.block k hk fun e=>hn (hs k e)⟩
theorem Off.of_below (h:Below w.heap.size w w'):Off S w w':=⟨h.os,h.tape,h.output,h.size,fun k hk _=>h.block k hk⟩
theorem Off.set (h:Off S w w') {g:Nat} (hg:g∈S) (i:Nat) (u:Value):Off S w (w'.setCell ⟨g,i,none⟩ u):=
 ⟨h.os,h.tape,h.output,by rw[World.size_setCell]; exact h.size,fun k hk hn=>(Below.heap_setCell _ _ _ _ (fun e=>hn (by subst e; exact hg))).trans (h.block k hk hn)⟩
theorem Off.chan (h:Off S w w') {C cap:Nat} (hC:C∈S) (buf:Array Value) (cl:Bool) (s r:Nat) (tm:Bool):Off S w (w'.setChan C cap buf cl s r tm):=
 ⟨h.os,h.tape,h.output,by rw[size_setChan]; exact h.size,fun k hk hn=>by
  have hne:C≠k:=fun e=>hn (by subst e; exact hC)
  rw[← h.block k hk hn]
  simp[World.setChan,Array.getElem?_setIfInBounds,hne]⟩
theorem Blk.off {g:Nat} {t:TypeId} {cs:Array Value} (h:Blk w g t cs) (hb:Off S w w') (hg:g∉S):Blk w' g t cs:=(hb.block g h.lt hg).trans h
theorem Off.below {B:Nat} (h:Off S w w') (hS:∀ k∈S,B≤k) (hB:B≤w.heap.size):Below B w w':=⟨h.os,h.tape,h.output,h.size,fun k hk=>h.block k (by omega) fun e=>by have:=hS k e; omega⟩
end
theorem putQ_yes (v:Nat) (gw W gt C n:Nat) (flags:List Bool) (q:List Int) (w:World) (h:QSt w gw W gt C n flags q) (hv:v<n) (hf:flags.getD v false=true) (hn:n≤1048576):
 Calls Tryz.prog 129 #[.int .i64 v,.pointer (some ⟨gw,0,none⟩),.pointer (some ⟨gt,0,none⟩)] w fun e w'=>e=.returned (.tuple #[])∧w=w':=by
 have hlen:=h.len;have x0:w.cell? ⟨gw,0,none⟩=some (.slice (some ⟨W,0,none⟩) n n):=h.bw.cell 0
 have x1:w.cell? ⟨W,v,none⟩=some (.bool true):=by
  rw[Blk.cell h.fl]
  have hv':v<flags.length:=by omega
  simp[List.getD,hv'] at hf;simp[hv',hf]
 go_enter Tryz.func129,Tryz.ntmps129
 go_wp2_with fail
 go_end0
 exact⟨rfl,rfl⟩
theorem putQ_no (v:Nat) (gw W gt C n:Nat) (flags:List Bool) (q:List Int) (w:World) (h:QSt w gw W gt C n flags q) (hv:v<n) (hf:flags.getD v false=false) (hn:n≤1048576) (hq:q.length<n):
 Calls Tryz.prog 129 #[.int .i64 v,.pointer (some ⟨gw,0,none⟩),.pointer (some ⟨gt,0,none⟩)] w fun e w'=>e=.returned (.tuple #[])∧QSt w' gw W gt C n (flags.set v true) (q++[(v:Int)])∧Off [W,C] w w':=by
 have hlen:=h.len;have x0:w.cell? ⟨gw,0,none⟩=some (.slice (some ⟨W,0,none⟩) n n):=h.bw.cell 0
 have x1:w.cell? ⟨W,v,none⟩=some (.bool false):=by
  rw[Blk.cell h.fl]
  have hv':v<flags.length:=by omega
  simp[List.getD,hv'] at hf;simp[hv',hf]
 refine calls_of_wpN Tryz.func129 rfl ?_;simp only[Tryz.ntmps129,List.size_toArray,List.length_cons,List.length_nil,Nat.reduceAdd,Nat.reduceSub,Array.replicate_succ,Array.replicate_zero,List.push_toArray,List.append_toArray,List.nil_append,List.cons_append];obtain⟨n1,n2,n3,n4,n5⟩:=h.ne;obtain⟨hl,b1,b2,b3,s,r,hc⟩:=h;have f1:w.frozen? ⟨W,v,none⟩=false:=b2.frozen v;have c1:=b1.other (g':=W) (Ne.symm n5) v (.bool true);have c2:=b2.set_ v (.bool true);have c3:=b3.other (g':=W) (Ne.symm n4) v (.bool true);have y0:(w.setCell ⟨W,v,none⟩ (.bool true)).cell? ⟨gt,0,none⟩=some (.chan (some C)):=c3.cell 0;have hc1:(w.setCell ⟨W,v,none⟩ (.bool true)).heap[C]?=some (.chan n (q.map (Value.int .i64)).toArray false s r false):=(Below.heap_setCell _ _ _ _ (Ne.symm n2)).trans hc;have hCl:C<(w.setCell ⟨W,v,none⟩ (.bool true)).heap.size:=(Array.getElem?_eq_some_iff.1 hc1).1;refine wpN_seq_k (fun K hK=>?_);go_wp2_with fail;refine hK.out _ _ ?_;clear hK K;refine wpN_cond (t:=true) rfl ?_;simp only[if_true];refine wpN_seq_k (fun K hK=>?_);go_wp2_with fail;refine hK.out _ _ ?_;clear hK K;refine wpN_region ?_;show opsN _ _ _ [0,1,2] _ _;have ho:Off [W,C] w (w.setCell ⟨W,v,none⟩ (.bool true)):=(Off.refl _ _).set (by simp) _ _;generalize w.setCell ⟨W,v,none⟩ (.bool true)=w1 at c1 c2 c3 y0 hc1 hCl ho ⊢;refine opsN_value (v:=.chan (some C)) (w':=w1) rfl rfl ?_ ?_
 · go_simp
 simp only[Act.put,qd,qh,qi];refine opsN_value (v:=.int .i64 v) (w':=w1) rfl rfl ?_ ?_
 · go_simp
 simp only[Act.put,qd,qh,qi];refine opsN_send (c:=C) (v:=.int .i64 v) (z':=.tuple #[]) (w₁:=w1) rfl rfl ?_ hc1 (by simpa using hq) ?_
 · rfl
 refine opsN_nil ?_;refine bodyPost_end (results_none rfl _ _ _) rfl ⟨rfl,?_,ho.chan (by simp) _ _ _ _ _⟩
 refine⟨by simp[hl],c1.chan _ _ _ _ _ n1,?_,c3.chan _ _ _ _ _ n3,s+1,r,?_⟩
 · have:=c2.chan (C:=C) (cap:=n) (((q.map (Value.int .i64)).toArray).push (.int .i64 v)) false (s+1) r false n2
   rw[List.map_set]
   simpa using this
 · rw[heap_setChan _ _ _ _ _ _ _ _ hCl]
   simp
end Go.Proofs.YtdmakpmbknindaaGreatDoor
namespace Go.Proofs.YtdmakpmbknindaaGreatDoor
open Go.RowKit
def mayL (x:IneqD) (n:Int):Bool:=mayX x&&(x.lc != 0 || decide (x.lv<n))&&decide (x.r<n)
def leftL (is:List Int) (x:IneqD):Int:=if x.lc=0 then is.getD x.lv.toNat 0 else x.lc
theorem leastMay_any (x:IneqD) (n:Int) (w:World):
 Calls Tryz.prog 80 #[.agg #[.int .i64 x.lv,.int .u8 x.lc,.int .u8 x.c,.int .i64 x.r],.int .i64 n] w fun e w'=>e=.returned (.bool (mayL x n))∧Below w.heap.size w w':=by
 cases hm:mayX x
 · have HM:=qq (mayQE_no hm)
   have HF:Hid (mayL x n=false):=by show _=_; simp[mayL,hm]
   clear hm;have hX:=blk_new w #[.int .i64 x.lv,.int .u8 x.lc,.int .u8 x.c,.int .i64 x.r] 70;have hb0:=below_box (w:=w) (Obj.cells #[.int .i64 x.lv,.int .u8 x.lc,.int .u8 x.c,.int .i64 x.r] 70)
   go_enter Tryz.func80,Tryz.ntmps80
   go_wp2_with fail
   refine(mayQ_at HM.out _).mono ?_; rintro e w1 ⟨rfl,hb1⟩
   have hX1:=hX.below hb1 hX.lt;have hw1:=hb0.trans (hb1.mono hb0.size);have x0:w1.cell? ⟨w.heap.size,0,none⟩=some (.int .i64 x.lv):=hX1.cell 0;have x1:w1.cell? ⟨w.heap.size,1,none⟩=some (.int .u8 x.lc):=hX1.cell 1;have x3:w1.cell? ⟨w.heap.size,3,none⟩=some (.int .i64 x.r):=hX1.cell 3;go_wp2_with fail;go_ret
   exact⟨by rw[HF.out]; first | rfl | (simp; done),hw1⟩
 · have HM:=qq (mayQE_yes hm)
   by_cases h0:x.lc=0
   · have d0:(x.lc != 0)=false:=by simp[h0]
     by_cases h1:x.lv<n
     · have HF:Hid (mayL x n=decide (x.r<n)):=by show _=_; simp[mayL,hm,h1]
       clear hm h0;have hX:=blk_new w #[.int .i64 x.lv,.int .u8 x.lc,.int .u8 x.c,.int .i64 x.r] 70;have hb0:=below_box (w:=w) (Obj.cells #[.int .i64 x.lv,.int .u8 x.lc,.int .u8 x.c,.int .i64 x.r] 70)
       go_enter Tryz.func80,Tryz.ntmps80
       go_wp2_with fail
       refine(mayQ_at HM.out _).mono ?_; rintro e w1 ⟨rfl,hb1⟩
       have hX1:=hX.below hb1 hX.lt;have hw1:=hb0.trans (hb1.mono hb0.size);have x0:w1.cell? ⟨w.heap.size,0,none⟩=some (.int .i64 x.lv):=hX1.cell 0;have x1:w1.cell? ⟨w.heap.size,1,none⟩=some (.int .u8 x.lc):=hX1.cell 1;have x3:w1.cell? ⟨w.heap.size,3,none⟩=some (.int .i64 x.r):=hX1.cell 3;go_wp2_with fail;go_ret
       exact⟨by rw[HF.out]; first | rfl | (simp; done),hw1⟩
     · have HF:Hid (mayL x n=false):=by show _=_; simp[mayL,h0,h1]
       clear hm h0;have hX:=blk_new w #[.int .i64 x.lv,.int .u8 x.lc,.int .u8 x.c,.int .i64 x.r] 70;have hb0:=below_box (w:=w) (Obj.cells #[.int .i64 x.lv,.int .u8 x.lc,.int .u8 x.c,.int .i64 x.r] 70)
       go_enter Tryz.func80,Tryz.ntmps80
       go_wp2_with fail
       refine(mayQ_at HM.out _).mono ?_; rintro e w1 ⟨rfl,hb1⟩
       have hX1:=hX.below hb1 hX.lt;have hw1:=hb0.trans (hb1.mono hb0.size);have x0:w1.cell? ⟨w.heap.size,0,none⟩=some (.int .i64 x.lv):=hX1.cell 0;have x1:w1.cell? ⟨w.heap.size,1,none⟩=some (.int .u8 x.lc):=hX1.cell 1;have x3:w1.cell? ⟨w.heap.size,3,none⟩=some (.int .i64 x.r):=hX1.cell 3;go_wp2_with fail;go_ret
       exact⟨by rw[HF.out]; first | rfl | (simp; done),hw1⟩
   · have d0:(x.lc != 0)=true:=by simp[h0]
     have HF:Hid (mayL x n=decide (x.r<n)):=by show _=_; simp[mayL,hm,h0]
     clear hm h0;have hX:=blk_new w #[.int .i64 x.lv,.int .u8 x.lc,.int .u8 x.c,.int .i64 x.r] 70;have hb0:=below_box (w:=w) (Obj.cells #[.int .i64 x.lv,.int .u8 x.lc,.int .u8 x.c,.int .i64 x.r] 70)
     go_enter Tryz.func80,Tryz.ntmps80
     go_wp2_with fail
     refine(mayQ_at HM.out _).mono ?_; rintro e w1 ⟨rfl,hb1⟩
     have hX1:=hX.below hb1 hX.lt;have hw1:=hb0.trans (hb1.mono hb0.size);have x0:w1.cell? ⟨w.heap.size,0,none⟩=some (.int .i64 x.lv):=hX1.cell 0;have x1:w1.cell? ⟨w.heap.size,1,none⟩=some (.int .u8 x.lc):=hX1.cell 1;have x3:w1.cell? ⟨w.heap.size,3,none⟩=some (.int .i64 x.r):=hX1.cell 3;go_wp2_with fail;go_ret
     exact⟨by rw[HF.out]; first | rfl | (simp; done),hw1⟩
theorem left_any (x:IneqD) (g:Nat) (A:Option Addr) (n c:Nat) (is:List Int) (w:World) (B:Nat) (h2:w.cell? ⟨g,2,none⟩=some (.slice A n c)) (hr:RdI .u8 w B A n c is) (hB:B≤w.heap.size) (hg:g<w.heap.size) (hlv:x.lc=0→0≤x.lv∧x.lv<n):
 Calls Tryz.prog 84 #[.pointer (some ⟨g,0,none⟩),.agg #[.int .i64 x.lv,.int .u8 x.lc,.int .u8 x.c,.int .i64 x.r]] w fun e w'=>e=.returned (.int .u8 (leftL is x))∧Below w.heap.size w w':=by
 obtain⟨lv,lc,xc,xr⟩:=x;dsimp only at hlv ⊢;have hn63:n≤9223372036854775807:=Nat.le_trans hr.2.1 hr.2.2
 by_cases h0:lc=0
 · obtain⟨hv0,hv1⟩:=hlv h0
   obtain⟨k,rfl⟩:∃ k:Nat,lv=(k:Int):=⟨lv.toNat,(Int.toNat_of_nonneg hv0).symm⟩;subst h0;have hX:=blk_new w #[.int .i64 (k:Int),.int .u8 0,.int .u8 xc,.int .i64 xr] 70;have hb0:=below_box (w:=w) (Obj.cells #[.int .i64 (k:Int),.int .u8 0,.int .u8 xc,.int .i64 xr] 70);have y2:(w.alloc (Obj.cells #[.int .i64 (k:Int),.int .u8 0,.int .u8 xc,.int .i64 xr] 70)).cell? ⟨g,2,none⟩=some (.slice A n c):=(World.cell?_alloc_lt _ _ ⟨g,2,none⟩ hg).trans h2;have x0:(w.alloc (Obj.cells #[.int .i64 (k:Int),.int .u8 0,.int .u8 xc,.int .i64 xr] 70)).cell? ⟨w.heap.size,0,none⟩=some (.int .i64 (k:Int)):=hX.cell 0;have x1:(w.alloc (Obj.cells #[.int .i64 (k:Int),.int .u8 0,.int .u8 xc,.int .i64 xr] 70)).cell? ⟨w.heap.size,1,none⟩=some (.int .u8 0):=hX.cell 1;have hl:=hr.len
   have hkn:k<n:=by omega
   obtain⟨b,off,rfl,hb,hcell⟩:=(hr.below (hb0.mono hB)).at_ (by omega)
   have hkl:k<is.length:=by omega
   have q0:=hcell k hkl
   have HF:Hid (leftL is ⟨k,0,xc,xr⟩=is[k]):=by
    show _=_;unfold leftL;rw[if_pos rfl];simp[List.getD,hkl]
   generalize is[k]=LL at q0 HF
   have i1:(0:Int)≤(k:Int):=by omega
   have i2:(k:Int)<n:=by omega
   clear hlv hv0 hv1 hcell hl hkl
   go_enter Tryz.func84,Tryz.ntmps84
   go_wp2_with fail
   go_quiet (fail)
   go_wp2_with fail;go_ret
   exact⟨by rw[HF.out]; rfl,below_drewN_t hb0 _⟩
 · skip
   have hX:=blk_new w #[.int .i64 lv,.int .u8 lc,.int .u8 xc,.int .i64 xr] 70;have hb0:=below_box (w:=w) (Obj.cells #[.int .i64 lv,.int .u8 lc,.int .u8 xc,.int .i64 xr] 70);have y2:(w.alloc (Obj.cells #[.int .i64 lv,.int .u8 lc,.int .u8 xc,.int .i64 xr] 70)).cell? ⟨g,2,none⟩=some (.slice A n c):=(World.cell?_alloc_lt _ _ ⟨g,2,none⟩ hg).trans h2;have x0:(w.alloc (Obj.cells #[.int .i64 lv,.int .u8 lc,.int .u8 xc,.int .i64 xr] 70)).cell? ⟨w.heap.size,0,none⟩=some (.int .i64 lv):=hX.cell 0;have x1:(w.alloc (Obj.cells #[.int .i64 lv,.int .u8 lc,.int .u8 xc,.int .i64 xr] 70)).cell? ⟨w.heap.size,1,none⟩=some (.int .u8 lc):=hX.cell 1
   have HF:Hid (leftL is ⟨lv,lc,xc,xr⟩=lc):=by show _=_; unfold leftL; rw[if_neg h0]
   have d0:(lc != 0)=true:=by simp[h0]
   clear h0 hlv
   go_enter Tryz.func84,Tryz.ntmps84
   go_wp2_with fail;go_ret
   exact⟨by rw[HF.out]; rfl,hb0⟩
end Go.Proofs.YtdmakpmbknindaaGreatDoor
namespace Go.Proofs.YtdmakpmbknindaaGreatDoor
open Go.RowKit Go.Conc
theorem left_at {x:IneqD} {g:Nat} {A:Option Addr} {n c:Nat} {is:List Int} {w:World} {L:Int} (hL:leftL is x=L) (h2:w.cell? ⟨g,2,none⟩=some (.slice A n c)) (hr:RdI .u8 w w.heap.size A n c is) (hg:g<w.heap.size) (hlv:x.lc=0→0≤x.lv∧x.lv<n):
 Calls Tryz.prog 84 #[.pointer (some ⟨g,0,none⟩),.agg #[.int .i64 x.lv,.int .u8 x.lc,.int .u8 x.c,.int .i64 x.r]] w fun e w'=>e=.returned (.int .u8 L)∧Below w.heap.size w w':=by
 rw[← hL];exact left_any x g A n c is w w.heap.size h2 hr (Nat.le_refl _) hg hlv
def raiseB (is:List Int) (x:IneqD):Bool:=decide (0≤x.r)&&decide (max x.c (is.getD x.r.toNat 0)<leftL is x)
theorem raise_no (g:Nat) (Al:Option Addr) (nl cl:Nat) (xs:List IneqD) (I n ci:Nat) (is:List Int) (i:Nat) (x:IneqD) (w:World) (h0:w.cell? ⟨g,0,none⟩=some (.slice Al nl cl)) (h2:w.cell? ⟨g,2,none⟩=some (.slice (some ⟨I,0,none⟩) n ci)) (hx:IneqsV w w.heap.size Al nl cl xs) (hr:RdI .u8 w w.heap.size (some ⟨I,0,none⟩) n ci is) (hg:g<w.heap.size)
 (hi:xs[i]?=some x) (hlv:x.lc=0→0≤x.lv∧x.lv<n) (hrn:x.r<n) (hno:raiseB is x=false):
 Calls Tryz.prog 130 #[.pointer (some ⟨g,0,none⟩),.int .i64 i] w fun e w'=>e=.returned (.bool false)∧Below w.heap.size w w':=by
 obtain⟨hil,hxi⟩:=List.getElem?_eq_some_iff.1 hi;have hl:=hx.len
 have hin:i<nl:=by omega
 have hnl63:nl≤9223372036854775807:=Nat.le_trans hx.2.1 hx.2.2.1;have hn63:n≤9223372036854775807:=Nat.le_trans hr.2.1 hr.2.2;obtain⟨bl,offl,rfl,hbl,hcl⟩:=hx.at_ (by omega);obtain⟨e0,e1,e2,e3⟩:=hcl i hil;rw[hxi] at e0 e1 e2 e3
 have i1:(0:Int)≤(i:Int):=by omega
 have i2:(i:Int)<nl:=by omega
 have hbx:=below_box (w:=w) (Obj.cells #[.int .i64 x.lv,.int .u8 x.lc,.int .u8 x.c,.int .i64 x.r] 70);have hX:=blk_new w #[.int .i64 x.lv,.int .u8 x.lc,.int .u8 x.c,.int .i64 x.r] 70;have y2:(w.alloc (Obj.cells #[.int .i64 x.lv,.int .u8 x.lc,.int .u8 x.c,.int .i64 x.r] 70)).cell? ⟨g,2,none⟩=some (.slice (some ⟨I,0,none⟩) n ci):=(World.cell?_alloc_lt _ _ ⟨g,2,none⟩ hg).trans h2;have hr1:=(hr.below hbx).more hbx.size
 have hg1:g<(w.alloc (Obj.cells #[.int .i64 x.lv,.int .u8 x.lc,.int .u8 x.c,.int .i64 x.r] 70)).heap.size:=by simp; omega
 obtain⟨L,hL⟩:∃ L,leftL is x=L:=⟨_,rfl⟩;have hq:=left_at hL y2 hr1 hg1 hlv;have Hq:=qq hq;have Hlv:=qq hlv;have HL:=qq hL
 by_cases hr0:x.r<0
 · clear hl hcl hxi hi hno hq hlv hL
   go_enter Tryz.func130,Tryz.ntmps130
   go_wp2_with fail
   go_quiet (fail)
   go_wp2_with fail;go_ret;exact⟨rfl,below_drewN_t hbx _⟩
 · have hmx:=@run_max2 Tryz.prog
   obtain⟨lv,lc,xc,xr⟩:=x;dsimp only at *;obtain⟨k,rfl⟩:∃ k:Nat,xr=(k:Int):=⟨xr.toNat,(Int.toNat_of_nonneg (by omega)).symm⟩;have hil2:=hr.len
   have hkn:k<n:=by omega
   have hkl:k<is.length:=by omega
   obtain⟨b9,off9,hA9,hb9,hcell⟩:=hr1.at_ (by omega)
   cases hA9
   have q0:=hcell k hkl;rw[Nat.zero_add] at q0
   have hnn:¬ (max xc is[k]<L):=by
    intro h
    have:raiseB is ⟨lv,lc,xc,(k:Int)⟩=true:=by
     have hgd:is.getD (k:Int).toNat 0=is[k]:=by rw[Int.toNat_natCast]; simp[List.getD,hkl]
     unfold raiseB
     rw[hL,hgd,decide_eq_true (show(0:Int)≤(k:Int) by omega),decide_eq_true h]
     rfl
    rw[hno] at this; cases this
   generalize is[k]=LL at q0 hnn
   have d0:decide ((k:Int)<0)=false:=by simp
   have d1:decide (L≤max xc LL)=true:=by simp; omega
   have k1:(0:Int)≤(k:Int):=by omega
   have k2:(k:Int)<n:=by omega
   have Hbx:=qq hbx;have Hr1:=qq hr1;have HX:=qq hX;have Hy2:=qq y2;clear hl hcl hxi hi hno hq hlv hL hnn hcell hil2 hr1 hr hX hr0 hbx Hq
   go_enter Tryz.func130,Tryz.ntmps130
   go_wp2_with fail;generalize hW:w.alloc (Obj.cells #[.int .i64 lv,.int .u8 lc,.int .u8 xc,.int .i64 (k:Int)] 70)=w0 at y2 q0 hg1 Hr1 HX Hy2 Hbx ⊢;clear hW;have x0:w0.cell? ⟨w.heap.size,0,none⟩=some (.int .i64 lv):=HX.out.cell 0;have x1:w0.cell? ⟨w.heap.size,1,none⟩=some (.int .u8 lc):=HX.out.cell 1;have x2:w0.cell? ⟨w.heap.size,2,none⟩=some (.int .u8 xc):=HX.out.cell 2;have x3:w0.cell? ⟨w.heap.size,3,none⟩=some (.int .i64 (k:Int)):=HX.out.cell 3;have kx0:=fun d os=>cell_regrown x0 d os;have kx1:=fun d os=>cell_regrown x1 d os;have kx2:=fun d os=>cell_regrown x2 d os;have kx3:=fun d os=>cell_regrown x3 d os;have ky2:=fun d os=>cell_regrown y2 d os;have kq0:=fun d os=>cell_regrown q0 d os;clear x0 x1 x2 x3 y2 q0
   have hq:∀ d os,Calls Tryz.prog 84 #[.pointer (some ⟨g,0,none⟩),.agg #[.int .i64 lv,.int .u8 lc,.int .u8 xc,.int .i64 (k:Int)]] («Sort».grow (redrawn w0 d) os) (fun e w'=>e=.returned (.int .u8 L)∧Below («Sort».grow (redrawn w0 d) os).heap.size («Sort».grow (redrawn w0 d) os) w'):=fun d os=>
    left_at (x:=⟨lv,lc,xc,(k:Int)⟩) HL.out (cell_regrown Hy2.out d os) ((Hr1.out.below (below_regrown w0 d os)).more (below_regrown w0 d os).size) (Nat.lt_of_lt_of_le hg1 (below_regrown w0 d os).size) Hlv.out
   replace hq:=qq hq;refine wp_region_quiet_below (by kernel_rfl) (by kernel_rfl) ?_
   repeat (go_big_quiet_step ((first | (go_at_call 84; exact Calls.regrown_of (hq.out _ _)))))
   refine wpQuiet_nil ?_;intro _ hw';obtain⟨⟨dq,osq⟩,hw''⟩:=hw';subst hw'';go_wp2_with fail;go_ret;exact⟨rfl,Hbx.out.trans ((below_regrown _ _ _).mono Hbx.out.size)⟩
end Go.Proofs.YtdmakpmbknindaaGreatDoor
