import Derived.Test.YtgpeijkjmkocgaaDoorM22
import Derived.Test.YtgpeijkjmkocgaaDoorM17
import Derived.Test.YtgpeijkjmkocgaaDoorM19
set_option linter.unusedVariables false
set_option linter.unusedSimpArgs false
namespace Go.Proofs.YtgpeijkjmkocgaaDoor
open Go.RowKit
def arrN:Array Value:=#[.string ⟨#[66,111,111,108]⟩,.string ⟨#[85,110,105,116]⟩,.string ⟨#[80,97,105,114]⟩,.string ⟨#[76,105,115,116]⟩,.string ⟨#[79,112,101,110,101,100]⟩,.string ⟨#[82,101,97,100]⟩,.string ⟨#[71,111,116]⟩,.string ⟨#[83,105,122,101,100]⟩,.string ⟨#[87,114,111,116,101]⟩]
def arrP:Array Value:=#[.int .i64 0,.int .i64 0,.int .i64 2,.int .i64 1,.int .i64 0,.int .i64 0,.int .i64 1,.int .i64 1,.int .i64 0]
def arrC:Array Value:=#[.string ⟨#[70,97,108,115,101]⟩,.string ⟨#[84,114,117,101]⟩,.string ⟨#[85,110,105,116]⟩,.string ⟨#[80,97,105,114]⟩,.string ⟨#[78,105,108]⟩,.string ⟨#[67,111,110,115]⟩,.string ⟨#[89,101,115]⟩,.string ⟨#[78,111]⟩,.string ⟨#[76,105,110,101]⟩,.string ⟨#[69,110,100]⟩,.string ⟨#[84,111,114,110]⟩,.string ⟨#[71,111,116]⟩,.string ⟨#[83,105,122,101,100]⟩,.string ⟨#[68,111,110,101]⟩,.string ⟨#[70,97,105,108]⟩]
def arrO:Array Value:=#[.int .i64 0,.int .i64 0,.int .i64 1,.int .i64 2,.int .i64 3,.int .i64 3,.int .i64 4,.int .i64 4,.int .i64 5,.int .i64 5,.int .i64 5,.int .i64 6,.int .i64 7,.int .i64 8,.int .i64 8]
theorem arrN_at {k:Nat} (hk:k<9):∃ h:k<gvD.length,arrN[k]?=some (.string gvD[k].name)∧arrP[k]?=some (.int .i64 gvD[k].params)∧gvD[k]=⟨gvD[k].name,gvD[k].params,[]⟩:=by
 refine⟨hk,?_⟩
 obtain rfl | rfl | rfl | rfl | rfl | rfl | rfl | rfl | rfl:k=0∨k=1∨k=2∨k=3∨k=4∨k=5∨k=6∨k=7∨k=8:=by omega
 all_goals exact⟨rfl,rfl,rfl⟩
theorem dataInfo2:(Tryd.prog.info? 52).map (fun i=>(i.zero,i.size,i.bytes))=some (some (.agg #[.string ByteArray.empty,.int .i64 0,.slice none 0 0]),3,48):=by kernel_rfl
structure Gd1 (w:World) (k:Nat) (vd:Value) (vs:List Value) (wr:World):Prop where
 bk:Blk wr (w.heap.size+1) 25 #[vd,.slice none 0 0]
 sm:SigM wr (w.heap.size+4) (fun b=>b<w.heap.size+4) ⟨gvD.take k,[]⟩ vd (.slice none 0 0) vs
 r0:Blk wr w.heap.size 25 #[.slice none 0 0,.slice none 0 0]
 nm:Blk wr (w.heap.size+2) 111 arrN
 ps:Blk wr (w.heap.size+3) 113 arrP
 bel:Below w.heap.size w wr
theorem Gd1.below {w wr wy:World} {k:Nat} {vd:Value} {vs:List Value} (h:Gd1 w k vd vs wr) (hb:Below wr.heap.size wr wy):Gd1 w k vd vs wy:=
 ⟨h.bk.below hb h.bk.lt,h.sm.below hb,h.r0.below hb h.r0.lt,h.nm.below hb h.nm.lt,h.ps.below hb h.ps.lt,h.bel.trans (hb.mono h.bel.size)⟩
theorem Gd1.make (w:World):∃ W0 W1 W2 W3,w.alloc (Obj.cells #[.slice none 0 0,.slice none 0 0] 25)=W0∧W0.alloc (Obj.cells #[.slice none 0 0,.slice none 0 0] 25)=W1∧W1.alloc (Obj.cells arrN 111)=W2∧W2.alloc (Obj.cells arrP 113)=W3∧W0.heap.size=w.heap.size+1∧W1.heap.size=w.heap.size+2∧W2.heap.size=w.heap.size+3∧Gd1 w 0 (.slice none 0 0) [] W3:=by
 obtain⟨W0,h0⟩:∃ x,w.alloc (Obj.cells #[.slice none 0 0,.slice none 0 0] 25)=x:=⟨_,rfl⟩
 have s0:W0.heap.size=w.heap.size+1:=by rw[← h0]; simp
 have k0:=blk_new w #[.slice none 0 0,.slice none 0 0] 25;have g0:=below_box (w:=w) (Obj.cells #[.slice none 0 0,.slice none 0 0] 25);rw[h0] at k0 g0;obtain⟨W1,h1⟩:∃ x,W0.alloc (Obj.cells #[.slice none 0 0,.slice none 0 0] 25)=x:=⟨_,rfl⟩
 have s1:W1.heap.size=w.heap.size+2:=by rw[← h1]; simp[s0]
 have k1:=blk_new W0 #[.slice none 0 0,.slice none 0 0] 25;have g1:=below_box (w:=W0) (Obj.cells #[.slice none 0 0,.slice none 0 0] 25);rw[h1,s0] at k1 g1;obtain⟨W2,h2⟩:∃ x,W1.alloc (Obj.cells arrN 111)=x:=⟨_,rfl⟩
 have s2:W2.heap.size=w.heap.size+3:=by rw[← h2]; simp[s1]
 have k2:=blk_new W1 arrN 111;have g2:=below_box (w:=W1) (Obj.cells arrN 111);rw[h2,s1] at k2 g2;obtain⟨W3,h3⟩:∃ x,W2.alloc (Obj.cells arrP 113)=x:=⟨_,rfl⟩;have k3:=blk_new W2 arrP 113;have g3:=below_box (w:=W2) (Obj.cells arrP 113);rw[h3,s2] at k3 g3;refine⟨W0,W1,W2,W3,h0,h1,h2,h3,s0,s1,s2,⟨?_,SigM.nil _ _ _,?_,?_,k3,?_⟩⟩
 · exact(k1.below g2 (by omega)).below g3 (by omega)
 · exact((k0.below g1 (by omega)).below g2 (by omega)).below g3 (by omega)
 · exact k2.below g3 (by omega)
 · exact((g0.trans (g1.mono (by omega))).trans (g2.mono (by omega))).trans (g3.mono (by omega))
theorem take_gvD {k:Nat} (hk:k<9):gvD.take (k+1)=gvD.take k++[⟨(gvD[k]'hk).name,(gvD[k]'hk).params,[]⟩]:=by
 obtain⟨_,_,_,e⟩:=arrN_at hk
 have h:=List.take_succ_eq_append_getElem (l:=gvD) (show k<gvD.length from hk)
 rw[h];exact congrArg (fun x=>gvD.take k++[x]) e
theorem datAt {k:Nat} (hk:k<9):∃ nm pm,arrN[k]?=some (.string nm)∧arrP[k]?=some (.int .i64 pm)∧gvD.take (k+1)=gvD.take k++[⟨nm,pm,[]⟩]:=by
 obtain⟨_,h1,h2,_⟩:=arrN_at hk;exact⟨_,_,h1,h2,take_gvD hk⟩
theorem gv_clen {k:Nat} (hk:k≤15):(gv k).cons.length=k:=by
 have h:((List.range 16).all fun k=>decide ((gv k).cons.length=k))=true:=by decide +kernel
 exact of_decide_eq_true (List.all_eq_true.1 h k (List.mem_range.2 (by omega)))
theorem conAt {k:Nat} (hk:k<15):∃ nm n l,gvC[k]?=some (nm,n,l)∧arrC[k]?=some (.string nm)∧arrO[k]?=some (.int .i64 (n:Nat))∧n<9:=by
 obtain rfl | rfl | rfl | rfl | rfl | rfl | rfl | rfl | rfl | rfl | rfl | rfl | rfl | rfl | rfl:k=0∨k=1∨k=2∨k=3∨k=4∨k=5∨k=6∨k=7∨k=8∨k=9∨k=10∨k=11∨k=12∨k=13∨k=14:=by omega
 all_goals exact⟨_,_,_,rfl,rfl,rfl,by decide⟩
structure Gd2 (w:World) (lo:Nat) (s:SigD) (vd vc:Value) (vs:List Value) (wr:World):Prop where
 bk:Blk wr (w.heap.size+1) 25 #[vd,vc]
 sm:SigM wr (w.heap.size+4) (fun b=>b<w.heap.size+4) s vd vc vs
 nob:∀ b,RowB vd vc vs b→b<lo∨lo+6≤b
 r0:Blk wr w.heap.size 25 #[.slice none 0 0,.slice none 0 0]
 bc:Blk wr lo 115 arrC
 bo:Blk wr (lo+1) 116 arrO
 ba:Blk wr (lo+2) 63 #[.int .u8 1,.int .i64 0,.int .i64 0,.int .u8 0,.slice none 0 0]
 bf:Blk wr (lo+3) 63 #[.int .u8 5,.int .i64 0,.int .i64 0,.int .u8 0,.slice none 0 0]
 br:Blk wr (lo+4) 63 #[.int .u8 1,.int .i64 0,.int .i64 0,.int .u8 0,.slice none 0 0]
 bx:Blk wr (lo+5) 63 #[.int .u8 6,.int .i64 0,.int .i64 0,.int .u8 0,.slice (some ⟨lo+4,0,none⟩) 1 1]
 lo4:w.heap.size+4≤lo
 bel:Below w.heap.size w wr
section
variable {w wr wy:World} {lo:Nat} {s:SigD} {vd vc:Value} {vs:List Value}
theorem Gd2.below (h:Gd2 w lo s vd vc vs wr) (hb:Below wr.heap.size wr wy):Gd2 w lo s vd vc vs wy:=
 ⟨h.bk.below hb h.bk.lt,h.sm.below hb,h.nob,h.r0.below hb h.r0.lt,h.bc.below hb h.bc.lt,h.bo.below hb h.bo.lt,h.ba.below hb h.ba.lt,h.bf.below hb h.bf.lt,h.br.below hb h.br.lt,h.bx.below hb h.bx.lt,h.lo4,h.bel.trans (hb.mono h.bel.size)⟩
theorem Gd2.hi (h:Gd2 w lo s vd vc vs wr):lo+5<wr.heap.size:=h.bx.lt
theorem Gd2.no (h:Gd2 w lo s vd vc vs wr) {b:Nat} (hb:b<w.heap.size+4∨lo≤b∧b<lo+6):¬ RowB vd vc vs b:=fun e=>by
 have h2:=(h.sm.rows e).1;have h3:=h.nob b e;omega
theorem Gd2.con (h:Gd2 w lo s vd vc vs wr) {vc':Value} {c:ConD} (ho:OwnC wy (w.heap.size+4) 58 4 (Apart (fun b=>b<w.heap.size+4) vd vs) vc' (s.cons.length+1) (s.cons.flatMap encCn++encCn c)) (hg:wr.grownBy wy vc.ownBlock) (hz:wr.heap.size≤wy.heap.size)
  (hn:vc'.ownBlock=vc.ownBlock∨vc'.ownBlock=some (wr.heap.size+1)):Gd2 w lo ⟨s.datas,s.cons++[c]⟩ vd vc' vs (wy.setCell ⟨w.heap.size+1,1,none⟩ vc'):=by
 have hno:∀ b,(b<w.heap.size+4∨lo≤b∧b<lo+6)→some b≠vc.ownBlock:=fun b h1 e=>h.no h1 (Or.inr (Or.inl e.symm));have hhi:=h.hi;have hlo:=h.lo4
 have hrow:∀ b,RowB vd vc' vs b→w.heap.size+4≤b∧(b<lo∨lo+6≤b):=fun b hb=>by
  rcases hb with e | e | e
  · exact⟨(h.sm.rows (Or.inl e)).1,h.nob b (Or.inl e)⟩
  · rcases hn with q | q
    · rw[q] at e
      exact⟨(h.sm.rows (Or.inr (Or.inl e))).1,h.nob b (Or.inr (Or.inl e))⟩
    · rw[q] at e
      injection e with e
      omega
  · exact⟨(h.sm.rows (Or.inr (Or.inr e))).1,h.nob b (Or.inr (Or.inr e))⟩
 have hsm:=h.sm.con ho hg hz (hn.imp id fun e=>⟨_,e,by omega⟩)
 have hs9:=hsm.setR (p:=⟨w.heap.size+1,1,none⟩) (fun e=>by have:=(hrow (w.heap.size+1) e).1; omega) (by show w.heap.size+1<w.heap.size+4; omega) vc'
 have hk:∀ {b:Nat} {ty:TypeId} {cs:Array Value},Blk wr b ty cs→(b<w.heap.size+4∨lo≤b∧b<lo+6)→w.heap.size+1≠b→Blk (wy.setCell ⟨w.heap.size+1,1,none⟩ vc') b ty cs:=fun hb h1 h2=>(hb.grown hg (hno _ h1)).other h2 1 vc'
 refine⟨(h.bk.grown hg (hno _ (by omega))).set_ 1 vc',hs9,fun b e=>(hrow b e).2,hk h.r0 (by omega) (by omega),hk h.bc (by omega) (by omega),hk h.bo (by omega) (by omega),hk h.ba (by omega) (by omega),hk h.bf (by omega) (by omega),hk h.br (by omega) (by omega),hk h.bx (by omega) (by omega),h.lo4,⟨hg.os.trans h.bel.os,hg.tape.trans h.bel.tape,hg.output.trans h.bel.output,by rw[World.size_setCell]; exact Nat.le_trans h.bel.size hg.size,fun b hb=>?_⟩⟩
 exact(Below.heap_setCell _ _ _ _ (by show b≠w.heap.size+1; omega)).trans ((hg.block b (by omega) (hno b (by omega))).trans (h.bel.block b hb))
theorem Gd2.num (h:Gd2 w lo s vd vc vs wr) {n:Nat} (hn:n<s.datas.length) {v':Value} {x:Int} (hi:n<vs.length) (ho:wy.ownsRow (w.heap.size+4) 3 1 v' (s.datas[n].cons.length+1) (s.datas[n].cons.map (Value.int .i64)++[.int .i64 x])) (hg:wr.grownBy wy vs[n].ownBlock)
  (hb:v'.ownBlock=vs[n].ownBlock∨∃ b,v'.ownBlock=some b∧wr.heap.size≤b) {g:Nat} (hgd:vd.ownBlock=some g):Gd2 w lo ⟨s.datas.modify n fun d => { d with cons:=d.cons++[x] },s.cons⟩ vd vc (vs.set n v') (wy.setCell ⟨g,n * 3+2,none⟩ v'):=by
 have hvn:vs[n]∈vs:=List.getElem_mem hi;have hno:∀ b,(b<w.heap.size+4∨lo≤b∧b<lo+6)→some b≠vs[n].ownBlock:=fun b h1 e=>h.no h1 (Or.inr (Or.inr ⟨_,hvn,e.symm⟩));have hgn:∀ b,(b<w.heap.size+4∨lo≤b∧b<lo+6)→g≠b:=fun b h1 e=>h.no h1 (Or.inl (e ▸ hgd));have hhi:=h.hi;have hlo:=h.lo4;have hk:∀ {b:Nat} {ty:TypeId} {cs:Array Value},Blk wr b ty cs→(b<w.heap.size+4∨lo≤b∧b<lo+6)→Blk (wy.setCell ⟨g,n * 3+2,none⟩ v') b ty cs:=fun hb h1=>(hb.grown hg (hno _ h1)).other (hgn _ h1) _ v'
 refine⟨hk h.bk (by omega),h.sm.num hn hi ho hg hb hgd,fun b e=>?_,hk h.r0 (by omega),hk h.bc (by omega),hk h.bo (by omega),hk h.ba (by omega),hk h.bf (by omega),hk h.br (by omega),hk h.bx (by omega),h.lo4,⟨hg.os.trans h.bel.os,hg.tape.trans h.bel.tape,hg.output.trans h.bel.output,by rw[World.size_setCell]; exact Nat.le_trans h.bel.size hg.size,fun b hb=>?_⟩⟩
 · rcases e with e | e | ⟨v,hv,e⟩
   · exact h.nob b (Or.inl e)
   · exact h.nob b (Or.inr (Or.inl e))
   · rcases List.mem_or_eq_of_mem_set hv with q | q
     · exact h.nob b (Or.inr (Or.inr ⟨v,q,e⟩))
     · subst q
       rcases hb with q | ⟨b',q,q'⟩
       · exact h.nob b (Or.inr (Or.inr ⟨_,hvn,by rw[← q]; exact e⟩))
       · rw[q] at e
         injection e with e
         right
         omega
 · exact(Below.heap_setCell _ _ _ _ (by show b≠g; exact fun e=>hgn b (by omega) e.symm)).trans ((hg.block b (by omega) (hno b (by omega))).trans (h.bel.block b hb))
def ConR (W0:World) (RR:Nat→Prop) (nm:ByteArray) (n:Nat) (l:List (Int × TyD)) (wx:World):Prop:=
 ∃ cs A5 c5 A6 c6,ConH W0 #[.string nm,.int .i64 n,.slice A5 l.length c5,.slice A6 l.length c6] (.slice A5 l.length c5) l.length cs (.slice A6 l.length c6) l.length (l.map fun f=>Value.int .u8 f.1) wx
  ∧ CelsV wx (fun b=>b<wx.heap.size∧some b≠(Value.slice A5 l.length c5).ownBlock∧¬ RR b) ((l.map Prod.snd).flatMap encT) cs
theorem con_cels {W0 wx:World} {RR:Nat→Prop} {nm:ByteArray} {n:Int} {l:List (Int × TyD)} {cs:List Value} {A5 A6:Option Addr} {c5 c6:Nat} (hz:ConH W0 #[.string nm,.int .i64 n,.slice A5 l.length c5,.slice A6 l.length c6] (.slice A5 l.length c5) l.length cs (.slice A6 l.length c6) l.length (l.map fun f=>Value.int .u8 f.1) wx)
  (hc:CelsV wx (fun b=>b<wx.heap.size∧some b≠(Value.slice A5 l.length c5).ownBlock∧¬ RR b) ((l.map Prod.snd).flatMap encT) cs) (hR:∀ b,W0.heap.size+1≤b→¬ RR b):
  CelsV wx (fun b=>b<wx.heap.size∧¬ RR b) (encCn ⟨nm,n,l.map Prod.snd,l.map Prod.fst⟩) [.string nm,.int .i64 n,.slice A5 l.length c5,.slice A6 l.length c6]:=by
 have h5:OwnC wx (W0.heap.size+1) 63 5 RR (.slice A5 l.length c5) l.length ((l.map Prod.snd).flatMap encT):=
  ⟨by rw[flat_len encT_len,List.length_map],cs,hz.rt,hc⟩
 have h6:OwnC wx (W0.heap.size+1) 44 1 RR (.slice A6 l.length c6) l.length ((l.map Prod.fst).flatMap encU):=
  ⟨by rw[flat_len (k:=1) (fun _=>rfl),List.length_map],_,hz.rm,celsU l⟩
 exact⟨celIn_v.2 rfl,celIn_v.2 rfl,h5.cel (fun _ h=>h) hR,h6.cel (fun _ h=>h) hR,trivial⟩
theorem own_two {w:World} {base b:Nat} {t ty:TypeId} {A:Option Addr} {c:Nat} {us:List Value} {x0 x1 x2 x3 x4:Value} (h:w.ownsRow base t 5 (.slice A 2 c) 2 us) (hu:us.length=10) (hb:Blk w b ty #[x0,x1,x2,x3,x4]):some b≠(Value.slice A 2 c).ownBlock:=fun e=>by
 obtain⟨g,rfl,hg,_,_,hc,_⟩:=own_addr h (by omega);rw[hg] at e
 injection e with e
 subst e;have h1:=hc 9 us[9] (qj (by omega));rw[hb.cell 9] at h1;simp at h1
end
theorem Gd2.make {w w5:World} {vd:Value} {vs:List Value} (h:Gd1 w 9 vd vs w5):∃ W5 W6 W7 W8 W9 W10,w5.alloc (Obj.cells arrC 115)=W5∧W5.alloc (Obj.cells arrO 116)=W6∧W6.alloc (Obj.cells #[.int .u8 1,.int .i64 0,.int .i64 0,.int .u8 0,.slice none 0 0] 63)=W7∧W7.alloc (Obj.cells #[.int .u8 5,.int .i64 0,.int .i64 0,.int .u8 0,.slice none 0 0] 63)=W8
  ∧ W8.alloc (Obj.cells #[.int .u8 1,.int .i64 0,.int .i64 0,.int .u8 0,.slice none 0 0] 63)=W9∧W9.alloc (Obj.cells #[.int .u8 6,.int .i64 0,.int .i64 0,.int .u8 0,.slice (some ⟨w5.heap.size+4,0,none⟩) 1 1] 63)=W10
  ∧ W5.heap.size=w5.heap.size+1∧W6.heap.size=w5.heap.size+2∧W7.heap.size=w5.heap.size+3∧W8.heap.size=w5.heap.size+4∧W9.heap.size=w5.heap.size+5∧Blk W8 (w5.heap.size+2) 63 #[.int .u8 1,.int .i64 0,.int .i64 0,.int .u8 0,.slice none 0 0]∧Gd2 w w5.heap.size (gv 0) vd (.slice none 0 0) vs W10:=by
 obtain⟨lo,hlo⟩:∃ q,w5.heap.size=q:=⟨_,rfl⟩;rw[hlo];obtain⟨W5,h5⟩:∃ x,w5.alloc (Obj.cells arrC 115)=x:=⟨_,rfl⟩
 have s5:W5.heap.size=lo+1:=by rw[← h5]; simp[hlo]
 have k5:=blk_new w5 arrC 115;have g5:=below_box (w:=w5) (Obj.cells arrC 115);rw[h5] at k5 g5;rw[hlo] at k5;obtain⟨W6,h6⟩:∃ x,W5.alloc (Obj.cells arrO 116)=x:=⟨_,rfl⟩
 have s6:W6.heap.size=lo+2:=by rw[← h6]; simp[s5]
 have k6:=blk_new W5 arrO 116;have g6:=below_box (w:=W5) (Obj.cells arrO 116);rw[h6,s5] at k6 g6;obtain⟨W7,h7⟩:∃ x,W6.alloc (Obj.cells #[.int .u8 1,.int .i64 0,.int .i64 0,.int .u8 0,.slice none 0 0] 63)=x:=⟨_,rfl⟩
 have s7:W7.heap.size=lo+3:=by rw[← h7]; simp[s6]
 have k7:=blk_new W6 #[.int .u8 1,.int .i64 0,.int .i64 0,.int .u8 0,.slice none 0 0] 63;have g7:=below_box (w:=W6) (Obj.cells #[.int .u8 1,.int .i64 0,.int .i64 0,.int .u8 0,.slice none 0 0] 63);rw[h7,s6] at k7 g7;obtain⟨W8,h8⟩:∃ x,W7.alloc (Obj.cells #[.int .u8 5,.int .i64 0,.int .i64 0,.int .u8 0,.slice none 0 0] 63)=x:=⟨_,rfl⟩
 have s8:W8.heap.size=lo+4:=by rw[← h8]; simp[s7]
 have k8:=blk_new W7 #[.int .u8 5,.int .i64 0,.int .i64 0,.int .u8 0,.slice none 0 0] 63;have g8:=below_box (w:=W7) (Obj.cells #[.int .u8 5,.int .i64 0,.int .i64 0,.int .u8 0,.slice none 0 0] 63);rw[h8,s7] at k8 g8;obtain⟨W9,h9⟩:∃ x,W8.alloc (Obj.cells #[.int .u8 1,.int .i64 0,.int .i64 0,.int .u8 0,.slice none 0 0] 63)=x:=⟨_,rfl⟩
 have s9:W9.heap.size=lo+5:=by rw[← h9]; simp[s8]
 have k9:=blk_new W8 #[.int .u8 1,.int .i64 0,.int .i64 0,.int .u8 0,.slice none 0 0] 63;have g9:=below_box (w:=W8) (Obj.cells #[.int .u8 1,.int .i64 0,.int .i64 0,.int .u8 0,.slice none 0 0] 63);rw[h9,s8] at k9 g9;obtain⟨W10,h10⟩:∃ x,W9.alloc (Obj.cells #[.int .u8 6,.int .i64 0,.int .i64 0,.int .u8 0,.slice (some ⟨lo+4,0,none⟩) 1 1] 63)=x:=⟨_,rfl⟩
 have s10:W10.heap.size=lo+6:=by rw[← h10]; simp[s9]
 have k10:=blk_new W9 #[.int .u8 6,.int .i64 0,.int .i64 0,.int .u8 0,.slice (some ⟨lo+4,0,none⟩) 1 1] 63;have g10:=below_box (w:=W9) (Obj.cells #[.int .u8 6,.int .i64 0,.int .i64 0,.int .u8 0,.slice (some ⟨lo+4,0,none⟩) 1 1] 63);rw[h10,s9] at k10 g10;refine⟨W5,W6,W7,W8,W9,W10,h5,h6,h7,h8,h9,h10,s5,s6,s7,s8,s9,k7.below g8 (by omega),?_⟩;have e5:Below w5.heap.size w5 W5:=g5;have e6:=e5.trans (g6.mono (by omega));have e7:=e6.trans (g7.mono (by omega));have e8:=e7.trans (g8.mono (by omega));have e9:=e8.trans (g9.mono (by omega));have e10:=e9.trans (g10.mono (by omega));have hg:=h.below e10;have hsm:=hg.sm
 rw[show gvD.take 9=gvD from rfl] at hsm
 refine⟨hg.bk,hsm,fun b hb=>?_,hg.r0,((((k5.below g6 (by omega)).below g7 (by omega)).below g8 (by omega)).below g9 (by omega)).below g10 (by omega),(((k6.below g7 (by omega)).below g8 (by omega)).below g9 (by omega)).below g10 (by omega),((k7.below g8 (by omega)).below g9 (by omega)).below g10 (by omega),(k8.below g9 (by omega)).below g10 (by omega),k9.below g10 (by omega),k10,?_,hg.bel⟩
 · left
   have:=(h.sm.rows hb).2;omega
 · have:=h.ps.lt
   omega
end Go.Proofs.YtgpeijkjmkocgaaDoor
