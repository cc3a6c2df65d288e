import Derived.Test.YtgpeijkjmkocgaaDoorM12
import Derived.Test.YtgpeijkjmkocgaaDoorM15
set_option linter.unusedVariables false
set_option linter.unusedSimpArgs false
set_option maxHeartbeats 4000000
set_option maxRecDepth 100000
namespace Go.Proofs.YtgpeijkjmkocgaaDoor
open Go.RowKit
theorem conInfo:(Tryd.prog.info? 58).map (fun i=>(i.zero,i.size,i.bytes))=some (some (.agg #[.string ByteArray.empty,.int .i64 0,.slice none 0 0,.slice none 0 0]),4,72):=by kernel_rfl
theorem int13Info:(Tryd.prog.info? 3).map (fun i=>(i.zero,i.size,i.bytes))=some (some (.int .i64 0),1,8):=by kernel_rfl
theorem mult13Info:(Tryd.prog.info? 44).map (fun i=>(i.zero,i.size,i.bytes))=some (some (.int .u8 0),1,1):=by kernel_rfl
def encFt (f:Int × TyD):List Cel:=.v (.int .u8 f.1) :: encT f.2
theorem encFt_len (f:Int × TyD):(encFt f).length=6:=by rw[encFt,List.length_cons,encT_len]
theorem fts_at {w:World} {S:Nat→Prop} {A:Option Addr} {n c:Nat} {l:List (Int × TyD)} (h:Sl w S encFt 6 l A n c) (hn:0<n):∃ b off,A=some ⟨b,off,none⟩∧S b∧∀ i (h:i<l.length),w.cell? ⟨b,off+i * 6,none⟩=some (.int .u8 l[i].1)∧w.cell? ⟨b,off+i * 6+1,none⟩=some (.int .u8 l[i].2.k) ∧
  w.cell? ⟨b,off+i * 6+2,none⟩=some (.int .i64 l[i].2.n)∧w.cell? ⟨b,off+i * 6+3,none⟩=some (.int .i64 l[i].2.v)∧w.cell? ⟨b,off+i * 6+4,none⟩=some (.int .u8 l[i].2.c)∧∃ A' m' c',w.cell? ⟨b,off+i * 6+5,none⟩=some (.slice A' m' c')∧TysS w S A' m' c' l[i].2.l:=by
 obtain⟨b,off,e,hb,hr⟩:=h.at_ encFt_len hn;refine⟨b,off,e,hb,fun i hi=>?_⟩;have:=hr i hi;rw[encFt,encT_eq] at this;simp only[celsIn_cons,celIn_v,sl_iff (enc:=encT) (k:=5) encT_len (by omega)] at this;obtain⟨⟨u0,h0,rfl⟩,⟨u1,h1,rfl⟩,⟨u2,h2,rfl⟩,⟨u3,h3,rfl⟩,⟨u4,h4,rfl⟩,⟨u5,h5,A',m',c',rfl,h6⟩,_⟩:=this;exact⟨h0,h1,h2,h3,h4,A',m',c',h5,tysS_sl.2 h6⟩
structure ConH (w:World) (bx:Array Value) (v5:Value) (k5:Nat) (cs:List Value) (v6:Value) (k6:Nat) (us:List Value) (wr:World):Prop where
 bx:Blk wr w.heap.size 58 bx
 rt:wr.ownsRow (w.heap.size+1) 63 5 v5 k5 cs
 rm:wr.ownsRow (w.heap.size+1) 44 1 v6 k6 us
 sep:∀ b,v5.ownBlock=some b→v6.ownBlock≠some b
 bel:Below w.heap.size w wr
section
variable {w wr wy:World} {bx:Array Value} {v5 v6 v5' v6':Value} {k5 k6:Nat} {cs us news:List Value}
theorem ConH.below (h:ConH w bx v5 k5 cs v6 k6 us wr) (hb:Below wr.heap.size wr wy):ConH w bx v5 k5 cs v6 k6 us wy:=
 ⟨h.bx.below hb h.bx.lt,ownsRow_beyond h.rt hb,ownsRow_beyond h.rm hb,h.sep,h.bel.trans (hb.mono h.bel.size)⟩
theorem ConH.own5 (h:ConH w bx v5 k5 cs v6 k6 us wr) {b:Nat} (hb:b<w.heap.size+1):some b≠v5.ownBlock:=fun e=>by
 have:=own_lt h.rt e.symm;omega
theorem ConH.own6 (h:ConH w bx v5 k5 cs v6 k6 us wr) {b:Nat} (hb:b<w.heap.size+1):some b≠v6.ownBlock:=fun e=>by
 have:=own_lt h.rm e.symm;omega
theorem ConH.app5 (h:ConH w bx v5 k5 cs v6 k6 us wr) (ho:wy.ownsRow (w.heap.size+1) 63 5 v5' (k5+1) (cs++news)) (hg:wr.grownBy wy v5.ownBlock) (hn:v5'.ownBlock=v5.ownBlock∨v5'.ownBlock=some wr.heap.size):ConH w bx v5' (k5+1) (cs++news) v6 k6 us wy:=by
 refine⟨h.bx.grown hg (h.own5 (by omega)),ho,own_grown hg h.rm fun b e=>h.sep b e,fun b e e2=>?_,?_⟩
 · rcases hn with q | q
   · exact h.sep b (q ▸ e) e2
   · rw[q] at e
     have:=(own_lt h.rm e2).2
     cases e; omega
 · exact⟨hg.os.trans h.bel.os,hg.tape.trans h.bel.tape,hg.output.trans h.bel.output,Nat.le_trans h.bel.size hg.size,fun b hb=>(hg.block b (by have:=h.bel.size; omega) (h.own5 (by omega))).trans (h.bel.block b hb)⟩
theorem ConH.app6 (h:ConH w bx v5 k5 cs v6 k6 us wr) (ho:wy.ownsRow (w.heap.size+1) 44 1 v6' (k6+1) (us++news)) (hg:wr.grownBy wy v6.ownBlock) (hn:v6'.ownBlock=v6.ownBlock∨v6'.ownBlock=some wr.heap.size):ConH w bx v5 k5 cs v6' (k6+1) (us++news) wy:=by
 refine⟨h.bx.grown hg (h.own6 (by omega)),own_grown hg h.rt fun b e e2=>h.sep b e2 e,ho,fun b e e2=>?_,?_⟩
 · rcases hn with q | q
   · exact h.sep b e (q ▸ e2)
   · rw[q] at e2
     have:=(own_lt h.rt e).2
     cases e2; omega
 · exact⟨hg.os.trans h.bel.os,hg.tape.trans h.bel.tape,hg.output.trans h.bel.output,Nat.le_trans h.bel.size hg.size,fun b hb=>(hg.block b (by have:=h.bel.size; omega) (h.own6 (by omega))).trans (h.bel.block b hb)⟩
theorem ConH.set (h:ConH w bx v5 k5 cs v6 k6 us wr) (i:Nat) (u:Value):ConH w (bx.set! i u) v5 k5 cs v6 k6 us (wr.setCell ⟨w.heap.size,i,none⟩ u):=
 ⟨h.bx.set_ i u,ownsRow_setCell_below h.rt (by exact Nat.lt_succ_self _) u,ownsRow_setCell_below h.rm (by exact Nat.lt_succ_self _) u,h.sep,h.bel.setCell (Nat.le_refl _) u⟩
end
def ConMk (w:World) (S:Nat→Prop) (name:ByteArray) (n:Int) (l:List (Int × TyD)) (cs:List Value) (A5:Option Addr) (c5:Nat) (A6:Option Addr) (c6:Nat) (wr:World):Prop:=
 ConH w #[.string name,.int .i64 n,.slice A5 l.length c5,.slice A6 l.length c6] (.slice A5 l.length c5) l.length cs (.slice A6 l.length c6) l.length (l.map fun f=>Value.int .u8 f.1) wr∧CelsV w S ((l.map Prod.snd).flatMap encT) cs
theorem celsU {w:World} {S:Nat→Prop}:∀ (l:List (Int × TyD)),CelsV w S ((l.map Prod.fst).flatMap encU) (l.map fun f=>Value.int .u8 f.1)
 | []=>trivial
 | x :: l=>by
   show CelsV w S (encU x.1++(l.map Prod.fst).flatMap encU) (_ :: _)
   exact CelsV.append (us:=[Value.int .u8 x.1]) (show CelsV w S [.v (.int .u8 x.1)] [Value.int .u8 x.1] from⟨celIn_v.2 rfl,trivial⟩) (celsU l)
theorem ConMk.cels {w wr:World} {S R:Nat→Prop} {name:ByteArray} {n:Int} {l:List (Int × TyD)} {cs:List Value} {A5 A6:Option Addr} {c5 c6:Nat} (h:ConMk w S name n l cs A5 c5 A6 c6 wr) (hS:∀ b,S b→b<w.heap.size∧¬ R b) (hR:∀ b,w.heap.size+1≤b→¬ R b):
  CelsV wr (fun b=>b<wr.heap.size∧¬ R b) (encCn ⟨name,n,l.map Prod.snd,l.map Prod.fst⟩) [.string name,.int .i64 n,.slice A5 l.length c5,.slice A6 l.length c6]:=by
 obtain⟨hz,hc⟩:=h
 have h5:OwnC wr (w.heap.size+1) 63 5 R (.slice A5 l.length c5) l.length ((l.map Prod.snd).flatMap encT):=by
  refine⟨by rw[flat_len encT_len,List.length_map],cs,hz.rt,hc.keep (fun b hb=>⟨Nat.lt_of_lt_of_le (hS b hb).1 hz.bel.size,hz.own5 (by have:=(hS b hb).1; omega),(hS b hb).2⟩) fun p hp=>hz.bel.cell (hS _ hp).1⟩
 have h6:OwnC wr (w.heap.size+1) 44 1 R (.slice A6 l.length c6) l.length ((l.map Prod.fst).flatMap encU):=
  ⟨by rw[flat_len (k:=1) (fun _=>rfl),List.length_map],_,hz.rm,celsU l⟩
 exact⟨celIn_v.2 rfl,celIn_v.2 rfl,h5.cel (fun _ h=>h) hR,h6.cel (fun _ h=>h) hR,trivial⟩
def HeldC (g b:Nat) (vc:Value) (name:ByteArray) (n:Int) (v5 v6:Value) (w:World):Prop:=w.cell? ⟨g,1,none⟩=some vc∧w.cell? ⟨b,0,none⟩=some (.string name)∧w.cell? ⟨b,1,none⟩=some (.int .i64 n)∧w.cell? ⟨b,2,none⟩=some v5∧w.cell? ⟨b,3,none⟩=some v6
theorem HeldC.keep {g b:Nat} {vc v5 v6:Value} {name:ByteArray} {n:Int} {w1 w2:World} (h:HeldC g b vc name n v5 v6 w1) (h1:w2.heap[g]?=w1.heap[g]?) (h2:w2.heap[b]?=w1.heap[b]?):HeldC g b vc name n v5 v6 w2:=by
 have e1:∀ i,w2.cell? ⟨g,i,none⟩=w1.cell? ⟨g,i,none⟩:=fun i=>World.cell?_of_block h1;have e2:∀ i,w2.cell? ⟨b,i,none⟩=w1.cell? ⟨b,i,none⟩:=fun i=>World.cell?_of_block h2;unfold HeldC at h ⊢;rw[e1,e2,e2,e2,e2];exact h
theorem own_addr {w:World} {base:Nat} {t:TypeId} {size:Nat} {A:Option Addr} {n c:Nat} {us:List Value} (h:w.ownsRow base t size (.slice A n c) n us) (hn:0<n):∃ g,A=some ⟨g,0,none⟩∧(Value.slice A n c).ownBlock=some g∧base≤g∧g<w.heap.size∧(∀ j u,us[j]?=some u→w.cell? ⟨g,j,none⟩=some u)∧∀ j,w.frozen? ⟨g,j,none⟩=false:=by
 have h0:=h
 rcases h.2 with ⟨e0,hn'⟩ | ⟨g,cap,cur,e0,hg,hblk,hn',hm,hs,ht⟩
 · injection e0 with _ e1 _
   omega
 · injection e0 with e1 e2 e3
   subst e1;refine⟨g,rfl,rfl,hg,(Array.getElem?_eq_some_iff.1 hblk).1,fun j u hu=>?_,fun j=>Blk.frozen (t:=t) (cs:=cur) hblk j⟩;have:=h0.cells (g:=g) rfl j u hu
   rwa [show(Addr.add ⟨g,0,none⟩ j)=⟨g,0+j,none⟩ from by unfold Addr.add; split <;> simp_all,Nat.zero_add] at this
def HeldN (g gd i:Nat) (vd v:Value) (w:World):Prop:=w.cell? ⟨g,0,none⟩=some vd∧w.cell? ⟨gd,i,none⟩=some v
theorem HeldN.keep {g gd i:Nat} {vd v:Value} {w1 w2:World} (h:HeldN g gd i vd v w1) (h1:w2.heap[g]?=w1.heap[g]?) (h2:w2.heap[gd]?=w1.heap[gd]?):HeldN g gd i vd v w2:=
 ⟨(World.cell?_of_block h1).trans h.1,(World.cell?_of_block h2).trans h.2⟩
structure ButS (g:Nat) (rows:Nat→Prop) (w w':World):Prop where
 os:w'.os=w.os
 tape:w'.tape=w.tape
 output:w'.output=w.output
 size:w.heap.size≤w'.heap.size
 block:∀ k,k<w.heap.size→k≠g→¬ rows k→w'.heap[k]?=w.heap[k]?
section
variable {g:Nat} {rows:Nat→Prop} {w wx wy:World}
theorem ButS.of (h:Below w.heap.size w wx):ButS g rows w wx:=⟨h.os,h.tape,h.output,h.size,fun k hk _ _=>h.block k hk⟩
theorem ButS.below (h:ButS g rows w wx) (hb:Below wx.heap.size wx wy):ButS g rows w wy:=
 ⟨hb.os.trans h.os,hb.tape.trans h.tape,hb.output.trans h.output,Nat.le_trans h.size hb.size,fun k hk h1 h2=>(hb.block k (Nat.lt_of_lt_of_le hk h.size)).trans (h.block k hk h1 h2)⟩
theorem ButS.grown (h:ButS g rows w wx) {row:Option Nat} (hg:wx.grownBy wy row) (hr:∀ b,row=some b→rows b):ButS g rows w wy:=
 ⟨hg.os.trans h.os,hg.tape.trans h.tape,hg.output.trans h.output,Nat.le_trans h.size hg.size,fun k hk h1 h2=>(hg.block k (Nat.lt_of_lt_of_le hk h.size) fun e=>h2 (hr k e.symm)).trans (h.block k hk h1 h2)⟩
theorem ButS.set (h:ButS g rows w wx) {b:Nat} (hb:b=g∨rows b) (i:Nat) (u:Value):ButS g rows w (wx.setCell ⟨b,i,none⟩ u):=
 ⟨h.os,h.tape,h.output,by rw[World.size_setCell]; exact h.size,fun k hk h1 h2=>(Below.heap_setCell _ _ _ _ fun e=>by
  have e2:k=b:=e;subst e2
  exact hb.elim h1 h2).trans (h.block k hk h1 h2)⟩
end
def HeldF (g b:Nat) (v5 v6:Value) (m:Int) (t:TyD) (Ax:Option Addr) (mx cx:Nat) (w:World):Prop:=w.cell? ⟨g,2,none⟩=some v5∧w.cell? ⟨g,3,none⟩=some v6∧w.cell? ⟨b,0,none⟩=some (.int .u8 m)∧w.cell? ⟨b,1,none⟩=some (.int .u8 t.k)∧w.cell? ⟨b,2,none⟩=some (.int .i64 t.n)∧w.cell? ⟨b,3,none⟩=some (.int .i64 t.v)∧w.cell? ⟨b,4,none⟩=some (.int .u8 t.c)∧w.cell? ⟨b,5,none⟩=some (.slice Ax mx cx)
theorem HeldF.keep {g b:Nat} {v5 v6:Value} {m:Int} {t:TyD} {Ax:Option Addr} {mx cx:Nat} {w1 w2:World} (h:HeldF g b v5 v6 m t Ax mx cx w1) (h1:w2.heap[g]?=w1.heap[g]?) (h2:w2.heap[b]?=w1.heap[b]?):HeldF g b v5 v6 m t Ax mx cx w2:=by
 have e1:∀ i,w2.cell? ⟨g,i,none⟩=w1.cell? ⟨g,i,none⟩:=fun i=>World.cell?_of_block h1;have e2:∀ i,w2.cell? ⟨b,i,none⟩=w1.cell? ⟨b,i,none⟩:=fun i=>World.cell?_of_block h2;unfold HeldF at h ⊢;rw[e1,e1,e2,e2,e2,e2,e2,e2];exact h
theorem ConMk.step {w wr wy:World} {S:Nat→Prop} {name:ByteArray} {n:Int} {l:List (Int × TyD)} {cs:List Value} {A5 A6 A7 A8:Option Addr} {c5 c6 c7 c8:Nat} {k:Nat} {m:Int} {t:TyD} {us:List Value} (h:ConMk w S name n l cs A5 c5 A6 c6 wr) (hl:l.length=k)
  (z:ConH w #[.string name,.int .i64 n,.slice A7 (k+1) c7,.slice A8 (k+1) c8] (.slice A7 (k+1) c7) (k+1) (cs++us) (.slice A8 (k+1) c8) (k+1) ((l.map fun f=>Value.int .u8 f.1)++[.int .u8 m]) wy) (hc:CelsV w S (encT t) us):ConMk w S name n (l++[(m,t)]) (cs++us) A7 c7 A8 c8 wy:=by
 have e:(l++[(m,t)]).length=k+1:=by rw[List.length_append,hl]; rfl
 unfold ConMk;rw[e,List.map_append,List.map_append,List.flatMap_append];exact⟨z,h.2.append (by simpa using hc)⟩
theorem rd_kept {w w':World} {B k b:Nat} {cs:List Value} (h:Rd w B k (some ⟨b,0,none⟩) 1 cs) (hg:w'.heap[b]?=w.heap[b]?):Rd w' B k (some ⟨b,0,none⟩) 1 cs:=by
 obtain⟨h0,h1⟩:=h;refine⟨h0,fun hn=>?_⟩;obtain⟨b',off,e,hb,hc⟩:=h1 hn
 injection e with e
 injection e with e1 e2 e3
 subst e1
 exact⟨b,off,by rw[e2],hb,fun j u hu=>(World.cell?_of_block hg).trans (hc j u hu)⟩
theorem con_any (g base:Nat) (R:Nat→Prop) (s:SigD) (vd vc:Value) (vs:List Value) (d:DiagD) (n:Nat) (name:ByteArray) (fs:List (Int × TyD)) (Af:Option Addr) (nf cf:Nat) (w:World) (hk:Blk w g 91 (mkC vd vc d)) (hm:SigM w base R s vd vc vs) (hg:¬ RowB vd vc vs g) (hR:R g) (hRb:∀ b,R b→b<w.heap.size)
  (hf:Sl w (fun b=>b<w.heap.size∧¬ Apart R vd vs b∧some b≠vc.ownBlock) encFt 6 fs Af nf cf) (hn:n<s.datas.length) (hb:base≤w.heap.size) (hl:s.cons.length≤1000000) (hl2:∀ x∈s.datas,x.cons.length≤1000000) (hl3:nf≤1000000) (hl4:s.datas.length≤1000000):
  Calls Tryd.prog 48 #[.pointer (some ⟨g,0,none⟩),.int .i64 n,.string name,.slice Af nf cf] w fun e w'=>e=.returned (.tuple #[])∧∃ vc' vn,Blk w' g 91 (mkC vd vc' d) ∧
   SigM w' base R ⟨s.datas.modify n fun d => { d with cons:=d.cons++[(s.cons.length:Int)] },s.cons++[⟨name,n,fs.map Prod.snd,fs.map Prod.fst⟩]⟩ vd vc' (vs.set n vn)∧ButS g (RowB vd vc vs) w w'∧∀ b,RowB vd vc' (vs.set n vn) b→RowB vd vc vs b∨w.heap.size≤b:=by
 obtain⟨Ac,cc,rfl⟩:=hm.oc.form;obtain⟨Ad,cd,rfl⟩:=ownsRow_form hm.od;obtain⟨S,hS⟩:∃ S:Nat→Prop,(fun b=>b<w.heap.size∧¬ Apart R (.slice Ad s.datas.length cd) vs b∧some b≠(Value.slice Ac s.cons.length cc).ownBlock)=S:=⟨_,rfl⟩;rw[hS] at hf
 have hSl:∀ b,S b→b<w.heap.size:=fun b hb=>by rw[← hS] at hb; exact hb.1
 have hlen:=hf.len;have f63:nf≤9223372036854775807:=hf.cap
 have c63:s.cons.length≤9223372036854775807:=by omega
 have x1:w.cell? ⟨g,1,none⟩=some (.slice Ac s.cons.length cc):=hk.cell 1;have hbx:=below_box (w:=w) (Obj.cells #[.string name,.int .i64 n,.slice none 0 0,.slice none 0 0] 58);have hkx:=blk_new w #[.string name,.int .i64 n,.slice none 0 0,.slice none 0 0] 58;obtain⟨W,hW⟩:∃ x,w.alloc (Obj.cells #[.string name,.int .i64 n,.slice none 0 0,.slice none 0 0] 58)=x:=⟨_,rfl⟩;rw[hW] at hbx hkx;have HK:=qq hk;have HM:=qq hm;have HF:=qq hf;have HS:=qq hS;have HSl:=qq hSl;have HW:=qq hW;have h0:ConMk w S name n [] [] none 0 none 0 W:=⟨⟨hkx,World.ownsRow_nil _ _ _ _,World.ownsRow_nil _ _ _ _,fun b e=>absurd e (by simp[Value.ownBlock]),hbx⟩,trivial⟩;have H0:=qq h0;obtain⟨i0,hi0,hz0,hz1,hz2⟩:=info_parts typeInfo;obtain⟨j0,hj0,hy0,hy1,hy2⟩:=info_parts mult13Info;clear hk hm hf hS hSl hW hbx hkx h0
 go_enter Tryd.func48,Tryd.ntmps48
 go_upto_region 2 with fail;rw[HW.out];clear x1;go_wp2_with fail
 go_loopg [23] nf (fun gh i wr=>∃ (k:Nat) (cs:List Value) (A5:Option Addr) (c5:Nat) (A6:Option Addr) (c6:Nat),k≤nf∧gh=nf - k∧i=.int .i64 (k:Nat)∧ConMk w S name n (fs.take k) cs A5 c5 A6 c6 wr)
 case atStart=>exact⟨0,[],none,0,none,0,Nat.zero_le _,rfl,rfl,H0.out⟩
 case round=>
  obtain⟨k,cs,A5,c5,A6,c6,hk,rfl,rfl,hmk⟩:=hrel
  have hlk:(fs.take k).length=k:=by rw[List.length_take]; omega
  by_cases hkn:k<nf
  · have d0:decide (k<nf)=true:=by simpa using hkn
    have hk':k<fs.length:=by omega
    obtain⟨b,off,rfl,hb,hc⟩:=fts_at HF.out (by omega);have hbl:=HSl.out b hb;obtain⟨e0,e1,e2,e3,e4,Ax,mx,cx,e5,hx⟩:=hc k hk';have hst:fs.take (k+1)=fs.take k++[fs[k]]:=List.take_succ_eq_append_getElem hk';obtain⟨x,hxk⟩:∃ x,fs[k]=x:=⟨_,rfl⟩;rw[hxk] at e0 e1 e2 e3 e4 hx hst;obtain⟨m,t⟩:=x;simp only at e0 e1 e2 e3 e4 hx;have q0:wr.cell? ⟨b,off+k * 6,none⟩=some (.int .u8 m):=(hmk.1.bel.cell (p:=⟨b,off+k * 6,none⟩) hbl).trans e0;have q1:wr.cell? ⟨b,off+k * 6+1,none⟩=some (.int .u8 t.k):=(hmk.1.bel.cell (p:=⟨b,off+k * 6+1,none⟩) hbl).trans e1;have q2:wr.cell? ⟨b,off+k * 6+2,none⟩=some (.int .i64 t.n):=(hmk.1.bel.cell (p:=⟨b,off+k * 6+2,none⟩) hbl).trans e2;have q3:wr.cell? ⟨b,off+k * 6+3,none⟩=some (.int .i64 t.v):=(hmk.1.bel.cell (p:=⟨b,off+k * 6+3,none⟩) hbl).trans e3;have q4:wr.cell? ⟨b,off+k * 6+4,none⟩=some (.int .u8 t.c):=(hmk.1.bel.cell (p:=⟨b,off+k * 6+4,none⟩) hbl).trans e4;have q5:wr.cell? ⟨b,off+k * 6+5,none⟩=some (.slice Ax mx cx):=(hmk.1.bel.cell (p:=⟨b,off+k * 6+5,none⟩) hbl).trans e5
    have j1:(0:Int)≤(k:Int):=by omega
    have j2:(k:Int)<nf:=by omega
    have Hmk:=qq hmk;have Hx:=qq hx;have Hst:=qq hst;have Hlk:=qq hlk;clear e0 e1 e2 e3 e4 e5 hc hxk hmk hx hst hlk hk';go_upto_region 5 with fail;have hbx:=below_box (w:=wr) (Obj.cells #[.int .u8 m,.int .u8 t.k,.int .i64 t.n,.int .i64 t.v,.int .u8 t.c,.slice Ax mx cx] 109);have hkx:=blk_new wr #[.int .u8 m,.int .u8 t.k,.int .i64 t.n,.int .i64 t.v,.int .u8 t.c,.slice Ax mx cx] 109;obtain⟨w1,hw1⟩:∃ q,wr.alloc (Obj.cells #[.int .u8 m,.int .u8 t.k,.int .i64 t.n,.int .i64 t.v,.int .u8 t.c,.slice Ax mx cx] 109)=q:=⟨_,rfl⟩;rw[hw1] at hbx hkx ⊢;have hwr:w.heap.size<wr.heap.size:=Hmk.out.1.bx.lt;have hZ:=Hmk.out.1.below hbx;rw[Hlk.out] at hZ;have hl1:=hkx.lt;have hheld:HeldF w.heap.size wr.heap.size (.slice A5 k c5) (.slice A6 k c6) m t Ax mx cx w1:=⟨hZ.bx.cell 2,hZ.bx.cell 3,hkx.cell 0,hkx.cell 1,hkx.cell 2,hkx.cell 3,hkx.cell 4,hkx.cell 5⟩
    have o5:some wr.heap.size≠(Value.slice A5 k c5).ownBlock:=fun e=>by have:=(own_lt Hmk.out.1.rt (by rw[Hlk.out]; exact e.symm)).2; omega
    have p6:∀ b,wr.heap.size≤b→some b≠(Value.slice A6 k c6).ownBlock:=fun b hb e=>by have:=(own_lt Hmk.out.1.rm (by rw[Hlk.out]; exact e.symm)).2; omega
    have o6:=p6 _ (Nat.le_refl _);refine wp_region_noPanic ?_;refine wp_region_T (fun w'=>w'.cell? ⟨w.heap.size,2,none⟩=some (.slice A5 k c5)∧w'.cell? ⟨w.heap.size,3,none⟩=some (.slice A6 k c6)∧w'.cell? ⟨wr.heap.size,0,none⟩=some (.int .u8 m)∧w'.cell? ⟨wr.heap.size,1,none⟩=some (.int .u8 t.k)∧w'.cell? ⟨wr.heap.size,2,none⟩=some (.int .i64 t.n)∧w'.cell? ⟨wr.heap.size,3,none⟩=some (.int .i64 t.v)∧w'.cell? ⟨wr.heap.size,4,none⟩=some (.int .u8 t.c)∧w'.cell? ⟨wr.heap.size,5,none⟩=some (.slice Ax mx cx)) 13 (by kernel_rfl) hheld (fun hHeld=>?_);have hbd:Below w1.heap.size w1 w1.drew:=Below.drew (Below.refl _ _);have hZd:=hZ.below hbd;have hld:wr.heap.size<w1.drew.heap.size:=hl1;have hheldd:HeldF w.heap.size wr.heap.size (.slice A5 k c5) (.slice A6 k c6) m t Ax mx cx w1.drew:=hHeld;clear hbx hkx hw1 hZ hheld q0 q1 q2 q3 q4 q5;generalize w1.drew=W0 at hHeld hZd hld hheldd ⊢;have HZ:=qq hZd;have Hh:=qq hheldd;have hL0:=hld;clear hbd hZd hheldd hl1;refine nx0 0 ?_
    iterate 4 (refine nx (v:=?_) rfl (by kernel_rfl) (fun _ _ _ h=>h) (by kernel_rfl) ?_ (by assumption) ?_; rotate_left; (focus (intro w hSw; (try dsimp only at hSw); first | (go_simp; done) | (go_simp; with_reducible rfl))); try simp only[Act.put,qg,qe,qf,qd,qh,qi,Nat.reduceAdd])
    refine nx9 ?_;refine nx0 6 ?_
    iterate 2 (refine nx (v:=?_) rfl (by kernel_rfl) (fun _ _ _ h=>h) (by kernel_rfl) ?_ (by assumption) ?_; rotate_left; (focus (intro w hSw; (try dsimp only at hSw); first | (go_simp; done) | (go_simp; with_reducible rfl))); try simp only[Act.put,qg,qe,qf,qd,qh,qi,Nat.reduceAdd])
    refine nx9 ?_;refine nx0 8 ?_
    iterate 2 (refine nxC (v:=?_) rfl (by kernel_rfl) (fun _ _ _ h=>h) (by kernel_rfl) ?_ (by assumption) ?_; rotate_left; (focus (intro w hSw; (try dsimp only at hSw); first | (go_simp; done) | (go_simp; with_reducible rfl))); try simp only[Act.put,qg,qe,qf,qd,qh,qi,Nat.reduceAdd])
    refine nx9 ?_;refine wpAnyT_two (i:=4) (j:=10) (by kernel_rfl) rfl rfl (fun K hK=>?_) (fun K hK=>?_)
    · skip
      go_simp;have hb:=below_box (w:=W0) (Obj.cells #[.int .u8 m] 44);have hr:=rd_newk W0 [.int .u8 m] 1 rfl 44;obtain⟨W1,hn⟩:∃ x,(W0).alloc (Obj.cells #[.int .u8 m] 44)=x:=⟨_,rfl⟩;rw[hn] at hb hr ⊢;have hz:=HZ.out.below hb;have hh:=Hh.out.keep (hb.block _ (by omega)) (hb.block _ (by omega));have hl:=Nat.lt_of_lt_of_le hld hb.size
      have hszM:(W0).heap.size+1≤(W1).heap.size:=by rw[← hn]; simp
      have hbM:=hb;clear HZ Hh hld hn hb;have HZ:=qq hz;have Hh:=qq hh;have hld:=hl;have HM:=qq hr;clear hz hh hl hr;refine hK.out _ _ (Hh.out) ?_;clear hK K
      try simp only[Act.put,qg,qe,qf,qd,qh,qi]
      refine wpAnyT_two (i:=5) (j:=10) (by kernel_rfl) rfl rfl (fun K hK=>?_) (fun K hK=>?_)
      · skip
        refine step_append_rd _ (by rfl) (.tmp 28) (.tmp 31) 55 (by rfl) (w.heap.size+1) 44 j0 _ 1 1 Tryd.underlying55 hj0 hy0 hy1 hy2 rfl (by omega) (.slice A6 k c6) k _ (by rfl) HZ.out.rm _ _ 1 1 [.int .u8 m] (by rfl) HM.out (by intro u hu; simp at hu; subst hu; rfl) (by unfold maxLen; omega) (by omega) (by omega) ?_
        intro v7 W2 ho7 hg7 hat7;obtain⟨A8,c8,rfl⟩:=ownsRow_form ho7;have hz:=HZ.out.app6 ho7 hg7 hat7;have hh:=Hh.out.keep (hg7.block _ (by omega) (HZ.out.own6 (by omega))) (hg7.block _ hld o6);have hl:=Nat.lt_of_lt_of_le hld hg7.size;have hgm:=hg7;clear HZ Hh hld HM ho7 hg7 hat7;have HZ:=qq hz;have Hh:=qq hh;have hld:=hl;clear hz hh hl;clear hgm;refine hK.out _ _ (Hh.out) ?_;clear hK K
        try simp only[Act.put,qg,qe,qf,qd,qh,qi]
        refine wpAnyT_take (i:=12) (v:=?_) rfl (by kernel_rfl) (by kernel_rfl) (by kernel_rfl) (by kernel_rfl) (fun _ _ _ h=>h) (Or.inl ⟨by kernel_rfl,?_⟩) (by assumption) ?_
        rotate_left
        · (intro w hSw; (try dsimp only at hSw); first | (go_simp; done) | (go_simp; with_reducible rfl))
        try simp only[Act.put,qg,qe,qf,qd,qh,qi]
        refine wpAnyT_step (i:=10) (by kernel_rfl) rfl (fun K hK=>?_);go_simp;have hb:=below_box (w:=W2) (Obj.cells #[.int .u8 t.k,.int .i64 t.n,.int .i64 t.v,.int .u8 t.c,.slice Ax mx cx] 63);have hr:=rd_newk W2 [.int .u8 t.k,.int .i64 t.n,.int .i64 t.v,.int .u8 t.c,.slice Ax mx cx] 5 rfl 63;obtain⟨W3,hn⟩:∃ x,(W2).alloc (Obj.cells #[.int .u8 t.k,.int .i64 t.n,.int .i64 t.v,.int .u8 t.c,.slice Ax mx cx] 63)=x:=⟨_,rfl⟩;rw[hn] at hb hr ⊢;have hz:=HZ.out.below hb;have hh:=Hh.out.keep (hb.block _ (by omega)) (hb.block _ (by omega));have hl:=Nat.lt_of_lt_of_le hld hb.size
        have hszT:(W2).heap.size+1≤(W3).heap.size:=by rw[← hn]; simp
        have hbT:=hb;clear HZ Hh hld hn hb;have HZ:=qq hz;have Hh:=qq hh;have hld:=hl;have HT:=qq hr;clear hz hh hl hr;refine hK.out _ _ (Hh.out) ?_;clear hK K
        try simp only[Act.put,qg,qe,qf,qd,qh,qi]
        refine wpAnyT_step (i:=11) (by kernel_rfl) rfl (fun K hK=>?_)
        refine step_append_rd _ (by rfl) (.tmp 34) (.tmp 37) 56 (by rfl) (w.heap.size+1) 63 i0 _ 5 56 Tryd.underlying56 hi0 hz0 hz1 hz2 rfl (by omega) (.slice A5 k c5) k _ (by rfl) HZ.out.rt _ _ 1 1 [.int .u8 t.k,.int .i64 t.n,.int .i64 t.v,.int .u8 t.c,.slice Ax mx cx] (by rfl) HT.out (by intro u hu; simp at hu; rcases hu with rfl | rfl | rfl | rfl | rfl <;> rfl) (by unfold maxLen; omega) (by omega) (by omega) ?_
        intro v7 W4 ho7 hg7 hat7;obtain⟨A7,c7,rfl⟩:=ownsRow_form ho7;have hz:=HZ.out.app5 ho7 hg7 hat7;have hh:=Hh.out.keep (hg7.block _ (by omega) (HZ.out.own5 (by omega))) (hg7.block _ hld o5);have hl:=Nat.lt_of_lt_of_le hld hg7.size;clear HZ Hh hld HT ho7 hg7 hat7;have HZ:=qq hz;have Hh:=qq hh;have hld:=hl;clear hz hh hl;refine hK.out _ _ (Hh.out) ?_;clear hK K
        try simp only[Act.put,qg,qe,qf,qd,qh,qi]
        have x3:_=some (Value.slice A6 k c6):=HZ.out.bx.cell 3;have x2:_=some (Value.slice A5 k c5):=HZ.out.bx.cell 2;have f3:=HZ.out.bx.frozen 3;have f2:=HZ.out.bx.frozen 2;have hz:=Hmk.out.step Hlk.out ((HZ.out.set 3 (.slice A8 (k+1) c8)).set 2 (.slice A7 (k+1) c7)) (tyC Hx.out);rw[← Hst.out] at hz;have Hs:=qq hz;clear hz HZ Hh;refine wpAnyT_seq 13 (by omega) (by rfl) (by kernel_rfl) ?_;simp only[List.drop_succ_cons,List.drop_zero];go_wp2_with fail;refine NoPanic.normal ?_;clear x2 x3 f2 f3;go_wp2_with fail;go_roundg (nf - (k+1))
        case measure=>omega
        case rel=>exact⟨k+1,_,A7,c7,A8,c8,by omega,rfl,by go_num,Hs.out⟩
      · skip
        go_simp;have hb:=below_box (w:=W1) (Obj.cells #[.int .u8 t.k,.int .i64 t.n,.int .i64 t.v,.int .u8 t.c,.slice Ax mx cx] 63);have hr:=rd_newk W1 [.int .u8 t.k,.int .i64 t.n,.int .i64 t.v,.int .u8 t.c,.slice Ax mx cx] 5 rfl 63;obtain⟨W2,hn⟩:∃ x,(W1).alloc (Obj.cells #[.int .u8 t.k,.int .i64 t.n,.int .i64 t.v,.int .u8 t.c,.slice Ax mx cx] 63)=x:=⟨_,rfl⟩;rw[hn] at hb hr ⊢;have hz:=HZ.out.below hb;have hh:=Hh.out.keep (hb.block _ (by omega)) (hb.block _ (by omega));have hl:=Nat.lt_of_lt_of_le hld hb.size
        have hszT:(W1).heap.size+1≤(W2).heap.size:=by rw[← hn]; simp
        have hbT:=hb;clear HZ Hh hld hn hb;have HZ:=qq hz;have Hh:=qq hh;have hld:=hl;have HT:=qq hr;clear hz hh hl hr;refine hK.out _ _ (Hh.out) ?_;clear hK K
        try simp only[Act.put,qg,qe,qf,qd,qh,qi]
        replace HM:=qq (HM.out.below (hbT.mono hszM));refine wpAnyT_step (i:=5) (by kernel_rfl) rfl (fun K hK=>?_)
        refine step_append_rd _ (by rfl) (.tmp 28) (.tmp 31) 55 (by rfl) (w.heap.size+1) 44 j0 _ 1 1 Tryd.underlying55 hj0 hy0 hy1 hy2 rfl (by omega) (.slice A6 k c6) k _ (by rfl) HZ.out.rm _ _ 1 1 [.int .u8 m] (by rfl) HM.out (by intro u hu; simp at hu; subst hu; rfl) (by unfold maxLen; omega) (by omega) (by omega) ?_
        intro v7 W3 ho7 hg7 hat7;obtain⟨A8,c8,rfl⟩:=ownsRow_form ho7;have hz:=HZ.out.app6 ho7 hg7 hat7;have hh:=Hh.out.keep (hg7.block _ (by omega) (HZ.out.own6 (by omega))) (hg7.block _ hld o6);have hl:=Nat.lt_of_lt_of_le hld hg7.size;have hgm:=hg7;clear HZ Hh hld HM ho7 hg7 hat7;have HZ:=qq hz;have Hh:=qq hh;have hld:=hl;clear hz hh hl;replace HT:=qq (rd_kept HT.out (hgm.block _ (by omega) (p6 _ (by omega))));clear hgm;refine hK.out _ _ (Hh.out) ?_;clear hK K
        try simp only[Act.put,qg,qe,qf,qd,qh,qi]
        refine wpAnyT_take (i:=12) (v:=?_) rfl (by kernel_rfl) (by kernel_rfl) (by kernel_rfl) (by kernel_rfl) (fun _ _ _ h=>h) (Or.inl ⟨by kernel_rfl,?_⟩) (by assumption) ?_
        rotate_left
        · (intro w hSw; (try dsimp only at hSw); first | (go_simp; done) | (go_simp; with_reducible rfl))
        try simp only[Act.put,qg,qe,qf,qd,qh,qi]
        refine wpAnyT_step (i:=11) (by kernel_rfl) rfl (fun K hK=>?_)
        refine step_append_rd _ (by rfl) (.tmp 34) (.tmp 37) 56 (by rfl) (w.heap.size+1) 63 i0 _ 5 56 Tryd.underlying56 hi0 hz0 hz1 hz2 rfl (by omega) (.slice A5 k c5) k _ (by rfl) HZ.out.rt _ _ 1 1 [.int .u8 t.k,.int .i64 t.n,.int .i64 t.v,.int .u8 t.c,.slice Ax mx cx] (by rfl) HT.out (by intro u hu; simp at hu; rcases hu with rfl | rfl | rfl | rfl | rfl <;> rfl) (by unfold maxLen; omega) (by omega) (by omega) ?_
        intro v7 W4 ho7 hg7 hat7;obtain⟨A7,c7,rfl⟩:=ownsRow_form ho7;have hz:=HZ.out.app5 ho7 hg7 hat7;have hh:=Hh.out.keep (hg7.block _ (by omega) (HZ.out.own5 (by omega))) (hg7.block _ hld o5);have hl:=Nat.lt_of_lt_of_le hld hg7.size;clear HZ Hh hld HT ho7 hg7 hat7;have HZ:=qq hz;have Hh:=qq hh;have hld:=hl;clear hz hh hl;refine hK.out _ _ (Hh.out) ?_;clear hK K
        try simp only[Act.put,qg,qe,qf,qd,qh,qi]
        have x3:_=some (Value.slice A6 k c6):=HZ.out.bx.cell 3;have x2:_=some (Value.slice A5 k c5):=HZ.out.bx.cell 2;have f3:=HZ.out.bx.frozen 3;have f2:=HZ.out.bx.frozen 2;have hz:=Hmk.out.step Hlk.out ((HZ.out.set 3 (.slice A8 (k+1) c8)).set 2 (.slice A7 (k+1) c7)) (tyC Hx.out);rw[← Hst.out] at hz;have Hs:=qq hz;clear hz HZ Hh;refine wpAnyT_seq 13 (by omega) (by rfl) (by kernel_rfl) ?_;simp only[List.drop_succ_cons,List.drop_zero];go_wp2_with fail;refine NoPanic.normal ?_;clear x2 x3 f2 f3;go_wp2_with fail;go_roundg (nf - (k+1))
        case measure=>omega
        case rel=>exact⟨k+1,_,A7,c7,A8,c8,by omega,rfl,by go_num,Hs.out⟩
    · skip
      go_simp;have hb:=below_box (w:=W0) (Obj.cells #[.int .u8 t.k,.int .i64 t.n,.int .i64 t.v,.int .u8 t.c,.slice Ax mx cx] 63);have hr:=rd_newk W0 [.int .u8 t.k,.int .i64 t.n,.int .i64 t.v,.int .u8 t.c,.slice Ax mx cx] 5 rfl 63;obtain⟨W1,hn⟩:∃ x,(W0).alloc (Obj.cells #[.int .u8 t.k,.int .i64 t.n,.int .i64 t.v,.int .u8 t.c,.slice Ax mx cx] 63)=x:=⟨_,rfl⟩;rw[hn] at hb hr ⊢;have hz:=HZ.out.below hb;have hh:=Hh.out.keep (hb.block _ (by omega)) (hb.block _ (by omega));have hl:=Nat.lt_of_lt_of_le hld hb.size
      have hszT:(W0).heap.size+1≤(W1).heap.size:=by rw[← hn]; simp
      have hbT:=hb;clear HZ Hh hld hn hb;have HZ:=qq hz;have Hh:=qq hh;have hld:=hl;have HT:=qq hr;clear hz hh hl hr;refine hK.out _ _ (Hh.out) ?_;clear hK K
      try simp only[Act.put,qg,qe,qf,qd,qh,qi]
      refine wpAnyT_step (i:=4) (by kernel_rfl) rfl (fun K hK=>?_);go_simp;have hb:=below_box (w:=W1) (Obj.cells #[.int .u8 m] 44);have hr:=rd_newk W1 [.int .u8 m] 1 rfl 44;obtain⟨W2,hn⟩:∃ x,(W1).alloc (Obj.cells #[.int .u8 m] 44)=x:=⟨_,rfl⟩;rw[hn] at hb hr ⊢;have hz:=HZ.out.below hb;have hh:=Hh.out.keep (hb.block _ (by omega)) (hb.block _ (by omega));have hl:=Nat.lt_of_lt_of_le hld hb.size
      have hszM:(W1).heap.size+1≤(W2).heap.size:=by rw[← hn]; simp
      have hbM:=hb;clear HZ Hh hld hn hb;have HZ:=qq hz;have Hh:=qq hh;have hld:=hl;have HM:=qq hr;clear hz hh hl hr;refine hK.out _ _ (Hh.out) ?_;clear hK K
      try simp only[Act.put,qg,qe,qf,qd,qh,qi]
      replace HT:=qq (HT.out.below (hbM.mono hszT));refine wpAnyT_step (i:=5) (by kernel_rfl) rfl (fun K hK=>?_)
      refine step_append_rd _ (by rfl) (.tmp 28) (.tmp 31) 55 (by rfl) (w.heap.size+1) 44 j0 _ 1 1 Tryd.underlying55 hj0 hy0 hy1 hy2 rfl (by omega) (.slice A6 k c6) k _ (by rfl) HZ.out.rm _ _ 1 1 [.int .u8 m] (by rfl) HM.out (by intro u hu; simp at hu; subst hu; rfl) (by unfold maxLen; omega) (by omega) (by omega) ?_
      intro v7 W3 ho7 hg7 hat7;obtain⟨A8,c8,rfl⟩:=ownsRow_form ho7;have hz:=HZ.out.app6 ho7 hg7 hat7;have hh:=Hh.out.keep (hg7.block _ (by omega) (HZ.out.own6 (by omega))) (hg7.block _ hld o6);have hl:=Nat.lt_of_lt_of_le hld hg7.size;have hgm:=hg7;clear HZ Hh hld HM ho7 hg7 hat7;have HZ:=qq hz;have Hh:=qq hh;have hld:=hl;clear hz hh hl;replace HT:=qq (rd_kept HT.out (hgm.block _ (by omega) (p6 _ (by omega))));clear hgm;refine hK.out _ _ (Hh.out) ?_;clear hK K
      try simp only[Act.put,qg,qe,qf,qd,qh,qi]
      refine wpAnyT_take (i:=12) (v:=?_) rfl (by kernel_rfl) (by kernel_rfl) (by kernel_rfl) (by kernel_rfl) (fun _ _ _ h=>h) (Or.inl ⟨by kernel_rfl,?_⟩) (by assumption) ?_
      rotate_left
      · (intro w hSw; (try dsimp only at hSw); first | (go_simp; done) | (go_simp; with_reducible rfl))
      try simp only[Act.put,qg,qe,qf,qd,qh,qi]
      refine wpAnyT_step (i:=11) (by kernel_rfl) rfl (fun K hK=>?_)
      refine step_append_rd _ (by rfl) (.tmp 34) (.tmp 37) 56 (by rfl) (w.heap.size+1) 63 i0 _ 5 56 Tryd.underlying56 hi0 hz0 hz1 hz2 rfl (by omega) (.slice A5 k c5) k _ (by rfl) HZ.out.rt _ _ 1 1 [.int .u8 t.k,.int .i64 t.n,.int .i64 t.v,.int .u8 t.c,.slice Ax mx cx] (by rfl) HT.out (by intro u hu; simp at hu; rcases hu with rfl | rfl | rfl | rfl | rfl <;> rfl) (by unfold maxLen; omega) (by omega) (by omega) ?_
      intro v7 W4 ho7 hg7 hat7;obtain⟨A7,c7,rfl⟩:=ownsRow_form ho7;have hz:=HZ.out.app5 ho7 hg7 hat7;have hh:=Hh.out.keep (hg7.block _ (by omega) (HZ.out.own5 (by omega))) (hg7.block _ hld o5);have hl:=Nat.lt_of_lt_of_le hld hg7.size;clear HZ Hh hld HT ho7 hg7 hat7;have HZ:=qq hz;have Hh:=qq hh;have hld:=hl;clear hz hh hl;refine hK.out _ _ (Hh.out) ?_;clear hK K
      try simp only[Act.put,qg,qe,qf,qd,qh,qi]
      have x3:_=some (Value.slice A6 k c6):=HZ.out.bx.cell 3;have x2:_=some (Value.slice A5 k c5):=HZ.out.bx.cell 2;have f3:=HZ.out.bx.frozen 3;have f2:=HZ.out.bx.frozen 2;have hz:=Hmk.out.step Hlk.out ((HZ.out.set 3 (.slice A8 (k+1) c8)).set 2 (.slice A7 (k+1) c7)) (tyC Hx.out);rw[← Hst.out] at hz;have Hs:=qq hz;clear hz HZ Hh;refine wpAnyT_seq 13 (by omega) (by rfl) (by kernel_rfl) ?_;simp only[List.drop_succ_cons,List.drop_zero];go_wp2_with fail;refine NoPanic.normal ?_;clear x2 x3 f2 f3;go_wp2_with fail;go_roundg (nf - (k+1))
      case measure=>omega
      case rel=>exact⟨k+1,_,A7,c7,A8,c8,by omega,rfl,by go_num,Hs.out⟩
  · have d0:decide (k<nf)=false:=by simpa using hkn
    have hkf:nf=k:=by omega
    subst hkf;have hall:fs.take nf=fs:=List.take_of_length_le (by omega);rw[hall] at hmk hlk;have Hmk:=qq hmk;have Hlk:=qq hlk;clear hall hmk hlk;have hz:=Hmk.out.1;rw[Hlk.out] at hz;have hgw:=HK.out.lt
    have hgne:g≠w.heap.size:=by omega
    have hx1:wr.cell? ⟨g,1,none⟩=some (.slice Ac s.cons.length cc):=(hz.bel.cell (p:=⟨g,1,none⟩) hgw).trans (HK.out.cell 1);have hb0:=hz.bx.lt
    have hgr:g<wr.heap.size:=by omega
    have hheld:HeldC g w.heap.size (.slice Ac s.cons.length cc) name n (.slice A5 nf c5) (.slice A6 nf c6) wr:=⟨hx1,hz.bx.cell 0,hz.bx.cell 1,hz.bx.cell 2,hz.bx.cell 3⟩;obtain⟨l0,hl0,ha0,ha1,ha2⟩:=info_parts conInfo;go_upto_region 7 with fail;refine wp_region_noPanic ?_;refine wp_region_T (fun w'=>w'.cell? ⟨g,1,none⟩=some (.slice Ac s.cons.length cc)∧w'.cell? ⟨w.heap.size,0,none⟩=some (.string name)∧w'.cell? ⟨w.heap.size,1,none⟩=some (.int .i64 n)∧w'.cell? ⟨w.heap.size,2,none⟩=some (.slice A5 nf c5)∧w'.cell? ⟨w.heap.size,3,none⟩=some (.slice A6 nf c6)) 9 (by kernel_rfl) hheld (fun hHeld=>?_);have hbd:Below wr.heap.size wr wr.drew:=Below.drew (Below.refl _ _);have hzd:=hz.below hbd;have hheldd:HeldC g w.heap.size (.slice Ac s.cons.length cc) name n (.slice A5 nf c5) (.slice A6 nf c6) wr.drew:=hHeld;have hsz0:wr.heap.size≤wr.drew.heap.size:=hbd.size;clear hz hx1 hheld hbd;generalize wr.drew=W0 at hHeld hzd hheldd hsz0 ⊢;have hsm:=HM.out.below hzd.bel
    have hown:∀ b,(Value.slice Ac s.cons.length cc).ownBlock=some b∨Apart R (.slice Ad s.datas.length cd) vs b→b<w.heap.size:=fun b h=>by
     rcases h with h | h | h | ⟨v,hv,h⟩
     · exact(HM.out.oc.lt' h).2
     · exact hRb b h
     · exact(own_lt HM.out.od h).2
     · exact(HM.out.rowLt hv h).2
    have hcV:=(ConMk.cels (R:=fun b=>(Value.slice Ac s.cons.length cc).ownBlock=some b∨Apart R (.slice Ad s.datas.length cd) vs b) (show ConMk w S name n fs cs A5 c5 A6 c6 W0 from⟨by rw[Hlk.out]; exact hzd,Hmk.out.2⟩) (fun b hb=>by
     rw[← HS.out] at hb
     exact⟨hb.1,fun h=>h.elim (fun e=>hb.2.2 e.symm) hb.2.1⟩) (fun b hb h=>by have:=hown b h; omega)).keep (S':=fun b=>b<W0.heap.size∧some b≠(Value.slice Ac s.cons.length cc).ownBlock∧¬ Apart R (.slice Ad s.datas.length cd) vs b) (fun b hb=>⟨hb.1,fun e=>hb.2 (Or.inl e.symm),fun h=>hb.2 (Or.inr h)⟩) (fun _ _=>rfl)
    rw[Hlk.out] at hcV;have HcV:=qq hcV;have HZ:=qq hzd;have HSM:=qq hsm;have Hh:=qq hheldd;have hgo:some g≠(Value.slice Ac s.cons.length cc).ownBlock:=fun e=>hg (Or.inr (Or.inl e.symm))
    have hbo:some w.heap.size≠(Value.slice Ac s.cons.length cc).ownBlock:=fun e=>by have:=(HM.out.oc.lt' e.symm).2; omega
    have hk0:=qq (HK.out.below hzd.bel hgw);have HF0:Hid (ButS g (RowB (.slice Ad s.datas.length cd) (.slice Ac s.cons.length cc) vs) w W0):=qq (ButS.of hzd.bel);clear hzd hheldd hsm hcV hown;refine nx0 0 ?_
    iterate 7 (refine nx (v:=?_) rfl (by kernel_rfl) (fun _ _ _ h=>h) (by kernel_rfl) ?_ (by assumption) ?_; rotate_left; (focus (intro w hSw; (try dsimp only at hSw); first | (go_simp; done) | (go_simp; with_reducible rfl))); try simp only[Act.put,qg,qe,qf,qd,qh,qi,Nat.reduceAdd])
    refine nx9 ?_;have hh3:HeldC g w.heap.size (.slice Ac s.cons.length cc) name n (.slice A5 nf c5) (.slice A6 nf c6) (W0.alloc (Obj.cells #[.string name,.int .i64 n,.slice A5 nf c5,.slice A6 nf c6] 58)):=Hh.out.keep (Below.heap_alloc _ _ _ (by omega)) (Below.heap_alloc _ _ _ (by omega));have Hh3:=qq hh3;clear hh3;refine wpAnyT_step (i:=7) (by kernel_rfl) rfl (fun K hK=>?_);go_simp;refine hK.out _ _ Hh3.out ?_;clear hK K
    try simp only[Act.put,qg,qe,qf,qd,qh,qi]
    refine wpAnyT_step (i:=8) (by kernel_rfl) rfl (fun K hK=>?_)
    (refine step_append_cel (B0:=base) W0 W0 (by rfl) (.tmp 47) (.tmp 49) 23 (by rfl) base 58 l0 _ 4 72 Tryd.underlying23 hl0 ha0 ha1 ha2 rfl (by omega) (Apart R (.slice Ad s.datas.length cd) vs) (.slice Ac s.cons.length cc) s.cons.length _ (by rfl) [.string name,.int .i64 n,.slice A5 nf c5,.slice A6 nf c6] _ rfl (by intro u hu; simp at hu; rcases hu with rfl | rfl | rfl | rfl <;> rfl) (by rfl) HSM.out.oc HcV.out (by unfold maxLen; omega) (by omega) (Below.refl _ _) (Nat.le_refl _) (by omega) ?_; intro A8 c8 w8 ho8 hbel8 hg8 hsz8 hn8)
    refine hK.out _ _ (Hh.out.keep (hg8.block _ (by omega) hgo) (hg8.block _ (by omega) hbo)) ?_;clear hK K
    try simp only[Act.put,qg,qe,qf,qd,qh,qi]
    have hk8:=hk0.out.grown hg8 hgo;have f1:=hk8.frozen 1;have x1:w8.cell? ⟨g,1,none⟩=some (.slice Ac s.cons.length cc):=hk8.cell 1
    have hg8':¬ RowB (.slice Ad s.datas.length cd) (.slice A8 (s.cons.length+1) c8) vs g:=fun h=>by
     rcases h with h | h | h
     · exact hg (Or.inl h)
     · rcases hn8 with q | q
       · exact hg (Or.inr (Or.inl (q ▸ h)))
       · rw[q] at h
         injection h with h
         omega
     · exact hg (Or.inr (Or.inr h))
    have hs9:=(HSM.out.con ho8 hg8 hsz8 (hn8.imp id fun e=>⟨_,e,by omega⟩)).setR (p:=⟨g,1,none⟩) hg8' hR (.slice A8 (s.cons.length+1) c8)
    have hk9:Blk (w8.setCell ⟨g,1,none⟩ (.slice A8 (s.cons.length+1) c8)) g 91 (mkC (.slice Ad s.datas.length cd) (.slice A8 (s.cons.length+1) c8) d):=hk8.set_ 1 (.slice A8 (s.cons.length+1) c8);have Hs9:=qq hs9;have Hk9:=qq hk9;have HF9:=qq ((HF0.out.grown hg8 (fun b e=>Or.inr (Or.inl e))).set (Or.inl rfl) 1 (.slice A8 (s.cons.length+1) c8))
    have HO8:Hid (∀ b,(Value.slice A8 (s.cons.length+1) c8).ownBlock=some b→(Value.slice Ac s.cons.length cc).ownBlock=some b∨w.heap.size≤b):=qq fun b e=>by
     rcases hn8 with q | q
     · exact Or.inl (q ▸ e)
     · rw[q] at e
       injection e with e
       exact Or.inr (by omega)
    clear hs9 hk9 hk8 ho8 hbel8 hsz8 hn8 hg8 HSM HcV HZ Hh3;refine wpAnyT_seq 9 (by omega) (by rfl) (by kernel_rfl) ?_;simp only[List.drop_succ_cons,List.drop_zero];go_wp2_with fail;refine NoPanic.normal ?_;obtain⟨w9,hw9⟩:∃ q,w8.setCell ⟨g,1,none⟩ (.slice A8 (s.cons.length+1) c8)=q:=⟨_,rfl⟩;rw[hw9] at Hs9 Hk9 HF9 ⊢;clear f1 x1 hw9;have hds:=Hs9.out.od
    obtain⟨gd,rfl,hgd,hgd1,hgd2,hdc,hdf⟩:=own_addr hds (by show 0<s.datas.length; omega)
    have hnv:n<vs.length:=by rw[Hs9.out.len]; exact hn
    have hcell:=hdc (n * 3+2) _ (dCells_get Hs9.out.len n hn hnv).2.2;obtain⟨Av,cv,hv⟩:=ownsRow_form (Hs9.out.oi n hnv hn);have hoi:=Hs9.out.oi n hnv hn;have hvm:=List.getElem_mem hnv;rw[hv] at hcell hoi;have hcl:s.datas[n].cons.length≤1000000:=hl2 _ (List.getElem_mem hn);have hy0':w9.cell? ⟨g,0,none⟩=some (.slice (some ⟨gd,0,none⟩) s.datas.length cd):=Hk9.out.cell 0
    have n1:(0:Int)≤(n:Int):=by omega
    have n2:(n:Int)<s.datas.length:=by omega
    have d63:s.datas.length≤9223372036854775807:=by omega
    obtain⟨p0,hp0,hq0,hq1,hq2⟩:=info_parts int13Info;go_upto_region 8 with fail;refine wp_region_noPanic ?_;refine wp_region_T (fun w'=>w'.cell? ⟨g,0,none⟩=some (.slice (some ⟨gd,0,none⟩) s.datas.length cd)∧w'.cell? ⟨gd,n * 3+2,none⟩=some (.slice Av s.datas[n].cons.length cv)) 18 (by kernel_rfl) ⟨hy0',hcell⟩ (fun hHeld=>?_);have hbd:Below w9.heap.size w9 w9.drew:=Below.drew (Below.refl _ _);have hsm:=Hs9.out.below hbd;have hkm:=Hk9.out.below hbd Hk9.out.lt;have hoi2:=ownsRow_beyond hoi hbd;have hf2:=HF9.out.below hbd;have hheldd:HeldN g gd (n * 3+2) (.slice (some ⟨gd,0,none⟩) s.datas.length cd) (.slice Av s.datas[n].cons.length cv) w9.drew:=hHeld;have hgdd:gd<w9.drew.heap.size:=hgd2;have hfz:∀ j,w9.drew.frozen? ⟨gd,j,none⟩=false:=hdf;clear hbd hcell hoi hdc hdf hgd2 hy0';generalize w9.drew=W2 at hHeld hsm hkm hoi2 hheldd hgdd hfz hf2 ⊢
    have hgv:some g≠(Value.slice Av s.datas[n].cons.length cv).ownBlock:=fun e=>hg (Or.inr (Or.inr ⟨vs[n],hvm,by rw[hv]; exact e.symm⟩))
    have hgdv:some gd≠(Value.slice Av s.datas[n].cons.length cv).ownBlock:=fun e=>hsm.sd gd hgd vs[n] hvm (by rw[hv]; exact e.symm)
    have hbI:=below_box (w:=W2) (Obj.cells #[.int .i64 s.cons.length] 3);have hsI:=hsm.below hbI;have HFI:=qq (hf2.below hbI);have hkI:=hkm.below hbI hkm.lt;have hoI:=ownsRow_beyond hoi2 hbI;have hrI:=rd_newk W2 [.int .i64 s.cons.length] 1 rfl 3
    have hzI:(W2.alloc (Obj.cells #[.int .i64 s.cons.length] 3)).heap.size=W2.heap.size+1:=by simp
    have hhI:=hheldd.keep (hbI.block g hkm.lt) (hbI.block gd hgdd);have HsI:=qq hsI;have HkI:=qq hkI;have HoI:=qq hoI;have HrI:=qq hrI;have HhI:=qq hhI;have HzI:=qq hzI;have Hfz:=qq hfz;have hkml:=hkm.lt;have Hv:=qq hv;clear hsm hkm hoi2 hheldd hbI hsI hkI hoI hrI hhI hzI hfz hv hf2;refine nx0 0 ?_
    iterate 16 (refine nx (v:=?_) rfl (by kernel_rfl) (fun _ _ _ h=>h) (by kernel_rfl) ?_ (by assumption) ?_; rotate_left; (focus (intro w hSw; (try dsimp only at hSw); first | (go_simp; done) | (go_simp; with_reducible rfl))); try simp only[Act.put,qg,qe,qf,qd,qh,qi,Nat.reduceAdd])
    refine nx9 ?_;refine wpAnyT_step (i:=16) (by kernel_rfl) rfl (fun K hK=>?_);go_simp;refine hK.out _ _ HhI.out ?_;clear hK K
    try simp only[Act.put,qg,qe,qf,qd,qh,qi]
    refine wpAnyT_step (i:=17) (by kernel_rfl) rfl (fun K hK=>?_)
    (refine step_append_rd _ (by rfl) (.tmp 68) (.tmp 70) 50 (by rfl) base 3 p0 _ 1 8 Tryd.underlying50 hp0 hq0 hq1 hq2 rfl (by omega) (.slice Av s.datas[n].cons.length cv) s.datas[n].cons.length _ (by rfl) HoI.out _ _ 1 1 [.int .i64 s.cons.length] (by rfl) HrI.out (by intro u hu; simp at hu; subst hu; rfl) (by unfold maxLen; omega) (by omega) (by have:=HzI.out; have:=hgd1; omega) ?_; intro v7 wZ ho7 hg7 hat7; obtain⟨A9,c9,rfl⟩:=ownsRow_form ho7)
    refine hK.out _ _ (HhI.out.keep (hg7.block g HkI.out.lt hgv) (hg7.block gd (by have:=HzI.out; omega) hgdv)) ?_
    clear hK K
    try simp only[Act.put,qg,qe,qf,qd,qh,qi]
    have hkZ:=HkI.out.grown hg7 hgv
    have hgI:gd<(W2.alloc (Obj.cells #[.int .i64 s.cons.length] 3)).heap.size:=by have:=HzI.out; omega
    have hbZ:wZ.heap[gd]?=W2.heap[gd]?:=(hg7.block gd hgI hgdv).trans (Below.heap_alloc _ _ _ hgdd)
    have fz:wZ.frozen? ⟨gd,n * 3+2,none⟩=false:=by
     have h:=Hfz.out (n * 3+2);unfold World.frozen? at h ⊢
     rw[show wZ.heap[(⟨gd,n * 3+2,none⟩:Addr).block]?=W2.heap[(⟨gd,n * 3+2,none⟩:Addr).block]? from hbZ]
     exact h
    have xz:wZ.cell? ⟨gd,n * 3+2,none⟩=some (.slice Av s.datas[n].cons.length cv):=(World.cell?_of_block (hg7.block gd hgI hgdv)).trans HhI.out.2
    have hsN:=HsI.out.num hn (v':=.slice A9 (s.datas[n].cons.length+1) c9) (x:=(s.cons.length:Int)) hnv ho7 (by rw[Hv.out]; exact hg7) (by rw[Hv.out]; exact hat7.imp id fun e=>⟨_,e,Nat.le_refl _⟩) hgd
    have hkN:=hkZ.other (show gd≠g from fun e=>hg (Or.inl (e ▸ hgd))) (n * 3+2) (.slice A9 (s.datas[n].cons.length+1) c9)
    have HFN:=qq ((HFI.out.grown hg7 (fun b e=>Or.inr (Or.inr ⟨vs[n],hvm,by rw[Hv.out]; exact e⟩))).set (Or.inr (Or.inl hgd)) (n * 3+2) (.slice A9 (s.datas[n].cons.length+1) c9))
    have HON:Hid (∀ b,RowB (.slice (some ⟨gd,0,none⟩) s.datas.length cd) (.slice A8 (s.cons.length+1) c8) (vs.set n (.slice A9 (s.datas[n].cons.length+1) c9)) b→RowB (.slice (some ⟨gd,0,none⟩) s.datas.length cd) (.slice Ac s.cons.length cc) vs b∨w.heap.size≤b):=qq fun b h=>by
     rcases h with h | h | ⟨v,hv',h⟩
     · exact Or.inl (Or.inl h)
     · exact(HO8.out b h).imp (fun q=>Or.inr (Or.inl q)) id
     · rcases List.mem_or_eq_of_mem_set hv' with q | q
       · exact Or.inl (Or.inr (Or.inr ⟨v,q,h⟩))
       · subst q
         rcases hat7 with q | q
         · exact Or.inl (Or.inr (Or.inr ⟨vs[n],hvm,by rw[Hv.out,← q]; exact h⟩))
         · rw[q] at h
           injection h with h
           have:=HFI.out.size;exact Or.inr (by omega)
    have HsN:=qq hsN;have HkN:=qq hkN;clear hsN hkN hkZ ho7 hg7 hat7 hbZ;refine wpAnyT_seq 18 (by omega) (by rfl) (by kernel_rfl) ?_;simp only[List.drop_succ_cons,List.drop_zero];go_wp2_with fail;refine NoPanic.normal ?_;clear fz xz;go_wp2_with fail
    go_end0
    exact⟨rfl,_,_,HkN.out,HsN.out,HFN.out,HON.out⟩
theorem data_anyS (g base:Nat) (R:Nat→Prop) (s:SigD) (vd vc:Value) (vs:List Value) (d:DiagD) (name:ByteArray) (params:Int) (w:World) (hk:Blk w g 91 (mkC vd vc d)) (hm:SigM w base R s vd vc vs) (hg:¬ RowB vd vc vs g) (hR:R g) (hn:s.datas.length≤1000000) (hb:base≤w.heap.size):
  Calls Tryd.prog 47 #[.pointer (some ⟨g,0,none⟩),.string name,.int .i64 params] w fun e w'=>e=.returned (.tuple #[])∧∃ vd',Blk w' g 91 (mkC vd' vc d)∧SigM w' base R ⟨s.datas++[⟨name,params,[]⟩],s.cons⟩ vd' vc (vs++[.slice none 0 0])∧ButS g (RowB vd vc vs) w w'∧∀ b,RowB vd' vc (vs++[.slice none 0 0]) b→RowB vd vc vs b∨w.heap.size≤b:=by
 refine(data_any g base R s vd vc vs d name params w hk hm hg hR hn hb).mono ?_;rintro e w' ⟨rfl,vd',h1,h2,h3,h4⟩;refine⟨rfl,vd',h1,h2,⟨h3.os,h3.tape,h3.output,h3.size,fun k hk hne hr=>h3.block k hk hne fun e=>hr (Or.inl e.symm)⟩,fun b h=>?_⟩
 rcases h with h | h | ⟨v,hv,h⟩
 · rcases h4 with q | ⟨b',q,q'⟩
   · exact Or.inl (Or.inl (q ▸ h))
   · rw[q] at h
     injection h with h
     exact Or.inr (by omega)
 · exact Or.inl (Or.inr (Or.inl h))
 · rcases List.mem_append.1 hv with q | q
   · exact Or.inl (Or.inr (Or.inr ⟨v,q,h⟩))
   · rw[List.mem_singleton.1 q] at h
     cases h
end Go.Proofs.YtgpeijkjmkocgaaDoor
