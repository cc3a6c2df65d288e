import Derived.Test.YtgpeijkjmkocgaaDoorM22
import Derived.Test.YtgpeijkjmkocgaaDoorM32
set_option linter.unusedVariables false
set_option linter.unusedSimpArgs false
namespace Go.Proofs.YtgpeijkjmkocgaaDoor
open Go.RowKit
def cn4 (nm:ByteArray) (n:Int) (v5 v6:Value):Array Value:=#[.string nm,.int .i64 n,v5,v6]
structure Con4 (w W4:World) (x:ConW) (A:Option Addr) (m cp:Nat) (v1 v2:Value):Prop where
 bs:Blk W4 w.heap.size 25 #[v1,v2]
 bc:Blk W4 (w.heap.size+1) 71 #[.string x.name,.int .i64 x.p.at_,.int .i64 x.p.line,.int .i64 x.p.col,.slice A m cp]
 r0:Blk W4 (w.heap.size+1+1) 58 (cn4 ⟨#[]⟩ 0 (.slice none 0 0) (.slice none 0 0))
 r1:Blk W4 (w.heap.size+1+1+1) 30 (dgC diagZ)
 s4:W4.heap.size=w.heap.size+1+1+1+1
 bel:Below w.heap.size w W4
structure RCon (W4:World) (nm:ByteArray) (n:Int) (l:List (Int × TyD)) (A5:Option Addr) (c5:Nat) (A6:Option Addr) (c6:Nat) (cs:List Value) (wx:World):Prop where
 hh:ConH W4 (cn4 nm n (.slice A5 l.length c5) (.slice A6 l.length c6)) (.slice A5 l.length c5) l.length cs (.slice A6 l.length c6) l.length (l.map fun f=>Value.int .u8 f.1) wx
 inn:CelsV wx (fun b=>W4.heap.size<b∧b<wx.heap.size∧some b≠(Value.slice A5 l.length c5).ownBlock∧some b≠(Value.slice A6 l.length c6).ownBlock) ((l.map Prod.snd).flatMap encT) cs
section
variable {w W4:World} {x:ConW} {nm:ByteArray} {A:Option Addr} {m cp:Nat} {v1 v2:Value} {n:Int} {l:List (Int × TyD)} {A5:Option Addr} {c5:Nat} {A6:Option Addr} {c6:Nat} {cs:List Value} {wx wy:World}
theorem Con4.below (h:Con4 w W4 x A m cp v1 v2) (hb:Below W4.heap.size W4 wx):Blk wx w.heap.size 25 #[v1,v2]∧Blk wx (w.heap.size+1) 71 #[.string x.name,.int .i64 x.p.at_,.int .i64 x.p.line,.int .i64 x.p.col,.slice A m cp] ∧
  Blk wx (w.heap.size+1+1) 58 (cn4 ⟨#[]⟩ 0 (.slice none 0 0) (.slice none 0 0))∧Blk wx (w.heap.size+1+1+1) 30 (dgC diagZ)∧Below w.heap.size w wx:=
 ⟨h.bs.below hb h.bs.lt,h.bc.below hb h.bc.lt,h.r0.below hb h.r0.lt,h.r1.below hb h.r1.lt,h.bel.trans (hb.mono h.bel.size)⟩
theorem RCon.below (h:RCon W4 nm n l A5 c5 A6 c6 cs wx) (hb:Below wx.heap.size wx wy):RCon W4 nm n l A5 c5 A6 c6 cs wy:=
 ⟨h.hh.below hb,h.inn.keep (fun b hq=>⟨hq.1,Nat.lt_of_lt_of_le hq.2.1 hb.size,hq.2.2⟩) fun p hp=>hb.cell hp.2.1⟩
theorem RCon.o (h:RCon W4 nm n l A5 c5 A6 c6 cs wx):wx.cell? ⟨W4.heap.size,0,none⟩=some (.string nm)∧wx.cell? ⟨W4.heap.size,1,none⟩=some (.int .i64 n)∧wx.cell? ⟨W4.heap.size,2,none⟩=some (.slice A5 l.length c5)∧wx.cell? ⟨W4.heap.size,3,none⟩=some (.slice A6 l.length c6):=
 ⟨h.hh.bx.cell 0,h.hh.bx.cell 1,h.hh.bx.cell 2,h.hh.bx.cell 3⟩
theorem RCon.nil (h:Blk wx W4.heap.size 58 (cn4 nm n (.slice none 0 0) (.slice none 0 0))) (hb:Below W4.heap.size W4 wx):RCon W4 nm n [] none 0 none 0 [] wx:=
 ⟨⟨h,World.ownsRow_nil _ _ _ _,World.ownsRow_nil _ _ _ _,fun b e=>absurd e (by simp[Value.ownBlock]),hb⟩,trivial⟩
theorem RCon.csl (h:RCon W4 nm n l A5 c5 A6 c6 cs wx):cs.length=l.length * 5:=h.hh.rt.1
theorem RCon.add (h:RCon W4 nm n l A5 c5 A6 c6 cs wx) (mu:Int) (t:TyD) {Ax:Option Addr} {mx cx:Nat} (ht:TysS wx (fun b=>W4.heap.size<b∧b<wx.heap.size∧some b≠(Value.slice A5 l.length c5).ownBlock∧some b≠(Value.slice A6 l.length c6).ownBlock) Ax mx cx t.l) {e:Ending}
  (hp:AddPostR W4 wx A5 A6 c5 c6 nm n l.length cs (l.map fun f=>Value.int .u8 f.1) mu t Ax mx cx e wy):e=.returned (.tuple #[])∧∃ A7 c7 A8 c8,RCon W4 nm n (l++[(mu,t)]) A7 c7 A8 c8 (cs++[.int .u8 t.k,.int .i64 t.n,.int .i64 t.v,.int .u8 t.c,.slice Ax mx cx]) wy:=by
 obtain⟨he,A7,c7,A8,c8,h1,h2,h3,h4⟩:=hp;have hb:=h1.bel;refine⟨he,A7,c7,A8,c8,?_,?_⟩
 · rw[List.length_append,List.map_append]
   exact h1
 · have hk:∀ b,(W4.heap.size<b∧b<wx.heap.size∧some b≠(Value.slice A5 l.length c5).ownBlock∧some b≠(Value.slice A6 l.length c6).ownBlock)→wy.heap[b]?=wx.heap[b]?:=fun b hq=>h2 b hq.2.1 (by omega) hq.2.2.1 hq.2.2.2
   have hs:∀ b,(W4.heap.size<b∧b<wx.heap.size∧some b≠(Value.slice A5 l.length c5).ownBlock∧some b≠(Value.slice A6 l.length c6).ownBlock)→W4.heap.size<b∧b<wy.heap.size∧some b≠(Value.slice A7 (l.length+1) c7).ownBlock∧some b≠(Value.slice A8 (l.length+1) c8).ownBlock:=fun b hq=>by
    refine⟨hq.1,?_,fun e=>hq.2.2.1 (h3 b hq.2.1 e.symm).symm,fun e=>hq.2.2.2 (h4 b hq.2.1 e.symm).symm⟩;have:=hk b hq;rw[Array.getElem?_eq_getElem hq.2.1] at this;exact(Array.getElem?_eq_some_iff.1 this).1
   have e1:(l++[(mu,t)]).length=l.length+1:=by simp
   have e2:((l++[(mu,t)]).map Prod.snd).flatMap encT=(l.map Prod.snd).flatMap encT++encT t:=by simp
   rw[e1,e2];refine CelsV.append ((h.inn.keep hs fun p hp=>World.cell?_of_block (hk _ hp))) ?_;exact tyC (ht.keep hs fun p hp=>World.cell?_of_block (hk _ hp))
theorem RCon.cels (h:RCon W4 nm n l A5 c5 A6 c6 cs wx) {S:Nat→Prop} (hS:∀ b,W4.heap.size<b→b<wx.heap.size→S b):CelsV wx S (encCn ⟨nm,n,l.map Prod.snd,l.map Prod.fst⟩) [.string nm,.int .i64 n,.slice A5 l.length c5,.slice A6 l.length c6]:=by
 have h5:OwnC wx (W4.heap.size+1) 63 5 (fun b=>b≤W4.heap.size) (.slice A5 l.length c5) l.length ((l.map Prod.snd).flatMap encT):=
  ⟨by rw[flat_len encT_len,List.length_map],cs,h.hh.rt,h.inn.keep (fun b hb=>⟨hb.2.1,hb.2.2.1,by omega⟩) fun p hp=>rfl⟩
 have h6:OwnC wx (W4.heap.size+1) 44 1 (fun b=>b≤W4.heap.size) (.slice A6 l.length c6) l.length ((l.map Prod.fst).flatMap encU):=
  ⟨by rw[flat_len (k:=1) (fun _=>rfl),List.length_map],_,h.hh.rm,celsU l⟩
 have h7:CelsV wx (fun b=>b<wx.heap.size∧¬ b≤W4.heap.size) (encCn ⟨nm,n,l.map Prod.snd,l.map Prod.fst⟩) [.string nm,.int .i64 n,.slice A5 l.length c5,.slice A6 l.length c6]:=
  ⟨celIn_v.2 rfl,celIn_v.2 rfl,h5.cel (fun _ h=>h) (fun b hb=>by omega),h6.cel (fun _ h=>h) (fun b hb=>by omega),trivial⟩
 exact h7.keep (fun b hb=>hS b (by omega) hb.1) fun p hp=>rfl
def stC (s:Nat) (nm:ByteArray) (n:Int) (v5 v6:Value) (w:World):World:=setL (s+1+1) [(0,.string nm),(1,.int .i64 n),(2,v5),(3,v6)] w
def stD (s:Nat) (d:DiagD) (w:World):World:=setL (s+1+1+1) [(0,.int .i64 d.e),(1,.int .i64 d.p.at_),(2,.int .i64 d.p.line),(3,.int .i64 d.p.col)] w
theorem RCon.fin (h:RCon W4 nm n l A5 c5 A6 c6 cs wx) (h4:Con4 w W4 x A m cp v1 v2) (d:DiagD) {wz:World} (hz:stD w.heap.size d (stC w.heap.size nm n (.slice A5 l.length c5) (.slice A6 l.length c6) wx)=wz):
  Blk wz (w.heap.size+1+1) 58 (cn4 nm n (.slice A5 l.length c5) (.slice A6 l.length c6))∧Blk wz (w.heap.size+1+1+1) 30 (dgC d)∧CelsV wz (fun b=>w.heap.size≤b∧b<wz.heap.size) (encCn ⟨nm,n,l.map Prod.snd,l.map Prod.fst⟩) [.string nm,.int .i64 n,.slice A5 l.length c5,.slice A6 l.length c6]∧Below w.heap.size w wz:=by
 have hs4:=h4.s4;obtain⟨_,_,k0,k1,hb⟩:=h4.below h.hh.bel
 have hc:=h.cels (S:=fun b=>w.heap.size+1+1+1+1<b∧b<wx.heap.size) (fun b h1 h2=>⟨by omega,h2⟩)
 subst hz
 refine⟨Blk.setL (by omega) _ (blk_setL [(0,.string nm),(1,.int .i64 n),(2,.slice A5 l.length c5),(3,.slice A6 l.length c6)] k0),blk_setL [(0,.int .i64 d.e),(1,.int .i64 d.p.at_),(2,.int .i64 d.p.line),(3,.int .i64 d.p.col)] (Blk.setL (by omega) _ k1),hc.keep (S':=fun b=>w.heap.size≤b∧b<(stD w.heap.size d (stC w.heap.size nm n (.slice A5 l.length c5) (.slice A6 l.length c6) wx)).heap.size) (fun b hq=>⟨by omega,?_⟩) (fun p hp=>World.cell?_of_block ?_),setL_below (by omega) _ _ (setL_below (by omega) _ _ hb)⟩
 · unfold stD stC
   rw[setL_size,setL_size];exact hq.2
 · exact(setL_block (by have:=hp.1; omega) _ _).trans (setL_block (by have:=hp.1; omega) _ _)
end
end Go.Proofs.YtgpeijkjmkocgaaDoor
