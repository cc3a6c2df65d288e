import Derived.Test.YtdmakpmbknindaaGreatDoorR4
set_option linter.unusedVariables false
set_option linter.unusedSimpArgs false
set_option maxRecDepth 100000
namespace Go.Proofs.YtdmakpmbknindaaGreatDoor
open Go.RowKit
attribute [local go_sem ↓] Go.wp_at_zero Go.wp_at_succ
theorem refAt_any (A:Option Addr) (n c:Nat) (us:List Int) (x:Int) (w:World) (B:Nat) (h:RdI .i64 w B A n c us) (r:Int) (hr:idxN us x=r):
 Calls Tryz.prog 101 #[.slice A n c,.int .i64 x] w fun e w'=>e=.returned (.int .i64 r)∧Below w.heap.size w w':=by
 subst hr;have hlen:=h.len;have m63:n≤9223372036854775807:=Nat.le_trans h.2.1 h.2.2;have H:=qq h;clear h
 go_enter Tryz.func101,Tryz.ntmps101
 go_wp2_with fail
 go_loopg [5] n (fun gh i wr=>∃ k:Nat,k≤n∧gh=n - k∧i=.int .i64 k∧wr=w∧∀ j (h:j<us.length),j<k→(x==us[j])=false)
 case atStart=>exact⟨0,Nat.zero_le _,rfl,rfl,rfl,fun j _ hj=>absurd hj (by omega)⟩
 case round=>
  obtain⟨k,hk,rfl,rfl,rfl,hb⟩:=hrel
  by_cases hkm:k<n
  · have d0:decide (k<n)=true:=by simpa using hkm
    have hk':k<us.length:=by omega
    obtain⟨b,off,rfl,_,hc⟩:=H.out.at_ (by omega);have e0:=hc k hk';have Hb:=qq hb
    have k1:(0:Int)≤(k:Int):=by omega
    have k2:(k:Int)<n:=by omega
    clear hc hb;obtain⟨y,hy⟩:∃ y,us[k]=y:=⟨_,rfl⟩;rw[hy] at e0
    by_cases hxy:x=y
    · have d1:(y==x)=true:=by simp[hxy]
      have HR:Hid ((k:Int)=idxN us x):=qq (idxN_at hk' Hb.out (by rw[hy]; simpa using hxy)).symm
      clear hxy hy;go_wp2_with fail;go_ret;exact⟨ret_int HR.out,Below.refl _ _⟩
    · have d1:(y==x)=false:=by simp; exact fun e=>hxy e.symm
      have Hn:Hid (∀ j (h:j<us.length),j<k+1→(x==us[j])=false):=qq fun j hj hjk=>by
       rcases Nat.lt_or_ge j k with h | h
       · exact Hb.out j hj h
       · obtain rfl:j=k:=by omega
         rw[hy]; simpa using hxy
      clear hxy hy;go_wp2_with fail;go_roundg (n - (k+1))
      case measure=>omega
      case rel=>exact⟨k+1,by omega,rfl,by go_num,rfl,Hn.out⟩
  · have d0:decide (k<n)=false:=by simpa using hkm
    have HR:Hid ((-1:Int)=idxN us x):=qq (idxN_none fun j hj=>hb j hj (by omega)).symm;clear hb;go_wp2_with fail;go_ret;exact⟨ret_int HR.out,Below.refl _ _⟩
def SnAt (w:World) (g:Nat) (l1 l2:List Int) (A1:Option Addr) (c1:Nat) (A2:Option Addr) (c2:Nat):Prop:=
 Blk w g 32 #[.slice A1 l1.length c1,.slice A2 l2.length c2]∧w.ownsRow (g+1) 3 1 (.slice A1 l1.length c1) l1.length (l1.map (Value.int .i64))∧w.ownsRow (g+1) 3 1 (.slice A2 l2.length c2) l2.length (l2.map (Value.int .i64))∧(∀ a b:Addr,A1=some a→A2=some b→a.block≠b.block)
def SOut (g:Nat) (w w':World):Prop:=
 Below g w w'∧∀ k o,w.heap[k]?=some o→k≠g→(∀ cs fz,o ≠ .cells cs 3 fz)→w'.heap[k]?=some o
section
variable {g:Nat} {l1 l2:List Int} {A1 A2:Option Addr} {c1 c2:Nat} {w w' w'':World}
theorem SOut.refl (g:Nat) (w:World):SOut g w w:=⟨Below.refl _ _,fun _ _ h _ _=>h⟩
theorem SOut.trans (h:SOut g w w') (h2:SOut g w' w''):SOut g w w'':=⟨h.1.trans h2.1,fun k o hk h1 h3=>h2.2 k o (h.2 k o hk h1 h3) h1 h3⟩
theorem SOut.of_below (hs:g≤w.heap.size) (h:Below w.heap.size w w'):SOut g w w':=⟨h.mono hs,fun k o hk _ _=>(h.block k (Array.getElem?_eq_some_iff.1 hk).1).trans hk⟩
theorem Blk.sout {k:Nat} {t:TypeId} {cs:Array Value} (h:Blk w k t cs) (ho:SOut g w w') (h1:k≠g) (ht:t≠3):Blk w' k t cs:=
 ho.2 k _ h h1 (fun c fz e=>by injection e with _ e2 _; exact ht e2)
theorem SnAt.lt (h:SnAt w g l1 l2 A1 c1 A2 c2):g<w.heap.size:=h.1.lt
theorem SnAt.below (h:SnAt w g l1 l2 A1 c1 A2 c2) (hb:Below w.heap.size w w'):SnAt w' g l1 l2 A1 c1 A2 c2:=⟨h.1.below hb h.1.lt,ownsRow_beyond h.2.1 hb,ownsRow_beyond h.2.2.1 hb,h.2.2.2⟩
theorem SnAt.r1 (h:SnAt w g l1 l2 A1 c1 A2 c2):RdI .i64 w w.heap.size A1 l1.length c1 l1:=RdI.of_own h.2.1
theorem SnAt.r2 (h:SnAt w g l1 l2 A1 c1 A2 c2):RdI .i64 w w.heap.size A2 l2.length c2 l2:=RdI.of_own h.2.2.1
theorem own_lo {B:Nat} {l:List Int} {A:Option Addr} {n c:Nat} (h:w.ownsRow B 3 1 (.slice A n c) n (l.map (Value.int .i64))) (a:Addr) (ha:A=some a):B≤a.block∧a.block<w.heap.size:=by
 subst ha;exact h.lt a.block rfl
theorem own_other {B:Nat} {l:List Int} {A A':Option Addr} {n c n' c':Nat} (h:w.ownsRow B 3 1 (.slice A n c) n (l.map (Value.int .i64))) (hg:w.grownBy w' (Value.slice A' n' c').ownBlock) (hd:∀ a b:Addr,A=some a→A'=some b→a.block≠b.block):w'.ownsRow B 3 1 (.slice A n c) n (l.map (Value.int .i64)):=by
 rcases h.2 with h0 | ⟨b,cap,cur,e0,hb,hblk,h2⟩
 · exact⟨h.1,.inl h0⟩
 · refine⟨h.1,.inr ⟨b,cap,cur,e0,hb,?_,h2⟩⟩
   have hA:A=some ⟨b,0,none⟩:=by injection e0
   refine(hg.block b (Array.getElem?_eq_some_iff.1 hblk).1 fun e=>?_).trans hblk
   cases A' with
   | none=>simp[Value.ownBlock] at e
   | some a'=>exact hd _ a' hA rfl (by simpa[Value.ownBlock] using e)
theorem SnAt.note1 {x:Int} {A4:Option Addr} {c4:Nat} (h:SnAt w g l1 l2 A1 c1 A2 c2) (ho:w'.ownsRow (g+1) 3 1 (.slice A4 (l1.length+1) c4) (l1.length+1) (l1.map (Value.int .i64)++[.int .i64 x])) (hg:w.grownBy w' (Value.slice A1 l1.length c1).ownBlock)
 (hat:(Value.slice A4 (l1.length+1) c4).ownBlock=(Value.slice A1 l1.length c1).ownBlock∨∃ k,(Value.slice A4 (l1.length+1) c4).ownBlock=some k∧w.heap.size≤k):
 SnAt (w'.setCell ⟨g,0,none⟩ (.slice A4 (l1.length+1) c4)) g (l1++[x]) l2 A4 c4 A2 c2∧SOut g w (w'.setCell ⟨g,0,none⟩ (.slice A4 (l1.length+1) c4)):=by
 obtain⟨h1,h2,h3,h4⟩:=h
 have hlen:(l1++[x]).length=l1.length+1:=by simp
 have hmap:(l1++[x]).map (Value.int .i64)=l1.map (Value.int .i64)++[.int .i64 x]:=by simp
 have hgb:some g≠(Value.slice A1 l1.length c1).ownBlock:=fun e=>by have:=(h2.lt _ e.symm).1; omega
 have hk:Blk w' g 32 #[.slice A1 l1.length c1,.slice A2 l2.length c2]:=h1.grown hg hgb
 refine⟨⟨?_,?_,?_,fun a b ha hb=>?_⟩,⟨⟨hg.os,hg.tape,hg.output,by rw[World.size_setCell]; exact hg.size,fun k hk'=>?_⟩,fun k o hk' hkg hkk=>?_⟩⟩
 · rw[hlen]; exact hk.set_ 0 _
 · rw[hlen,hmap]; exact ownsRow_setCell_below ho (by show g<g+1; omega) _
 · exact ownsRow_setCell_below (own_other h3 hg fun a b ha hb=>(h4 b a hb ha).symm) (by show g<g+1; omega) _
 · subst ha
   have hb':=own_lo h3 b hb
   rcases hat with e | ⟨k,e,hk'⟩
   · cases A1 with
     | none=>simp[Value.ownBlock] at e
     | some a1=>
       have e2:a.block=a1.block:=by simpa[Value.ownBlock] using e
       rw[e2]; exact h4 a1 b rfl hb
   · have e2:a.block=k:=by simpa[Value.ownBlock] using e
     omega
 · rw[Below.heap_setCell _ _ _ _ (by show k≠g; omega)]
   exact hg.block k (by have:=h1.lt; omega) fun e=>by have:=(h2.lt _ e.symm).1; omega
 · rw[Below.heap_setCell _ _ _ _ hkg]
   refine(hg.block k (Array.getElem?_eq_some_iff.1 hk').1 fun e=>?_).trans hk';obtain⟨cs,fz,e2⟩:=owns_kind h2 k e.symm;rw[hk'] at e2
   injection e2 with e2
   exact hkk cs fz e2
theorem SnAt.note2 {x:Int} {A4:Option Addr} {c4:Nat} (h:SnAt w g l1 l2 A1 c1 A2 c2) (ho:w'.ownsRow (g+1) 3 1 (.slice A4 (l2.length+1) c4) (l2.length+1) (l2.map (Value.int .i64)++[.int .i64 x])) (hg:w.grownBy w' (Value.slice A2 l2.length c2).ownBlock)
 (hat:(Value.slice A4 (l2.length+1) c4).ownBlock=(Value.slice A2 l2.length c2).ownBlock∨∃ k,(Value.slice A4 (l2.length+1) c4).ownBlock=some k∧w.heap.size≤k):
 SnAt (w'.setCell ⟨g,1,none⟩ (.slice A4 (l2.length+1) c4)) g l1 (l2++[x]) A1 c1 A4 c4∧SOut g w (w'.setCell ⟨g,1,none⟩ (.slice A4 (l2.length+1) c4)):=by
 obtain⟨h1,h2,h3,h4⟩:=h
 have hlen:(l2++[x]).length=l2.length+1:=by simp
 have hmap:(l2++[x]).map (Value.int .i64)=l2.map (Value.int .i64)++[.int .i64 x]:=by simp
 have hgb:some g≠(Value.slice A2 l2.length c2).ownBlock:=fun e=>by have:=(h3.lt _ e.symm).1; omega
 have hk:Blk w' g 32 #[.slice A1 l1.length c1,.slice A2 l2.length c2]:=h1.grown hg hgb
 refine⟨⟨?_,?_,?_,fun a b ha hb=>?_⟩,⟨⟨hg.os,hg.tape,hg.output,by rw[World.size_setCell]; exact hg.size,fun k hk'=>?_⟩,fun k o hk' hkg hkk=>?_⟩⟩
 · rw[hlen]; exact hk.set_ 1 _
 · exact ownsRow_setCell_below (own_other h2 hg h4) (by show g<g+1; omega) _
 · rw[hlen,hmap]; exact ownsRow_setCell_below ho (by show g<g+1; omega) _
 · subst hb
   have hb':=own_lo h2 a ha
   rcases hat with e | ⟨k,e,hk'⟩
   · cases A2 with
     | none=>simp[Value.ownBlock] at e
     | some a1=>
       have e2:b.block=a1.block:=by simpa[Value.ownBlock] using e
       rw[e2]; exact h4 a a1 ha rfl
   · have e2:b.block=k:=by simpa[Value.ownBlock] using e
     omega
 · rw[Below.heap_setCell _ _ _ _ (by show k≠g; omega)]
   exact hg.block k (by have:=h1.lt; omega) fun e=>by have:=(h3.lt _ e.symm).1; omega
 · rw[Below.heap_setCell _ _ _ _ hkg]
   refine(hg.block k (Array.getElem?_eq_some_iff.1 hk').1 fun e=>?_).trans hk';obtain⟨cs,fz,e2⟩:=owns_kind h3 k e.symm;rw[hk'] at e2
   injection e2 with e2
   exact hkk cs fz e2
end
end Go.Proofs.YtdmakpmbknindaaGreatDoor
