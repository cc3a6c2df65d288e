import Derived.Test.YtdmakpmbknindaaGreatDoorR1
set_option linter.unusedVariables false
set_option linter.unusedSimpArgs false
set_option maxHeartbeats 1000000
namespace Go.Proofs.YtdmakpmbknindaaGreatDoor
open Go.RowKit
theorem ownsRow_monoE {w:World} {base base':Nat} {e:TypeId} {size:Nat} {v:Value} {n:Nat} {xs:List Value} (h:w.ownsRow base e size v n xs) (hb:base'≤base):w.ownsRow base' e size v n xs:=
 ⟨h.1,h.2.imp id fun⟨g,cap,cur,h1,h2,h3⟩=>⟨g,cap,cur,h1,Nat.le_trans hb h2,h3⟩⟩
structure OwnU (w:World) (base m:Nat) (v1 v2 v3:Value) (low up:List Int) (ps:List (List Int)) (vs:List Value):Prop where
 o1:w.ownsRow base 22 1 v1 low.length (low.map (Value.int .u8))
 o2:w.ownsRow base 22 1 v2 up.length (up.map (Value.int .u8))
 o3:w.ownsRow base 35 1 v3 (vs.take m).length (vs.take m)
 pl:ps.length=vs.length
 rows:∀ i (h:i<vs.length) (h':i<ps.length),∃ A c,vs[i]=.slice A ps[i].length c∧w.ownsRow base 22 1 (.slice A ps[i].length c) ps[i].length (ps[i].map (Value.int .u8))
 s12:∀ b,v1.ownBlock=some b→v2.ownBlock≠some b
 s13:∀ b,v1.ownBlock=some b→v3.ownBlock≠some b
 s23:∀ b,v2.ownBlock=some b→v3.ownBlock≠some b
 g1:∀ b,v1.ownBlock=some b→∀ v∈vs,v.ownBlock≠some b
 g2:∀ b,v2.ownBlock=some b→∀ v∈vs,v.ownBlock≠some b
 g3:∀ b,v3.ownBlock=some b→∀ v∈vs,v.ownBlock≠some b
section
variable {w w':World} {base m:Nat} {v1 v2 v3 v':Value} {low up:List Int} {ps:List (List Int)} {vs:List Value}
theorem OwnU.nil (w:World) (base:Nat):OwnU w base 0 (.slice none 0 0) (.slice none 0 0) (.slice none 0 0) [] [] [] []:=
 ⟨World.ownsRow_nil _ _ _ _,World.ownsRow_nil _ _ _ _,World.ownsRow_nil _ _ _ _,rfl,fun i h=>absurd h (by simp),fun b e=>absurd e (by simp[Value.ownBlock]),fun b e=>absurd e (by simp[Value.ownBlock]),fun b e=>absurd e (by simp[Value.ownBlock]),fun b e=>absurd e (by simp[Value.ownBlock]),fun b e=>absurd e (by simp[Value.ownBlock]),fun b e=>absurd e (by simp[Value.ownBlock])⟩
theorem OwnU.fresh (h:OwnU w base m v1 v2 v3 low up ps vs) (hb:Below w.heap.size w w'):OwnU w' base m v1 v2 v3 low up ps vs:=
 ⟨ownsRow_beyond h.o1 hb,ownsRow_beyond h.o2 hb,ownsRow_beyond h.o3 hb,h.pl,fun i hi hi'=>(h.rows i hi hi').imp fun A=>Exists.imp fun c hc=>⟨hc.1,ownsRow_beyond hc.2 hb⟩,h.s12,h.s13,h.s23,h.g1,h.g2,h.g3⟩
theorem OwnU.setG (h:OwnU w base m v1 v2 v3 low up ps vs) {g:Nat} (hg:g<base) (i:Nat) (u:Value):OwnU (w.setCell ⟨g,i,none⟩ u) base m v1 v2 v3 low up ps vs:=
 ⟨ownsRow_setCell_below h.o1 (a:=⟨g,i,none⟩) hg u,ownsRow_setCell_below h.o2 (a:=⟨g,i,none⟩) hg u,ownsRow_setCell_below h.o3 (a:=⟨g,i,none⟩) hg u,h.pl,fun j hj hj'=>(h.rows j hj hj').imp fun A=>Exists.imp fun c hc=>⟨hc.1,ownsRow_setCell_below hc.2 (a:=⟨g,i,none⟩) hg u⟩,h.s12,h.s13,h.s23,h.g1,h.g2,h.g3⟩
theorem OwnU.rowLt (h:OwnU w base m v1 v2 v3 low up ps vs) {v:Value} (hv:v∈vs) {b:Nat} (e:v.ownBlock=some b):b<w.heap.size:=by
 obtain⟨i,hi,rfl⟩:=List.getElem_of_mem hv
 obtain⟨A,c,e1,ho⟩:=h.rows i hi (by rw[h.pl]; exact hi)
 rw[e1] at e;exact(ownsRow_lt ho e).2
theorem OwnU.row {A:Option Addr} {n c:Nat} {row:List Int} (h:OwnU w base vs.length v1 v2 v3 low up ps vs) (hb:Below w.heap.size w w') (hB:base≤w.heap.size) (hk:w'.ownsRow w.heap.size 22 1 (.slice A n c) n (row.map (Value.int .u8))) (hr:row.length=n):OwnU w' base vs.length v1 v2 v3 low up (ps++[row]) (vs++[.slice A n c]):=by
 subst hr;have hf:=h.fresh hb
 have own:∀ {t:TypeId} {v:Value} {n':Nat} {us:List Value},w.ownsRow base t 1 v n' us→∀ b,v.ownBlock=some b→(∀ u∈vs,u.ownBlock≠some b)→∀ u∈vs++[.slice A row.length c],u.ownBlock≠some b:=fun ho b e hn u hm e2=>by
  have h1:=(ownsRow_lt ho e).2
  rcases List.mem_append.1 hm with q | q
  · exact hn u q e2
  · rw[List.mem_singleton.1 q] at e2
    have:=(ownsRow_lt hk e2).1;omega
 refine⟨hf.o1,hf.o2,?_,by simp[h.pl],fun i hi hi'=>?_,h.s12,h.s13,h.s23,fun b e=>own h.o1 b e (h.g1 b e),fun b e=>own h.o2 b e (h.g2 b e),fun b e=>own h.o3 b e (h.g3 b e)⟩
 · have:=hf.o3
   rw[List.take_of_length_le (Nat.le_refl _)] at this;rw[List.take_left' rfl];exact this
 · by_cases e:i<vs.length
   · have:=hf.rows i e (by rw[h.pl]; exact e)
     rw[List.getElem_append_left e]
     rw[show(ps++[row])[i]=ps[i]'(by rw[h.pl]; exact e) from List.getElem_append_left _]
     exact this
   · have e2:i=vs.length:=by simp at hi; omega
     subst e2
     rw[List.getElem_append_right (by omega),List.getElem_append_right (by rw[h.pl]; omega)]
     simp only[h.pl,Nat.sub_self,qe];exact⟨A,c,rfl,ownsRow_monoE hk hB⟩
theorem OwnU.rowsGrown (h:OwnU w base m v1 v2 v3 low up ps vs) {v:Value} (hg:w.grownBy w' v.ownBlock) (hs:∀ b,v.ownBlock=some b→∀ u∈vs,u.ownBlock≠some b):∀ i (h:i<vs.length) (h':i<ps.length),∃ A c,vs[i]=.slice A ps[i].length c∧w'.ownsRow base 22 1 (.slice A ps[i].length c) ps[i].length (ps[i].map (Value.int .u8)):=fun i hi hi'=>by
 obtain⟨A,c,e,ho⟩:=h.rows i hi hi'
 exact⟨A,c,e,grown_row hg ho fun b eb=>by have:=hs b eb _ (List.getElem_mem hi); rwa [e] at this⟩
theorem OwnU.newG (h:OwnU w base m v1 v2 v3 low up ps vs) {v:Value} (hn:v'.ownBlock=v.ownBlock∨v'.ownBlock=some w.heap.size) (hs:∀ b,v.ownBlock=some b→∀ u∈vs,u.ownBlock≠some b):∀ b,v'.ownBlock=some b→∀ u∈vs,u.ownBlock≠some b:=fun b e u hu e2=>by
 rcases hn with q | q
 · exact hs b (q ▸ e) u hu e2
 · rw[q] at e
   have:=h.rowLt hu e2
   cases e
   omega
theorem OwnU.app1 {x:Int} (h:OwnU w base m v1 v2 v3 low up ps vs) (ho:w'.ownsRow base 22 1 v' (low.length+1) (low.map (Value.int .u8)++[.int .u8 x])) (hg:w.grownBy w' v1.ownBlock) (hn:v'.ownBlock=v1.ownBlock∨v'.ownBlock=some w.heap.size):OwnU w' base m v' v2 v3 (low++[x]) up ps vs:=
 ⟨by simpa using ho,grown_row hg h.o2 h.s12,grown_row hg h.o3 h.s13,h.pl,h.rowsGrown hg h.g1,own_new (t1:=0) hn h.o2 h.s12,own_new (t1:=0) hn h.o3 h.s13,h.s23,h.newG hn h.g1,h.g2,h.g3⟩
theorem OwnU.app2 {x:Int} (h:OwnU w base m v1 v2 v3 low up ps vs) (ho:w'.ownsRow base 22 1 v' (up.length+1) (up.map (Value.int .u8)++[.int .u8 x])) (hg:w.grownBy w' v2.ownBlock) (hn:v'.ownBlock=v2.ownBlock∨v'.ownBlock=some w.heap.size):OwnU w' base m v1 v' v3 low (up++[x]) ps vs:=
 ⟨grown_row hg h.o1 fun b e e2=>h.s12 b e2 e,by simpa using ho,grown_row hg h.o3 h.s23,h.pl,h.rowsGrown hg h.g2,fun b e e2=>own_new (t1:=0) hn h.o1 (fun b e e2=>h.s12 b e2 e) b e2 e,h.s13,own_new (t1:=0) hn h.o3 h.s23,h.g1,h.newG hn h.g2,h.g3⟩
theorem OwnU.app3 {x:Value} (h:OwnU w base m v1 v2 v3 low up ps (vs++[x])) (hm:m=vs.length) (ho:w'.ownsRow base 35 1 v' (m+1) (vs++[x])) (hg:w.grownBy w' v3.ownBlock) (hn:v'.ownBlock=v3.ownBlock∨v'.ownBlock=some w.heap.size):OwnU w' base (vs++[x]).length v1 v2 v' low up ps (vs++[x]):=by
 refine⟨grown_row hg h.o1 fun b e e2=>h.s13 b e2 e,grown_row hg h.o2 fun b e e2=>h.s23 b e2 e,?_,h.pl,h.rowsGrown hg h.g3,h.s12,fun b e e2=>own_new (t1:=0) hn h.o1 (fun b e e2=>h.s13 b e2 e) b e2 e,fun b e e2=>own_new (t1:=0) hn h.o2 (fun b e e2=>h.s23 b e2 e) b e2 e,h.g1,h.g2,h.newG hn h.g3⟩;rw[List.take_of_length_le (Nat.le_refl _)];subst hm
 simpa using ho
theorem OwnU.tab (h:OwnU w base vs.length v1 v2 v3 low up ps vs):TabV w w.heap.size (.agg #[v1,v2,v3]) ⟨low,up,ps⟩:=by
 obtain⟨o1,o2,o3,pl,rows,_⟩:=h;rw[List.take_of_length_le (Nat.le_refl _)] at o3;obtain⟨A1,c1,rfl⟩:=ownsRow_form o1;obtain⟨A2,c2,rfl⟩:=ownsRow_form o2;obtain⟨A3,c3,rfl⟩:=ownsRow_form o3
 refine⟨A1,c1,A2,c2,A3,c3,by rw[pl],RdI.of_own o1,RdI.of_own o2,rfl,?_⟩
 have hc:vs.length≤c3∧c3≤maxLen:=by
  rcases o3.2 with ⟨q,q2⟩ | ⟨g,cap,cur,q1,q2,q3,q4,q5,_⟩
  · injection q with q6 q7 q8; rw[q8,q2]; exact⟨Nat.le_refl _,by unfold maxLen; omega⟩
  · injection q1 with q6 q7 q8; rw[q8]; exact⟨q4,q5⟩
 refine⟨by show ps.length≤c3; rw[pl]; exact hc.1,hc.2,fun hn=>?_⟩
 replace hn:0<ps.length:=hn
 rcases o3.2 with ⟨q,_⟩ | ⟨g,cap,cur,q1,q2,q3,q4⟩
 · injection q with _ q; omega
 · cases q1
   refine⟨g,0,rfl,(Array.getElem?_eq_some_iff.1 q3).1,fun i hi=>?_⟩
   have hi2:i<vs.length:=by rw[← pl]; exact hi
   obtain⟨A,c,r1,r2⟩:=rows i hi2 hi;refine⟨A,c,?_,RdI.of_own r2⟩;show w.cell? ⟨g,0+i,none⟩=some (Value.slice A ps[i].length c);have:=World.ownsRow.cells o3 (g:=g) rfl i vs[i] (by simp[hi2])
   have ea:Addr.add ⟨g,0,none⟩ i=⟨g,0+i,none⟩:=by unfold Addr.add; split <;> simp_all
   rw[r1,ea] at this;exact this
theorem OwnU.step1 {g g' B:Nat} {t t':TypeId} {cs':Array Value} {w0:World} {x:Int} {o:Obj} (h:OwnU w base m v1 v2 v3 low up ps vs) (hk:Blk w g t #[v1,v2,v3]) (hk':Blk w g' t' cs') (hg:g<base) (hg':g'<base) (hne:g≠g') (hb:Below B w0 w) (hB:B≤w0.heap.size) (hBg:B≤g) (ho:w'.ownsRow base 22 1 v' (low.length+1) (low.map (Value.int .u8)++[.int .u8 x])) (hgr:(w.alloc o).grownBy w' v1.ownBlock) (hn:v'.ownBlock=v1.ownBlock∨v'.ownBlock=some (w.alloc o).heap.size):
 (w'.cell? ⟨g,0,none⟩=some v1∧w'.frozen? ⟨g,0,none⟩=false)∧OwnU (w'.setCell ⟨g,0,none⟩ v') base m v' v2 v3 (low++[x]) up ps vs∧Blk (w'.setCell ⟨g,0,none⟩ v') g t #[v',v2,v3]∧Blk (w'.setCell ⟨g,0,none⟩ v') g' t' cs'∧Below B w0 (w'.setCell ⟨g,0,none⟩ v'):=by
 have hf:=h.fresh (below_box o);have h1:=hf.app1 ho hgr hn
 have k1:=(hk.alloc o).grown hgr fun e=>by have:=(ownsRow_lt h.o1 e.symm).1; omega
 have k1':=(hk'.alloc o).grown hgr fun e=>by have:=(ownsRow_lt h.o1 e.symm).1; omega
 have hBw:B≤w.heap.size:=Nat.le_trans hB hb.size;have hb0:=hb.alloc hBw o
 have hb1:=hb0.grown hgr (Nat.le_trans hB hb0.size) fun b e=>by have:=(ownsRow_lt h.o1 e).1; omega
 exact⟨⟨k1.cell 0,k1.frozen 0⟩,h1.setG hg 0 v',k1.set_ 0 v',k1'.other hne 0 v',hb1.setCell (p:=⟨g,0,none⟩) hBg v'⟩
theorem OwnU.step2 {g g' B:Nat} {t t':TypeId} {cs':Array Value} {w0:World} {x:Int} {o:Obj} (h:OwnU w base m v1 v2 v3 low up ps vs) (hk:Blk w g t #[v1,v2,v3]) (hk':Blk w g' t' cs') (hg:g<base) (hg':g'<base) (hne:g≠g') (hb:Below B w0 w) (hB:B≤w0.heap.size) (hBg:B≤g) (ho:w'.ownsRow base 22 1 v' (up.length+1) (up.map (Value.int .u8)++[.int .u8 x])) (hgr:(w.alloc o).grownBy w' v2.ownBlock) (hn:v'.ownBlock=v2.ownBlock∨v'.ownBlock=some (w.alloc o).heap.size):
 (w'.cell? ⟨g,1,none⟩=some v2∧w'.frozen? ⟨g,1,none⟩=false)∧OwnU (w'.setCell ⟨g,1,none⟩ v') base m v1 v' v3 low (up++[x]) ps vs∧Blk (w'.setCell ⟨g,1,none⟩ v') g t #[v1,v',v3]∧Blk (w'.setCell ⟨g,1,none⟩ v') g' t' cs'∧Below B w0 (w'.setCell ⟨g,1,none⟩ v'):=by
 have hf:=h.fresh (below_box o);have h1:=hf.app2 ho hgr hn
 have k1:=(hk.alloc o).grown hgr fun e=>by have:=(ownsRow_lt h.o2 e.symm).1; omega
 have k1':=(hk'.alloc o).grown hgr fun e=>by have:=(ownsRow_lt h.o2 e.symm).1; omega
 have hBw:B≤w.heap.size:=Nat.le_trans hB hb.size;have hb0:=hb.alloc hBw o
 have hb1:=hb0.grown hgr (Nat.le_trans hB hb0.size) fun b e=>by have:=(ownsRow_lt h.o2 e).1; omega
 exact⟨⟨k1.cell 1,k1.frozen 1⟩,h1.setG hg 1 v',k1.set_ 1 v',k1'.other hne 1 v',hb1.setCell (p:=⟨g,1,none⟩) hBg v'⟩
theorem OwnU.step3 {g g' B:Nat} {t t':TypeId} {cs':Array Value} {w0:World} {x:Value} {o:Obj} (h:OwnU w base m v1 v2 v3 low up ps (vs++[x])) (hm:m=vs.length) (hk:Blk w g t #[v1,v2,v3]) (hk':Blk w g' t' cs') (hg:g<base) (hg':g'<base) (hne:g≠g') (hb:Below B w0 w) (hB:B≤w0.heap.size) (hBg:B≤g) (ho:w'.ownsRow base 35 1 v' (m+1) (vs++[x])) (hgr:(w.alloc o).grownBy w' v3.ownBlock) (hn:v'.ownBlock=v3.ownBlock∨v'.ownBlock=some (w.alloc o).heap.size):
 (w'.cell? ⟨g,2,none⟩=some v3∧w'.frozen? ⟨g,2,none⟩=false)∧OwnU (w'.setCell ⟨g,2,none⟩ v') base (vs++[x]).length v1 v2 v' low up ps (vs++[x])∧Blk (w'.setCell ⟨g,2,none⟩ v') g t #[v1,v2,v']∧Blk (w'.setCell ⟨g,2,none⟩ v') g' t' cs'∧Below B w0 (w'.setCell ⟨g,2,none⟩ v'):=by
 have hf:=h.fresh (below_box o);have h1:=hf.app3 hm ho hgr hn
 have k1:=(hk.alloc o).grown hgr fun e=>by have:=(ownsRow_lt h.o3 e.symm).1; omega
 have k1':=(hk'.alloc o).grown hgr fun e=>by have:=(ownsRow_lt h.o3 e.symm).1; omega
 have hBw:B≤w.heap.size:=Nat.le_trans hB hb.size;have hb0:=hb.alloc hBw o
 have hb1:=hb0.grown hgr (Nat.le_trans hB hb0.size) fun b e=>by have:=(ownsRow_lt h.o3 e).1; omega
 exact⟨⟨k1.cell 2,k1.frozen 2⟩,h1.setG hg 2 v',k1.set_ 2 v',k1'.other hne 2 v',hb1.setCell (p:=⟨g,2,none⟩) hBg v'⟩
end
def lowK (x y z:Bool) (j:Nat):Int:=if x&&decide (1<j) then 1 else if y&&decide (2<j) then 2 else if z&&decide (3<j) then 3 else 0
def upK (x y z:Bool) (j:Nat):Int:=if z&&decide (3<j) then 3 else if y&&decide (2<j) then 2 else if x&&decide (1<j) then 1 else 0
def cK (x y z:Bool) (a b:Nat):Int:=if (y&&(decide (3<a) || (a==3&&decide (1<b)))) || (z&&(decide (3<a) || (a==3&&decide (2<b)))) then 3 else if x&&(decide (2<a) || (a==2&&decide (1<b))) then 2 else 1
theorem lowK_all (p:Int→Bool):lowK (p 1) (p 2) (p 3) 4=lowB p:=by unfold lowK lowB; cases p 1 <;> cases p 2 <;> cases p 3 <;> rfl
theorem upK_all (p:Int→Bool):upK (p 1) (p 2) (p 3) 4=upB p:=by unfold upK upB; cases p 1 <;> cases p 2 <;> cases p 3 <;> rfl
theorem cK_all (q:Int→Int→Bool):cK (q 2 1) (q 3 1) (q 3 2) 4 1=rowB q:=by unfold cK rowB; cases q 2 1 <;> cases q 3 1 <;> cases q 3 2 <;> rfl
theorem cK_one (x y z:Bool):cK x y z 1 1=1:=by cases x <;> cases y <;> cases z <;> rfl
theorem cK_next (x y z:Bool) (a:Nat) (h:a=1∨a=2∨a=3):cK x y z a 4=cK x y z (a+1) 1:=by rcases h with rfl | rfl | rfl <;> cases x <;> cases y <;> cases z <;> rfl
theorem cK_skip (x y z:Bool) (a b:Nat) (ha:a=1∨a=2∨a=3) (hb:b=1∨b=2∨b=3) (h:a≤b):cK x y z a (b+1)=cK x y z a b:=by
 rcases ha with rfl | rfl | rfl <;> rcases hb with rfl | rfl | rfl <;> first | omega | (cases x <;> cases y <;> cases z <;> rfl)
theorem lowK_one (x y z:Bool):lowK x y z 1=0:=by cases x <;> cases y <;> cases z <;> rfl
theorem upK_one (x y z:Bool):upK x y z 1=0:=by cases x <;> cases y <;> cases z <;> rfl
def pickK (x y z:Bool) (j:Nat):Bool:=if j=1 then x else if j=2 then y else z
theorem lowK_yes {x y z:Bool} {j:Nat} {jj:Int} (hj:(j=1∧jj=1)∨(j=2∧jj=2)∨(j=3∧jj=3)) (hq:pickK x y z j=true):lowK x y z (j+1)=if lowK x y z j=0 then jj else lowK x y z j:=by
 revert hq
 rcases hj with ⟨rfl,rfl⟩ | ⟨rfl,rfl⟩ | ⟨rfl,rfl⟩ <;> revert x y z <;> decide
theorem lowK_no {x y z:Bool} {j:Nat} (hj:j=1∨j=2∨j=3) (hq:pickK x y z j=false):lowK x y z (j+1)=lowK x y z j:=by
 revert hq
 rcases hj with rfl | rfl | rfl <;> revert x y z <;> decide
theorem upK_yes {x y z:Bool} {j:Nat} {jj:Int} (hj:(j=1∧jj=1)∨(j=2∧jj=2)∨(j=3∧jj=3)) (hq:pickK x y z j=true):upK x y z (j+1)=jj:=by
 revert hq
 rcases hj with ⟨rfl,rfl⟩ | ⟨rfl,rfl⟩ | ⟨rfl,rfl⟩ <;> revert x y z <;> decide
theorem upK_no {x y z:Bool} {j:Nat} (hj:j=1∨j=2∨j=3) (hq:pickK x y z j=false):upK x y z (j+1)=upK x y z j:=by
 revert hq
 rcases hj with rfl | rfl | rfl <;> revert x y z <;> decide
def pickC (x y z:Bool) (a b:Nat):Bool:=if a=2 then x else if b=1 then y else z
theorem cK_yes {x y z:Bool} {a b:Nat} {aa:Int} (h:(a=2∧b=1∧aa=2)∨(a=3∧b=1∧aa=3)∨(a=3∧b=2∧aa=3)) (hq:pickC x y z a b=true) (hc:aa>cK x y z a b):cK x y z a (b+1)=aa:=by
 revert hq hc
 rcases h with ⟨rfl,rfl,rfl⟩ | ⟨rfl,rfl,rfl⟩ | ⟨rfl,rfl,rfl⟩ <;> revert x y z <;> decide
theorem cK_no {x y z:Bool} {a b:Nat} {aa:Int} (h:(a=2∧b=1∧aa=2)∨(a=3∧b=1∧aa=3)∨(a=3∧b=2∧aa=3)) (hq:pickC x y z a b=false):cK x y z a (b+1)=cK x y z a b:=by
 revert hq
 rcases h with ⟨rfl,rfl,rfl⟩ | ⟨rfl,rfl,rfl⟩ | ⟨rfl,rfl,rfl⟩ <;> revert x y z <;> decide
theorem cK_not {x y z:Bool} {a b:Nat} {aa:Int} (h:(a=2∧b=1∧aa=2)∨(a=3∧b=1∧aa=3)∨(a=3∧b=2∧aa=3)) (hc:¬ aa>cK x y z a b):cK x y z a (b+1)=cK x y z a b:=by
 revert hc
 rcases h with ⟨rfl,rfl,rfl⟩ | ⟨rfl,rfl,rfl⟩ | ⟨rfl,rfl,rfl⟩ <;> revert x y z <;> decide
theorem two_same {N:Nat} {xs:List IneqD} {u:Nat} {a b:Int} (h:a≠b):twoB N xs u a u b=false:=by
 cases hq:twoB N xs u a u b with
 | false=>rfl
 | true=>
   obtain⟨f,_,h1,h2⟩:=twoB_iff.1 hq;exact absurd (h1.symm.trans h2) h
theorem two_one {N:Nat} {xs:List IneqD} {u:Nat} {a:Int} {r:Bool} (hr:twoB N xs u a u a=r):r=true↔∃ f,SolE N xs f∧∀ i,i < [u].length→f.getD ([u].getD i 0) 0=[a].getD i 0:=by
 rw[← hr,twoB_iff]
 exact⟨fun⟨f,h1,h2,_⟩=>⟨f,h1,fun i hi=>by obtain rfl:i=0:=(by simpa using hi); exact h2⟩,fun⟨f,h1,h2⟩=>⟨f,h1,h2 0 (by simp),h2 0 (by simp)⟩⟩
theorem two_two {N:Nat} {xs:List IneqD} {u v:Nat} {a b:Int} {r:Bool} (hr:twoB N xs u a v b=r):r=true↔∃ f,SolE N xs f∧∀ i,i < [u,v].length→f.getD ([u,v].getD i 0) 0=[a,b].getD i 0:=by
 rw[← hr,twoB_iff];refine⟨fun⟨f,h1,h2,h3⟩=>⟨f,h1,fun i hi=>?_⟩,fun⟨f,h1,h2⟩=>⟨f,h1,h2 0 (by simp),h2 1 (by simp)⟩⟩
 rcases lt2 hi with rfl | rfl
 · exact h2
 · exact h3
theorem rng1 {a:Int} (h:1≤a∧a≤3):∀ i,i < [a].length→1≤[a].getD i 0∧[a].getD i 0≤3:=fun i hi=>by
 obtain rfl:i=0:=by simpa using hi
 exact h
theorem rng2 {a b:Int} (h:1≤a∧a≤3) (h':1≤b∧b≤3):∀ i,i < [a,b].length→1≤[a,b].getD i 0∧[a,b].getD i 0≤3:=fun i hi=>by
 rcases lt2 hi with rfl | rfl
 · exact h
 · exact h'
theorem rd_one (w:World) (k:IntKind) (t:TypeId) (a:Int):RdI k (w.alloc (Obj.cells #[.int k a] t)) (w.alloc (Obj.cells #[.int k a] t)).heap.size (some ⟨w.heap.size,0,none⟩) 1 1 [a]:=
 rd_blkK (us:=[a]) (blk_new w _ _) rfl (by unfold maxLen; omega)
theorem two_any (r:Bool) (N:Nat) (Al:Option Addr) (nl cl:Nat) (xs:List IneqD) (u v:Nat) (a b:Int) (w:World) (hx:IneqsV w w.heap.size Al nl cl xs) (hl:nl≤1000) (hN:N≤1000) (hok:OkS (N:Int) [] xs) (hu:u<N) (hv:v<N) (ha:1≤a∧a≤3) (hb:1≤b∧b≤3) (hr:twoB N xs u a v b=r):
 Calls Tryz.prog 115 #[.int .i64 N,.slice Al nl cl,.int .i64 (u:Nat),.int .u8 a,.int .i64 (v:Nat),.int .u8 b] w fun e w'=>e=.returned (.bool r)∧Below w.heap.size w w':=by
 have Hx:=qq hx;have Hok:=qq hok;have Hr:=qq hr;clear hx hok hr
 by_cases huv:u=v
 · subst huv
   have d0:((u:Int)==(u:Int))=true:=by simp
   by_cases hab:a=b
   · subst hab
     have d1:(a==a)=true:=by simp
     have hka:=rd_one w .i64 3 (u:Int);have hkb:=rd_one (w.alloc (Obj.cells #[.int .i64 (u:Int)] 3)) .u8 22 a;have hba:=below_box (w:=w) (Obj.cells #[.int .i64 (u:Int)] 3);have hbb:=below_box (w:=w.alloc (Obj.cells #[.int .i64 (u:Int)] 3)) (Obj.cells #[.int .u8 a] 22)
     have hs1:(w.alloc (Obj.cells #[.int .i64 (u:Int)] 3)).heap.size=w.heap.size+1:=by simp
     rw[hs1] at hkb;obtain⟨w2,hw2⟩:∃ x,(w.alloc (Obj.cells #[.int .i64 (u:Int)] 3)).alloc (Obj.cells #[.int .u8 a] 22)=x:=⟨_,rfl⟩;rw[hw2] at hkb hbb;have h2:=hba.trans (hbb.mono hba.size);have Hka:=qq ((hka.below hbb).more hbb.size);have Hkb:=qq hkb;have Hxx:=qq ((Hx.out.below h2).more h2.size);have H2:=qq h2;have Hw2:=qq hw2;clear hka hkb hba hbb hs1 hw2 h2
     go_enter Tryz.func115,Tryz.ntmps115
     go_wp2_with fail;rw[Hw2.out];refine(refMay5_any r N Al nl cl xs (some ⟨w.heap.size,0,none⟩) 1 1 [u] (some ⟨w.heap.size+1,0,none⟩) 1 1 [a] w2 Hxx.out Hka.out Hkb.out rfl hl (by omega) hN Hok.out (by simpa using hu) (by simp) (rng1 ha) (two_one Hr.out)).mono ?_;rintro e w3 ⟨rfl,hb3⟩;have Hend:=qq (H2.out.trans (hb3.mono H2.out.size));clear hb3;go_wp2_with fail;go_ret;exact⟨rfl,Hend.out⟩
   · have d1:(a==b)=false:=by simpa using hab
     have hr2:false=r:=by rw[← Hr.out]; exact(two_same hab).symm
     have HR:=qq hr2;clear hab hr2
     go_enter Tryz.func115,Tryz.ntmps115
     go_wp2_with fail;go_ret;exact⟨ret_bool HR.out,Below.refl _ _⟩
 · have d0:((u:Int)==(v:Int))=false:=by simp; omega
   have hka:=rd_two w .i64 3 (u:Int) (v:Int);have hkb:=rd_two (w.alloc (Obj.cells #[.int .i64 (u:Int),.int .i64 (v:Int)] 3)) .u8 22 a b;have hba:=below_box (w:=w) (Obj.cells #[.int .i64 (u:Int),.int .i64 (v:Int)] 3);have hbb:=below_box (w:=w.alloc (Obj.cells #[.int .i64 (u:Int),.int .i64 (v:Int)] 3)) (Obj.cells #[.int .u8 a,.int .u8 b] 22)
   have hs1:(w.alloc (Obj.cells #[.int .i64 (u:Int),.int .i64 (v:Int)] 3)).heap.size=w.heap.size+1:=by simp
   rw[hs1] at hkb;obtain⟨w2,hw2⟩:∃ x,(w.alloc (Obj.cells #[.int .i64 (u:Int),.int .i64 (v:Int)] 3)).alloc (Obj.cells #[.int .u8 a,.int .u8 b] 22)=x:=⟨_,rfl⟩;rw[hw2] at hkb hbb;have h2:=hba.trans (hbb.mono hba.size);have Hka:=qq ((hka.below hbb).more hbb.size);have Hkb:=qq hkb;have Hxx:=qq ((Hx.out.below h2).more h2.size);have H2:=qq h2;have Hw2:=qq hw2;clear hka hkb hba hbb hs1 hw2 h2;have Huv:=qq huv;clear huv
   go_enter Tryz.func115,Tryz.ntmps115
   go_wp2_with fail;rw[Hw2.out]
   refine(refMay5_any r N Al nl cl xs (some ⟨w.heap.size,0,none⟩) 2 2 [u,v] (some ⟨w.heap.size+1,0,none⟩) 2 2 [a,b] w2 Hxx.out Hka.out Hkb.out rfl hl (by omega) hN Hok.out (by intro z hz; rcases qk.1 hz with rfl | hz; exact hu; rw[List.mem_singleton.1 hz]; exact hv) (by simpa using Huv.out) (rng2 ha hb) (two_two Hr.out)).mono ?_
   rintro e w3 ⟨rfl,hb3⟩;have Hend:=qq (H2.out.trans (hb3.mono H2.out.size));clear hb3;go_wp2_with fail;go_ret;exact⟨rfl,Hend.out⟩
end Go.Proofs.YtdmakpmbknindaaGreatDoor
