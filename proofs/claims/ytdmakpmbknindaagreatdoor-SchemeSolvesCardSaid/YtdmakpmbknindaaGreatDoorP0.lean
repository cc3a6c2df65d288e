import Derived.Test.YtdmakpmbknindaaGreatDoorM3
set_option linter.unusedVariables false
set_option linter.unusedSimpArgs false
set_option maxHeartbeats 1000000
namespace Go.Proofs.YtdmakpmbknindaaGreatDoor
open Go.RowKit
section
variable {w w':World} {B B':Nat} {A:Option Addr} {n c:Nat} {xs:List IneqD}
end
def Looks (w:World) (g:Nat) (asg:List Int) (bad:Bool):Prop:=∃ A n c,Blk w g 113 #[.slice A n c,.bool bad]∧RdI .u8 w g A n c asg
def lookW (w:World) (g:Nat) (asg:List Int) (v:Int):World:=if okV asg v then w else w.setCell ⟨g,1,none⟩ (.bool true)
section
variable {w:World} {g s:Nat} {asg:List Int} {v:Int} {t:TypeId} {cs:Array Value} {bad:Bool}
theorem lookW_below:Below g w (lookW w g asg v):=by
 unfold lookW; split
 · exact Below.refl _ _
 · exact(Below.refl g w).setCell (p:=⟨g,1,none⟩) (Nat.le_refl _) _
theorem Blk.look (h:Blk w s t cs) (hs:g≠s):Blk (lookW w g asg v) s t cs:=by
 unfold lookW; split
 · exact h
 · exact h.other hs 1 _
theorem Looks.store (h:Looks w g asg bad) (hs:g<s) (i:Nat) (u:Value):Looks (w.setCell ⟨s,i,none⟩ u) g asg bad:=by
 obtain⟨A,n,c,h1,h2⟩:=h
 exact⟨A,n,c,h1.other (by omega) i u,h2.below ((Below.refl g w).setCell (p:=⟨s,i,none⟩) (by simp; omega) _)⟩
theorem Looks.below {w':World} {B:Nat} (h:Looks w g asg bad) (hb:Below B w w') (hg:g<B):Looks w' g asg bad:=by
 obtain⟨A,n,c,h1,h2⟩:=h;exact⟨A,n,c,h1.below hb hg,h2.below (hb.mono (by omega))⟩
end
theorem lookerAt_any (v:Int) (g:Nat) (asg:List Int) (bad:Bool) (w:World) (h:Looks w g asg bad) (hv:0≤v):
 Calls Tryz.prog 125 #[.pointer (some ⟨g,0,none⟩),.int .i64 v] w fun e w'=>e=.returned (.int .u8 (atK asg v))∧Looks w' g asg (bad || !okV asg v)∧w'=lookW w g asg v:=by
 obtain⟨m,rfl⟩:∃ m:Nat,v=(m:Int):=⟨v.toNat,(Int.toNat_of_nonneg hv).symm⟩;clear hv;obtain⟨A,n,c,hk,ha⟩:=h;have hla:=ha.len;have hn63:n≤9223372036854775807:=Nat.le_trans ha.2.1 ha.2.2;have x0:w.cell? ⟨g,0,none⟩=some (.slice A n c):=hk.cell 0;have f1:w.frozen? ⟨g,1,none⟩=false:=hk.frozen 1;have x1:w.cell? ⟨g,1,none⟩=some (.bool bad):=hk.cell 1
 have hgood:okV asg m=true→Hid (Looks w g asg (bad || !okV asg m)):=fun h=>qq (by rw[h]; simpa using ⟨A,n,c,hk,ha⟩)
 have hbelow:Below g w (w.setCell ⟨g,1,none⟩ (.bool true)):=(Below.refl g w).setCell (p:=⟨g,1,none⟩) (Nat.le_refl _) _
 have hbad:okV asg m=false→Hid (Looks (w.setCell ⟨g,1,none⟩ (.bool true)) g asg (bad || !okV asg m)):=fun h=>qq (by rw[h]; simpa using ⟨A,n,c,hk.set_ 1 _,ha.below hbelow⟩)
 have hB:=qq hbelow;clear hbelow
 by_cases hlt:m<n
 · obtain⟨b,off,rfl,hb,hcell⟩:=ha.at_ (by omega)
   have hm':m<asg.length:=by rw[hla]; exact hlt
   have hc:=hcell m hm'
   have hav:atV asg m=asg[m]:=by simp[atV,List.getD,hm']
   have hml:((m:Int)<asg.length):=by omega
   generalize asg[m]=y at hc hav;clear hcell ha hla hk
   by_cases h1:1≤y
   · by_cases h2:y≤3
     · have ho:okV asg m=true:=by simp[okV,oneB,hav,hml,h1,h2]
       have H:Hid (y=atK asg m):=by show _=_; simp[atK,ho,hav]
       have hL:=hgood ho;have hW:Hid (w=lookW w g asg m):=qq (by simp[lookW,ho]);clear hav hml hm' ho hgood hbad
       go_enter Tryz.func125,Tryz.ntmps125
       go_wp2_with fail;go_ret
       exact⟨by rw[← H.out]; rfl,hL.out,hW.out⟩
     · have ho:okV asg m=false:=by simp[okV,oneB,hav,hml,h1,h2]
       have H:Hid (1=atK asg m):=by show _=_; simp[atK,ho]
       have hL:=hbad ho;have hW:Hid (w.setCell ⟨g,1,none⟩ (.bool true)=lookW w g asg m):=qq (by simp[lookW,ho]);clear hav hml hm' ho hgood hbad
       go_enter Tryz.func125,Tryz.ntmps125
       go_wp2_with fail;go_ret
       exact⟨by rw[← H.out]; rfl,hL.out,hW.out⟩
   · have ho:okV asg m=false:=by simp[okV,oneB,hav,hml,h1]
     have H:Hid (1=atK asg m):=by show _=_; simp[atK,ho]
     have hL:=hbad ho;have hW:Hid (w.setCell ⟨g,1,none⟩ (.bool true)=lookW w g asg m):=qq (by simp[lookW,ho]);clear hav hml hm' ho hgood hbad
     go_enter Tryz.func125,Tryz.ntmps125
     go_wp2_with fail;go_ret
     exact⟨by rw[← H.out]; rfl,hL.out,hW.out⟩
 · have hml:¬ ((m:Int)<asg.length):=by omega
   have ho:okV asg m=false:=by simp[okV,hml]
   have H:Hid (1=atK asg m):=by show _=_; simp[atK,ho]
   have hL:=hbad ho;have hW:Hid (w.setCell ⟨g,1,none⟩ (.bool true)=lookW w g asg m):=qq (by simp[lookW,ho])
   have hlt':n≤m:=by omega
   clear hml hla hlt ha hk ho hgood hbad
   go_enter Tryz.func125,Tryz.ntmps125
   go_wp2_with fail;go_ret
   exact⟨by rw[← H.out]; rfl,hL.out,hW.out⟩
theorem lookerAt_x (v:Int) (g:Nat) (asg:List Int) (bad:Bool) (w:World) (h:Looks w g asg bad) (hv:0≤v) (w0:World) (sx ss:Nat) (tx ts:TypeId) (cx cs:Array Value) (hb:Below g w0 w) (hx:Blk w sx tx cx) (hs:Blk w ss ts cs) (hne:g≠sx) (hne':g≠ss):
 Calls Tryz.prog 125 #[.pointer (some ⟨g,0,none⟩),.int .i64 v] w fun e w'=>e=.returned (.int .u8 (atK asg v))∧Looks w' g asg (bad || !okV asg v)∧Blk w' sx tx cx∧Blk w' ss ts cs∧Below g w0 w':=by
 refine(lookerAt_any v g asg bad w h hv).mono fun e w' ⟨h1,h2,h3⟩=>⟨h1,h2,?_,?_,?_⟩
 · rw[h3]; exact hx.look hne
 · rw[h3]; exact hs.look hne'
 · rw[h3]; exact hb.trans lookW_below
theorem lookerHolds_any (lv lc c r:Int) (g:Nat) (asg:List Int) (bad:Bool) (w:World) (h:Looks w g asg bad) (hg:g<w.heap.size) (hlv:lc=0→0≤lv):
 Calls Tryz.prog 72 #[.pointer (some ⟨g,0,none⟩),.agg #[.int .i64 lv,.int .u8 lc,.int .u8 c,.int .i64 r]] w fun e w'=>e=.returned (.bool (holdsQ asg lv lc c r))∧Looks w' g asg (bad || badQ asg lv lc r)∧Below g w w':=by
 have hmx:=@run_max2 Tryz.prog
 have hz1:(w.alloc (Obj.cells #[.int .i64 lv,.int .u8 lc,.int .u8 c,.int .i64 r] 70)).heap.size=w.heap.size+1:=by simp
 have hb1:Below w.heap.size w (w.alloc (Obj.cells #[.int .i64 lv,.int .u8 lc,.int .u8 c,.int .i64 r] 70)):=below_box _;have hb2:Below w.heap.size w ((w.alloc (Obj.cells #[.int .i64 lv,.int .u8 lc,.int .u8 c,.int .i64 r] 70)).alloc (Obj.cells #[.int .u8 lc,.int .u8 c] 160)):=hb1.trans ((below_box _).mono (by simp));have hx:=(blk_new w #[.int .i64 lv,.int .u8 lc,.int .u8 c,.int .i64 r] 70).alloc (Obj.cells #[.int .u8 lc,.int .u8 c] 160);have hs:=blk_new (w.alloc (Obj.cells #[.int .i64 lv,.int .u8 lc,.int .u8 c,.int .i64 r] 70)) #[.int .u8 lc,.int .u8 c] 160;rw[hz1] at hs;have hL:=h.below hb2 hg
 have hne:g≠w.heap.size:=by omega
 have hne':g≠w.heap.size+1:=by omega
 have hbel:Below g w ((w.alloc (Obj.cells #[.int .i64 lv,.int .u8 lc,.int .u8 c,.int .i64 r] 70)).alloc (Obj.cells #[.int .u8 lc,.int .u8 c] 160)):=hb2.mono (by omega);clear h hb1 hz1 hb2
 go_enter Tryz.func72,Tryz.ntmps72
 by_cases h0:lc=0
 · subst h0
   have hlv':=hlv rfl;go_wp2_with fail;generalize (w.alloc (Obj.cells #[.int .i64 lv,.int .u8 0,.int .u8 c,.int .i64 r] 70)).alloc (Obj.cells #[.int .u8 0,.int .u8 c] 160)=w2 at hx hs hL hbel ⊢
   refine(lookerAt_any lv g asg bad w2 hL hlv').mono ?_; rintro e w3 ⟨rfl,hL3,hw3⟩
   replace hx:=hx.look (asg:=asg) (v:=lv) hne;replace hs:=hs.look (asg:=asg) (v:=lv) hne';rw[← hw3] at hx hs
   replace hbel:Below g w w3:=by rw[hw3]; exact hbel.trans lookW_below
   clear hL hw3 w2;have hleft:leftQ asg lv 0=atK asg lv:=if_pos rfl
   have hbadl:badQ asg lv 0 r=(!okV asg lv || (decide (0≤r)&&!okV asg r)):=rfl
   have fs0:w3.frozen? ⟨w.heap.size+1,0,none⟩=false:=hs.frozen 0;have s0':w3.cell? ⟨w.heap.size+1,0,none⟩=some (.int .u8 0):=hs.cell 0;have x3':w3.cell? ⟨w.heap.size,3,none⟩=some (.int .i64 r):=hx.cell 3;replace hx:=hx.other (g':=w.heap.size+1) (by omega) 0 (.int .u8 (atK asg lv));replace hs:=hs.set_ 0 (.int .u8 (atK asg lv));have hL:=hL3.store (s:=w.heap.size+1) (by omega) 0 (.int .u8 (atK asg lv))
   replace hbel:=hbel.setCell (p:=⟨w.heap.size+1,0,none⟩) (by simp; omega) (.int .u8 (atK asg lv))
   clear hL3
   by_cases hr0:0≤r
   · have H:Hid (decide (atK asg lv≤max c (atK asg r))=holdsQ asg lv 0 c r):=by show _=_; unfold holdsQ; rw[hleft,show rightQ asg c r=max c (atK asg r) from if_pos hr0]
     have HB:Hid ((bad || badQ asg lv 0 r)=((or bad (!okV asg lv)) || !okV asg r)):=by show _=_; rw[hbadl,decide_eq_true hr0]; (cases bad <;> cases okV asg lv <;> cases okV asg r <;> rfl)
     have x3:(w3.setCell ⟨w.heap.size+1,0,none⟩ (.int .u8 (atK asg lv))).cell? ⟨w.heap.size,3,none⟩=some (.int .i64 r):=hx.cell 3;have s0:(w3.setCell ⟨w.heap.size+1,0,none⟩ (.int .u8 (atK asg lv))).cell? ⟨w.heap.size+1,0,none⟩=some (.int .u8 (atK asg lv)):=hs.cell 0;have s1:(w3.setCell ⟨w.heap.size+1,0,none⟩ (.int .u8 (atK asg lv))).cell? ⟨w.heap.size+1,1,none⟩=some (.int .u8 c):=hs.cell 1;have fs1:(w3.setCell ⟨w.heap.size+1,0,none⟩ (.int .u8 (atK asg lv))).frozen? ⟨w.heap.size+1,1,none⟩=false:=hs.frozen 1;clear hleft hbadl;go_wp2_with fail
     go_region_with ((first | (go_at_call 125; refine(lookerAt_x r g asg ((or bad (!okV asg lv))) _ (by exact hL) hr0 w w.heap.size (w.heap.size+1) 70 160 #[.int .i64 lv,.int .u8 0,.int .u8 c,.int .i64 r] #[.int .u8 (atK asg lv),.int .u8 c] (by exact hbel.drew) (by exact hx) (by exact hs) hne hne').mono ?_; rintro e w4 ⟨rfl,hL4,hx4,hs4,hbel4⟩; have y3:w4.cell? ⟨w.heap.size,3,none⟩=some (.int .i64 r):=hx4.cell 3; have q0:w4.cell? ⟨w.heap.size+1,0,none⟩=some (.int .u8 (atK asg lv)):=hs4.cell 0; have q1:w4.cell? ⟨w.heap.size+1,1,none⟩=some (.int .u8 c):=hs4.cell 1; have fq1:w4.frozen? ⟨w.heap.size+1,1,none⟩=false:=hs4.frozen 1)))
     all_goals
      have hL5:=hL4.store (s:=w.heap.size+1) (by omega) 1 (.int .u8 (max c (atK asg r)))
      have hbel5:=hbel4.setCell (p:=⟨w.heap.size+1,1,none⟩) (by simp; omega) (.int .u8 (max c (atK asg r)))
      go_wp2_with fail;go_ret
      exact⟨by rw[← H.out]; rfl,by rw[HB.out]; exact hL5,hbel5⟩
   · have H:Hid (decide (atK asg lv≤c)=holdsQ asg lv 0 c r):=by show _=_; unfold holdsQ; rw[hleft,show rightQ asg c r=c from if_neg hr0]
     have HB:Hid ((bad || badQ asg lv 0 r)=(or bad (!okV asg lv))):=by show _=_; rw[hbadl,decide_eq_false hr0]; (cases bad <;> cases okV asg lv <;> cases okV asg r <;> rfl)
     have x3:(w3.setCell ⟨w.heap.size+1,0,none⟩ (.int .u8 (atK asg lv))).cell? ⟨w.heap.size,3,none⟩=some (.int .i64 r):=hx.cell 3;have s0:(w3.setCell ⟨w.heap.size+1,0,none⟩ (.int .u8 (atK asg lv))).cell? ⟨w.heap.size+1,0,none⟩=some (.int .u8 (atK asg lv)):=hs.cell 0;have s1:(w3.setCell ⟨w.heap.size+1,0,none⟩ (.int .u8 (atK asg lv))).cell? ⟨w.heap.size+1,1,none⟩=some (.int .u8 c):=hs.cell 1;clear hleft hbadl;go_wp2_with fail;go_ret
     exact⟨by rw[← H.out]; rfl,by rw[HB.out]; exact hL,hbel⟩
 · have hleft:leftQ asg lv lc=lc:=if_neg h0
   have hbadl:badQ asg lv lc r=(decide (0≤r)&&!okV asg r):=by simp[badQ,h0]
   have hlc:(lc==0)=false:=by simp[h0]
   by_cases hr0:0≤r
   · have H:Hid (decide (lc≤max c (atK asg r))=holdsQ asg lv lc c r):=by show _=_; unfold holdsQ; rw[hleft,show rightQ asg c r=max c (atK asg r) from if_pos hr0]
     have HB:Hid ((bad || badQ asg lv lc r)=(bad || !okV asg r)):=by show _=_; rw[hbadl,decide_eq_true hr0]; (cases bad <;> cases okV asg lv <;> cases okV asg r <;> rfl)
     have x3:((w.alloc (Obj.cells #[.int .i64 lv,.int .u8 lc,.int .u8 c,.int .i64 r] 70)).alloc (Obj.cells #[.int .u8 lc,.int .u8 c] 160)).cell? ⟨w.heap.size,3,none⟩=some (.int .i64 r):=hx.cell 3;have s0:((w.alloc (Obj.cells #[.int .i64 lv,.int .u8 lc,.int .u8 c,.int .i64 r] 70)).alloc (Obj.cells #[.int .u8 lc,.int .u8 c] 160)).cell? ⟨w.heap.size+1,0,none⟩=some (.int .u8 (lc)):=hs.cell 0;have s1:((w.alloc (Obj.cells #[.int .i64 lv,.int .u8 lc,.int .u8 c,.int .i64 r] 70)).alloc (Obj.cells #[.int .u8 lc,.int .u8 c] 160)).cell? ⟨w.heap.size+1,1,none⟩=some (.int .u8 c):=hs.cell 1;have fs1:((w.alloc (Obj.cells #[.int .i64 lv,.int .u8 lc,.int .u8 c,.int .i64 r] 70)).alloc (Obj.cells #[.int .u8 lc,.int .u8 c] 160)).frozen? ⟨w.heap.size+1,1,none⟩=false:=hs.frozen 1;clear hleft hbadl;go_wp2_with fail
     go_region_with ((first | (go_at_call 125; refine(lookerAt_x r g asg (bad) _ (by exact hL) hr0 w w.heap.size (w.heap.size+1) 70 160 #[.int .i64 lv,.int .u8 lc,.int .u8 c,.int .i64 r] #[.int .u8 (lc),.int .u8 c] (by exact hbel.drew) (by exact hx) (by exact hs) hne hne').mono ?_; rintro e w4 ⟨rfl,hL4,hx4,hs4,hbel4⟩; have y3:w4.cell? ⟨w.heap.size,3,none⟩=some (.int .i64 r):=hx4.cell 3; have q0:w4.cell? ⟨w.heap.size+1,0,none⟩=some (.int .u8 (lc)):=hs4.cell 0; have q1:w4.cell? ⟨w.heap.size+1,1,none⟩=some (.int .u8 c):=hs4.cell 1; have fq1:w4.frozen? ⟨w.heap.size+1,1,none⟩=false:=hs4.frozen 1)))
     all_goals
      have hL5:=hL4.store (s:=w.heap.size+1) (by omega) 1 (.int .u8 (max c (atK asg r)))
      have hbel5:=hbel4.setCell (p:=⟨w.heap.size+1,1,none⟩) (by simp; omega) (.int .u8 (max c (atK asg r)))
      go_wp2_with fail;go_ret
      exact⟨by rw[← H.out]; rfl,by rw[HB.out]; exact hL5,hbel5⟩
   · have H:Hid (decide (lc≤c)=holdsQ asg lv lc c r):=by show _=_; unfold holdsQ; rw[hleft,show rightQ asg c r=c from if_neg hr0]
     have HB:Hid ((bad || badQ asg lv lc r)=bad):=by show _=_; rw[hbadl,decide_eq_false hr0]; (cases bad <;> cases okV asg lv <;> cases okV asg r <;> rfl)
     have x3:((w.alloc (Obj.cells #[.int .i64 lv,.int .u8 lc,.int .u8 c,.int .i64 r] 70)).alloc (Obj.cells #[.int .u8 lc,.int .u8 c] 160)).cell? ⟨w.heap.size,3,none⟩=some (.int .i64 r):=hx.cell 3;have s0:((w.alloc (Obj.cells #[.int .i64 lv,.int .u8 lc,.int .u8 c,.int .i64 r] 70)).alloc (Obj.cells #[.int .u8 lc,.int .u8 c] 160)).cell? ⟨w.heap.size+1,0,none⟩=some (.int .u8 (lc)):=hs.cell 0;have s1:((w.alloc (Obj.cells #[.int .i64 lv,.int .u8 lc,.int .u8 c,.int .i64 r] 70)).alloc (Obj.cells #[.int .u8 lc,.int .u8 c] 160)).cell? ⟨w.heap.size+1,1,none⟩=some (.int .u8 c):=hs.cell 1;clear hleft hbadl;go_wp2_with fail;go_ret
     exact⟨by rw[← H.out]; rfl,by rw[HB.out]; exact hL,hbel⟩
def holdsX (asg:List Int) (x:IneqD):Bool:=holdsQ asg x.lv x.lc x.c x.r
def badX (asg:List Int) (x:IneqD):Bool:=badQ asg x.lv x.lc x.r
def firstGo (asg:List Int):List IneqD→Int→Int
 | [],_ => -1
 | x :: r,i=>if holdsX asg x then firstGo asg r (i+1) else i
def holdsAll (asg:List Int) (xs:List IneqD):Int × Int:=
 if xs.all mayX then (if xs.any (badX asg) then (0,5) else (firstGo asg xs 0,0)) else (0,2)
theorem mayX_lv {x:IneqD} (h:mayX x=true):x.lc=0→0≤x.lv:=by
 intro h0;unfold mayX mayQ isB oneB at h;rw[h0] at h;simp at h;omega
theorem lookerHolds_at {lv lc c r:Int} {asg:List Int} {y:Bool} (hy:holdsQ asg lv lc c r=y) (g:Nat) (bad:Bool) (w:World) (h:Looks w g asg bad) (hg:g<w.heap.size) (hlv:lc=0→0≤lv):
 Calls Tryz.prog 72 #[.pointer (some ⟨g,0,none⟩),.agg #[.int .i64 lv,.int .u8 lc,.int .u8 c,.int .i64 r]] w fun e w'=>e=.returned (.bool y)∧Looks w' g asg (bad || badQ asg lv lc r)∧Below g w w':=by
 rw[← hy]; exact lookerHolds_any lv lc c r g asg bad w h hg hlv
theorem holds_any (A:Option Addr) (n c:Nat) (xs:List IneqD) (A':Option Addr) (n' c':Nat) (asg:List Int) (w:World) (hx:IneqsV w w.heap.size A n c xs) (ha:RdI .u8 w w.heap.size A' n' c' asg):
 Calls Tryz.prog 29 #[.slice A n c,.slice A' n' c'] w fun e w'=>e=.returned (.tuple #[.int .i64 (holdsAll asg xs).1,.int .i64 (holdsAll asg xs).2])∧Below w.heap.size w w':=by
 have hn63:n≤9223372036854775807:=Nat.le_trans hx.2.1 hx.2.2.1;have Hl:=qq hx.len;have Hx:=qq hx;have Ha:=qq ha;clear hx ha
 go_enter Tryz.func29,Tryz.ntmps29
 go_wp2_with fail
 go_loopg [7,8,15] n (fun g p ev i wr=>∃ k:Nat,k≤n∧g=n - k∧i=.int .i64 k∧Hid (xs.all mayX=(xs.drop k).all mayX)∧Hid (Below w.heap.size w wr))
 case atStart=>exact⟨0,Nat.zero_le _,rfl,rfl,qq rfl,qq (Below.refl _ _)⟩
 case round=>
  obtain⟨k,hk,rfl,rfl,Hm,Hb⟩:=hrel
  by_cases hlk:k<n
  · have hk':k<xs.length:=by rw[Hl.out]; exact hlk
    obtain⟨b,off,rfl,hb,hcell⟩:=(Hx.out.below Hb.out).at_ (by omega);obtain⟨e0,e1,e2,e3⟩:=hcell k hk';have hdrop:xs.drop k=xs[k] :: xs.drop (k+1):=List.drop_eq_getElem_cons hk';generalize xs[k]=x at e0 e1 e2 e3 hdrop;have Hdrop:=qq hdrop;clear hdrop hcell
    cases hm:mayX x
    · have H5:Hid (holdsAll asg xs=(0,2)):=by show _=_; unfold holdsAll; rw[Hm.out,Hdrop.out]; simp[hm]
      have Hq:Hid (mayQE x.lv x.lc x.c x.r=2):=qq (mayQE_no hm);clear hm;go_wp2_with fail
      refine(mayQ_at Hq.out _).mono ?_; rintro e w2 ⟨rfl,hb2⟩
      have hb':=Hb.out.trans (((below_box _).trans (hb2.mono (by simp))).mono Hb.out.size);go_wp2_with fail
      go_ret2
      exact⟨by rw[H5.out]; rfl,hb'⟩
    · have Hm':Hid (xs.all mayX=(xs.drop (k+1)).all mayX):=by show _=_; rw[Hm.out,Hdrop.out]; simp[hm]
      have Hq:Hid (mayQE x.lv x.lc x.c x.r=0):=qq (mayQE_yes hm);clear hm;go_wp2_with fail
      refine(mayQ_at Hq.out _).mono ?_; rintro e w2 ⟨rfl,hb2⟩
      have Hb':=qq (Hb.out.trans (((below_box _).trans (hb2.mono (by simp))).mono Hb.out.size));go_wp2_with fail;go_roundg (n - (k+1))
      case measure=>omega
      case rel=>exact⟨k+1,by omega,rfl,by go_num,Hm',Hb'⟩
  · have hkn:k=n:=by omega
    subst hkn
    have Hall:Hid (xs.all mayX=true):=by show _=_; rw[Hm.out,List.drop_of_length_le (by rw[Hl.out]; exact Nat.le_refl _)]; rfl
    go_wp2_with fail
    have hlook:Looks (wr.alloc (Obj.cells #[.slice A' n' c',.bool false] 113)) wr.heap.size asg false:=
     ⟨A',n',c',blk_new _ _ _,(((Ha.out.below Hb.out).more Hb.out.size).below (below_box _))⟩
    have hb1:Below w.heap.size w (wr.alloc (Obj.cells #[.slice A' n' c',.bool false] 113)):=Hb.out.trans ((below_box _).mono Hb.out.size)
    have hg1:wr.heap.size<(wr.alloc (Obj.cells #[.slice A' n' c',.bool false] 113)).heap.size:=by simp
    have hg0:=Hb.out.size;generalize wr.alloc (Obj.cells #[.slice A' n' c',.bool false] 113)=w1 at hlook hb1 hg1 ⊢;generalize wr.heap.size=gl at hlook hg1 hg0 ⊢;have Hlook:=qq hlook;have Hb1:=qq hb1;have Hg1:=qq hg1;have Hg0:=qq hg0;clear hlook hb1 hg1 hg0 Hb Hm
    go_loopg [10,11,12,30] k (fun g f _ p i wr=>∃ (j:Nat) (F:Int) (bad:Bool),j≤k∧g=k - j∧i=.int .i64 j∧f=.int .i64 F∧Hid (Looks wr gl asg bad)∧Hid (Below w.heap.size w wr)∧Hid (gl<wr.heap.size)∧Hid (xs.any (badX asg)=(bad || (xs.drop j).any (badX asg)))∧(F<0∧F = -1∧Hid (firstGo asg xs 0=firstGo asg (xs.drop j) j)∨0≤F∧Hid (firstGo asg xs 0=F)))
    case atStart=>exact⟨0, -1,false,Nat.zero_le _,rfl,rfl,rfl,Hlook,Hb1,Hg1,qq rfl,.inl ⟨by omega,rfl,qq rfl⟩⟩
    case round=>
     obtain⟨j,F,bad,hj,rfl,rfl,rfl,HL,HB,HG,Hbad,hF⟩:=hrel
     by_cases hlj:j<k
     · have hj':j<xs.length:=by rw[Hl.out]; exact hlj
       obtain⟨b,off,rfl,hb,hcell⟩:=(Hx.out.below HB.out).at_ (by omega);obtain⟨e0,e1,e2,e3⟩:=hcell j hj';have hdrop:xs.drop j=xs[j] :: xs.drop (j+1):=List.drop_eq_getElem_cons hj';have hmx:mayX xs[j]=true:=List.all_eq_true.1 Hall.out _ (List.getElem_mem hj');generalize xs[j]=x at e0 e1 e2 e3 hdrop hmx;have Hdrop:=qq hdrop;have Hlv:=qq (mayX_lv hmx);clear hdrop hcell hmx
       cases hh:holdsX asg x
       · have Hh:Hid (holdsQ asg x.lv x.lc x.c x.r=false):=qq hh
         have Hh':Hid (holdsX asg x=false):=qq hh;clear hh
         rcases hF with ⟨hF0,rfl,HF⟩ | ⟨hF0,HF⟩
         · have HF':Hid (firstGo asg xs 0=(j:Int)):=by show _=_; rw[HF.out,Hdrop.out]; simp[firstGo,Hh'.out]
           clear HF hF0;have HL2:=qq (HL.out.below (below_box (w:=wr) (Obj.cells #[.int .i64 x.lv,.int .u8 x.lc,.int .u8 x.c,.int .i64 x.r] 70)) HG.out);have HG2:Hid (gl<(wr.alloc (Obj.cells #[.int .i64 x.lv,.int .u8 x.lc,.int .u8 x.c,.int .i64 x.r] 70)).heap.size):=qq (Nat.lt_of_lt_of_le HG.out (below_box (w:=wr) _).size);go_wp2_with fail
           refine(lookerHolds_at Hh.out gl bad _ HL2.out HG2.out Hlv.out).mono ?_; rintro e w2 ⟨rfl,hL3,hb3⟩
           have HB':=qq (HB.out.trans (((below_box (w:=wr) _).mono HB.out.size).trans (hb3.mono Hg0.out)));have HG':Hid (gl<w2.heap.size):=qq (Nat.lt_of_lt_of_le HG2.out hb3.size)
           have Hbad':Hid (xs.any (badX asg)=((bad || badQ asg x.lv x.lc x.r) || (xs.drop (j+1)).any (badX asg))):=by show _=_; rw[Hbad.out,Hdrop.out]; simp[badX,Bool.or_assoc]
           clear hb3;go_wp2_with fail;go_roundg (k - (j+1))
           case measure=>omega
           case rel=>exact⟨j+1,j,_,by omega,rfl,by go_num,rfl,qq hL3,HB',HG',Hbad',.inr ⟨by omega,HF'⟩⟩
         ·
          have HL2:=qq (HL.out.below (below_box (w:=wr) (Obj.cells #[.int .i64 x.lv,.int .u8 x.lc,.int .u8 x.c,.int .i64 x.r] 70)) HG.out);have HG2:Hid (gl<(wr.alloc (Obj.cells #[.int .i64 x.lv,.int .u8 x.lc,.int .u8 x.c,.int .i64 x.r] 70)).heap.size):=qq (Nat.lt_of_lt_of_le HG.out (below_box (w:=wr) _).size);go_wp2_with fail
          refine(lookerHolds_at Hh.out gl bad _ HL2.out HG2.out Hlv.out).mono ?_; rintro e w2 ⟨rfl,hL3,hb3⟩
          have HB':=qq (HB.out.trans (((below_box (w:=wr) _).mono HB.out.size).trans (hb3.mono Hg0.out)));have HG':Hid (gl<w2.heap.size):=qq (Nat.lt_of_lt_of_le HG2.out hb3.size)
          have Hbad':Hid (xs.any (badX asg)=((bad || badQ asg x.lv x.lc x.r) || (xs.drop (j+1)).any (badX asg))):=by show _=_; rw[Hbad.out,Hdrop.out]; simp[badX,Bool.or_assoc]
          clear hb3;go_wp2_with fail;go_roundg (k - (j+1))
          case measure=>omega
          case rel=>exact⟨j+1,F,_,by omega,rfl,by go_num,rfl,qq hL3,HB',HG',Hbad',.inr ⟨hF0,HF⟩⟩
       · have Hh:Hid (holdsQ asg x.lv x.lc x.c x.r=true):=qq hh
         have Hh':Hid (holdsX asg x=true):=qq hh;clear hh
         rcases hF with ⟨hF0,rfl,HF⟩ | ⟨hF0,HF⟩
         · have HF':Hid (firstGo asg xs 0=firstGo asg (xs.drop (j+1)) ((j+1:Nat):Int)):=by show _=_; rw[HF.out,Hdrop.out]; simp[firstGo,Hh'.out]
           clear HF hF0;have HL2:=qq (HL.out.below (below_box (w:=wr) (Obj.cells #[.int .i64 x.lv,.int .u8 x.lc,.int .u8 x.c,.int .i64 x.r] 70)) HG.out);have HG2:Hid (gl<(wr.alloc (Obj.cells #[.int .i64 x.lv,.int .u8 x.lc,.int .u8 x.c,.int .i64 x.r] 70)).heap.size):=qq (Nat.lt_of_lt_of_le HG.out (below_box (w:=wr) _).size);go_wp2_with fail
           refine(lookerHolds_at Hh.out gl bad _ HL2.out HG2.out Hlv.out).mono ?_; rintro e w2 ⟨rfl,hL3,hb3⟩
           have HB':=qq (HB.out.trans (((below_box (w:=wr) _).mono HB.out.size).trans (hb3.mono Hg0.out)));have HG':Hid (gl<w2.heap.size):=qq (Nat.lt_of_lt_of_le HG2.out hb3.size)
           have Hbad':Hid (xs.any (badX asg)=((bad || badQ asg x.lv x.lc x.r) || (xs.drop (j+1)).any (badX asg))):=by show _=_; rw[Hbad.out,Hdrop.out]; simp[badX,Bool.or_assoc]
           clear hb3;go_wp2_with fail;go_roundg (k - (j+1))
           case measure=>omega
           case rel=>exact⟨j+1, -1,_,by omega,rfl,by go_num,rfl,qq hL3,HB',HG',Hbad',.inl ⟨by omega,rfl,HF'⟩⟩
         ·
          have HL2:=qq (HL.out.below (below_box (w:=wr) (Obj.cells #[.int .i64 x.lv,.int .u8 x.lc,.int .u8 x.c,.int .i64 x.r] 70)) HG.out);have HG2:Hid (gl<(wr.alloc (Obj.cells #[.int .i64 x.lv,.int .u8 x.lc,.int .u8 x.c,.int .i64 x.r] 70)).heap.size):=qq (Nat.lt_of_lt_of_le HG.out (below_box (w:=wr) _).size);go_wp2_with fail
          refine(lookerHolds_at Hh.out gl bad _ HL2.out HG2.out Hlv.out).mono ?_; rintro e w2 ⟨rfl,hL3,hb3⟩
          have HB':=qq (HB.out.trans (((below_box (w:=wr) _).mono HB.out.size).trans (hb3.mono Hg0.out)));have HG':Hid (gl<w2.heap.size):=qq (Nat.lt_of_lt_of_le HG2.out hb3.size)
          have Hbad':Hid (xs.any (badX asg)=((bad || badQ asg x.lv x.lc x.r) || (xs.drop (j+1)).any (badX asg))):=by show _=_; rw[Hbad.out,Hdrop.out]; simp[badX,Bool.or_assoc]
          clear hb3;go_wp2_with fail;go_roundg (k - (j+1))
          case measure=>omega
          case rel=>exact⟨j+1,F,_,by omega,rfl,by go_num,rfl,qq hL3,HB',HG',Hbad',.inr ⟨hF0,HF⟩⟩
     · have hjk:j=k:=by omega
       subst hjk
       have hfin:(F<0∧F = -1∨0≤F)∧Hid (firstGo asg xs 0=F):=by
        rcases hF with ⟨h1,h2,h3⟩ | ⟨h1,h3⟩
        · exact⟨.inl ⟨h1,h2⟩,by show _=_; rw[h3.out,List.drop_of_length_le (by rw[Hl.out]; exact Nat.le_refl _),h2]; rfl⟩
        · exact⟨.inr h1,h3⟩
       obtain⟨_,HF⟩:=hfin;clear hF
       have hany:xs.any (badX asg)=bad:=by rw[Hbad.out,List.drop_of_length_le (by rw[Hl.out]; exact Nat.le_refl _)]; simp
       cases bad
       · have H5:Hid (holdsAll asg xs=(F,0)):=by show _=_; unfold holdsAll; rw[Hall.out,hany,HF.out]; rfl
         obtain⟨A2,n2,c2,hk2,_⟩:=HL.out;have z1:wr.cell? ⟨gl,1,none⟩=some (.bool false):=hk2.cell 1;clear hany hk2;go_wp2_with fail
         go_ret2
         exact⟨by rw[H5.out]; rfl,HB.out⟩
       · have H5:Hid (holdsAll asg xs=(0,5)):=by show _=_; unfold holdsAll; rw[Hall.out,hany]; rfl
         obtain⟨A2,n2,c2,hk2,_⟩:=HL.out;have z1:wr.cell? ⟨gl,1,none⟩=some (.bool true):=hk2.cell 1;clear hany hk2;go_wp2_with fail
         go_ret2
         exact⟨by rw[H5.out]; rfl,HB.out⟩
section
variable {P:Program} {ops:Array Oper} {Q:Exit→Act→World→Prop} {md:Region.Mode} {S:World→Prop} {tl:Nat}
def okC (md:Region.Mode) (ops:Array Oper) (tl:Nat) (l:Array Bool) (i:Nat):Bool:=Region.noSelect ops&&(Region.free md ops l i&&((Region.ready md ops l).contains i&&(closedB md ops l&&tailWaitsC md ops tl i)))
variable {oi:Oper} {v:Value} {fuel k:Nat} {l:Array Bool} {a:Act} {w:World}
theorem nxC (hi:ops[k]?=some oi) (hb:okC md ops tl l k=true) (hQ:∀ c a w,Q (.panic c) (a.put oi.dst v) w→Q (.panic c) a w) (hw:Region.wanted oi (yielded ops a.tmps)=true) (hy:∀ w,S w→(execOp a.eval oi).run P w=.ok (.value v) w) (hS:S w)
 (h:wpNx (k+1) P md ops Q S tl fuel (l.setIfInBounds k true) (a.put oi.dst v) w):wpNx k P md ops Q S tl (fuel+1) l a w:=by
 unfold okC at hb;simp only[Bool.and_eq_true] at hb;exact wpAnyT_takeC hi hb.1 hb.2.1 hb.2.2.1 hb.2.2.2.1 hb.2.2.2.2 hQ (Or.inl ⟨hw,hy⟩) hS h
end
end Go.Proofs.YtdmakpmbknindaaGreatDoor
