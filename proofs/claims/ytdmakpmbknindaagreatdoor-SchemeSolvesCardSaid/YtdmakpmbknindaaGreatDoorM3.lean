import Derived.Test.YtdmakpmbknindaaGreatDoorM2
import Derived.SizedLaws
import Derived.Deep.Slices
import Derived.Deep.Fields
import Derived.Lib.SmallJoins
import Derived.Test.YtdmakpmbknindaaGreatDoorShelfP
import Derived.Sort.OwnSortedInts
import Derived.IntWalk
import Derived.BigQuiet
import Derived.Deep.QuietTactic
set_option linter.unusedVariables false
set_option linter.unusedSimpArgs false
set_option maxHeartbeats 1000000
set_option maxRecDepth 100000
namespace Go.Proofs.YtdmakpmbknindaaGreatDoor
open Go.ChangeShapes Go.WideShapes Go.ChangeAt Go.RowKit Go.Deep Go.Joins
section
variable {H:Type} {enc:TypeId × Value→H} {w:World}
theorem addr_add (b o j:Nat):(Addr.add ⟨b,o,none⟩ j)=⟨b,o+j,none⟩:=by unfold Addr.add; split <;> simp_all
instance:Inhabited TermD:=⟨⟨false,0,[]⟩⟩
end
end Go.Proofs.YtdmakpmbknindaaGreatDoor
namespace Go.Proofs.YtdmakpmbknindaaGreatDoor
open Go.RowKit Go.Sort
theorem sortI_any (base:Nat) (v:Value) (us:List Int) (w:World) (ho:w.ownsRow base 3 1 v us.length (us.map (Value.int .i64))) (hne:us≠[]) (hm:us.length<4611686018427387904):
 Calls Tryz.prog 131 #[v] w fun e w'=>e=.returned (.tuple #[])∧w'.ownsRow base 3 1 v us.length ((us.mergeSort fun x y=>decide (x≤y)).map (Value.int .i64))∧w.grownBy w' v.ownBlock:=by
 have hn0:us.length≠0:=fun e=>hne (List.eq_nil_of_length_eq_zero e)
 have hv:v ≠ .slice none 0 0:=by
  rintro rfl
  rcases ho.2 with ⟨_,e⟩ | ⟨_,_,_,e,_⟩
  · exact hn0 e
  · cases e
 obtain⟨g,cap,rfl,hg1,hg2,hgc,hgm,hl,hH⟩:=Lib.holds_of_ownsRow ho hv;have hsort:=Tryz.slices_Sort_int g 0 cap us w hH hg2 hm;refine hsort.mono ?_;rintro e w2 ⟨rfl,q,os,hw2⟩;have hls:(us.mergeSort fun x y=>decide (x≤y)).length=us.length:=List.length_mergeSort _;refine⟨rfl,?_,?_⟩
 · rcases ho.2 with ⟨e0,_⟩ | ⟨g',cap',cur,e0,hb',hgg,hn',hm',hs',ht'⟩
   · cases e0
   · injection e0 with e1 _ e3
     injection e1 with e1
     injection e1 with e1
     subst e1; subst e3
     rw[hw2];exact ownsRow_sortedI hls hg1 hgg hgc hgm hs'
 · rw[hw2]; exact grownBy_sortedI _
end Go.Proofs.YtdmakpmbknindaaGreatDoor
namespace Go.Proofs.YtdmakpmbknindaaGreatDoor
open Go.RowKit
theorem is_any (c v:Int) (w:World):
 Calls Tryz.prog 61 #[.agg #[.int .i64 v,.int .u8 c]] w fun e w'=>e=.returned (.int .i64 (isE c v))∧Below w.heap.size w w':=by
 by_cases h0:c=0∧0≤v∧v<1048576
 · obtain⟨rfl,ha,hb⟩:=h0
   have H:Hid (0=isE 0 v):=by show _=_; rw[isE_yes]; simp[isB,ha,hb]
   go_enter Tryz.func61,Tryz.ntmps61
   go_wp2_with fail;go_ret;exact⟨ret_int H.out,(Below.refl _ _).alloc (Nat.le_refl _) _⟩
 · have hx:(c==0&&decide (0≤v)&&decide (v<1048576))=false:=by
    rw[Bool.eq_false_iff];intro h;simp only[Bool.and_eq_true,beq_iff_eq,decide_eq_true_eq] at h;exact h0 ⟨h.1.1,h.1.2,h.2⟩
   have hcase:(c==0)=false∨(c==0)=true∧(¬ (0≤v)∨0≤v∧¬ (v<1048576)):=by
    by_cases hc:c=0
    · refine .inr ⟨by simp[hc],?_⟩
      by_cases hv:0≤v
      · exact .inr ⟨hv,fun h=>h0 ⟨hc,hv,h⟩⟩
      · exact .inl hv
    · exact .inl (by simp[hc])
   clear h0
   have hfin:∀ b,(oneB c&&v==0)=b→isB c v=b:=by intro b hb; unfold isB; rw[hx,hb]; rfl
   have Hfin:=qq hfin;clear hfin hx
   cases h1:oneB c
   · have H:Hid (2=isE c v):=by show _=_; rw[isE_no (Hfin.out false (by simp[h1]))]
     have H1:=qq h1;clear h1
     rcases hcase with h | ⟨h,h | ⟨h,h'⟩⟩
     all_goals
      go_enter Tryz.func61,Tryz.ntmps61
      go_wp2_with fail
      refine(one_at _ _ H1.out _).mono ?_; rintro e w1 ⟨rfl,rfl⟩
      go_wp2_with fail;go_ret;exact⟨ret_int H.out,(Below.refl _ _).alloc (Nat.le_refl _) _⟩
   · have hc1:(c==0)=false:=by
      rw[Bool.eq_false_iff]; intro h; rw[beq_iff_eq] at h; subst h; simp[oneB] at h1
     clear hcase;have H1:=qq h1
     by_cases hv:v=0
     · have H:Hid (0=isE c v):=by show _=_; rw[isE_yes (Hfin.out true (by simp[h1,hv]))]
       subst hv;clear h1
       go_enter Tryz.func61,Tryz.ntmps61
       go_wp2_with fail
       refine(one_at _ _ H1.out _).mono ?_; rintro e w1 ⟨rfl,rfl⟩
       go_wp2_with fail;go_ret;exact⟨ret_int H.out,(Below.refl _ _).alloc (Nat.le_refl _) _⟩
     · have hv0:(v==0)=false:=by simp[hv]
       have H:Hid (2=isE c v):=by show _=_; rw[isE_no (Hfin.out false (by simp[h1,hv]))]
       clear h1 hv
       go_enter Tryz.func61,Tryz.ntmps61
       go_wp2_with fail
       refine(one_at _ _ H1.out _).mono ?_; rintro e w1 ⟨rfl,rfl⟩
       go_wp2_with fail;go_ret;exact⟨ret_int H.out,(Below.refl _ _).alloc (Nat.le_refl _) _⟩
def CloneI (us:List Int) (n:Nat) (w:World) (e:Ending) (w':World):Prop:=
 ∃ A' c',e=.returned (.slice A' n c')∧w'.ownsRow w.heap.size 3 1 (.slice A' n c') n (us.map (Value.int .i64))∧Below w.heap.size w w'
theorem cloneI_any (A:Option Addr) (n c:Nat) (us:List Int) (w:World) (B:Nat) (h:RdI .i64 w B A n c us) (hbig:n * 8≤140737488355328):
 Calls Tryz.prog 174 #[.slice A n c] w (CloneI us n w):=by
 have hl:=h.len
 have hcut:∀ v' w',World.ownsRow w' w.heap.size 3 1 v' n (us.map (Value.int .i64))→Below w.heap.size w w'→CloneI us n w (.returned v') w':=by
  intro v' w' ho hb
  rcases ho.2 with ⟨e0,hn0⟩ | ⟨g,cap,cur,e0,_⟩
  · subst hn0
    obtain rfl:=List.eq_nil_of_length_eq_zero hl
    exact⟨none,0,by rw[e0],by rw[← e0]; exact ho,hb⟩
  · exact⟨some ⟨g,0,none⟩,cap,by rw[e0],by rw[← e0]; exact ho,hb⟩
 rcases Nat.eq_zero_or_pos n with h0 | h0
 · subst h0
   obtain rfl:=List.eq_nil_of_length_eq_zero hl
   cases A with
   | none=>
     refine(Tryz.slices_Clone_int_nil 0 c w).mono ?_;rintro e w' ⟨rfl,rfl⟩;exact hcut _ _ (World.ownsRow_nil _ _ _ _) (Below.refl _ _)
   | some a=>
     refine(Tryz.slices_Clone_int_zero a c w).mono ?_;rintro e w' ⟨v',rfl,ho,_,hb⟩;exact hcut _ _ ho hb
 · obtain⟨b,off,rfl,hb,hcell⟩:=h.at_ h0
   refine(Tryz.slices_Clone_int b off n c us w (by omega) hbig (fun j hj=>by rw[hcell j hj]; simp[List.getD,hj])).mono ?_
   rintro e w' ⟨v',rfl,ho,_,hb⟩;rw[List.take_of_length_le (by omega)] at ho;exact hcut _ _ ho hb
theorem least_own_t (v:Value) (t:TermD) (w:World) (B:Nat) (hv:TermV w B v t) (hB:B≤w.heap.size) (hbig:t.vars.length * 8≤140737488355328):
 Calls Tryz.prog 154 #[v] w fun e w'=>∃ A n c,e=.returned (.agg #[.bool (leastT t).never,.int .u8 (leastT t).c,.slice A n c])∧RdI .i64 w' w'.heap.size A n c (leastT t).vars∧Below w.heap.size w w'∧∀ a,A=some a→w.heap.size≤a.block:=by
 obtain⟨A,n,c,rfl,hr⟩:=hv;obtain⟨tn,tc,tv⟩:=t;have hl:=hr.len;have hbel:Below w.heap.size w ((w.alloc (Obj.cells #[.bool tn,.int .u8 tc,.slice A n c] 180)).alloc (Obj.cells #[.bool false,.int .u8 0,.slice none 0 0] 180)):=((Below.refl _ _).alloc (Nat.le_refl _) _).alloc (by simp) _
 cases tn
 · have hj:leastT ⟨false,tc,tv⟩=⟨false,tc,tv⟩:=rfl
   have Hj:=qq hj
   have hq:=cloneI_any A n c tv _ _ ((hr.more hB).below hbel) (by have:tv.length=n:=hl; have h2:tv.length * 8≤140737488355328:=hbig; omega)
   have Hq:=qq hq;clear hq hj hl hbig
   go_enter Tryz.func154,Tryz.ntmps154
   go_wp2_with fail;refine Hq.out.mono ?_;rintro e w1 ⟨A',c',rfl,hown,hb1⟩;simp only[World.size_alloc] at hown hb1
   have hself:Blk w1 w.heap.size 180 #[.bool false,.int .u8 tc,.slice A n c]:=by
    show w1.heap[w.heap.size]?=_;rw[hb1.block _ (by omega),Below.heap_alloc _ _ _ (by simp)];exact heap_alloc_new w _
   have hself':Blk w1 (w.heap.size+1) 180 #[.bool false,.int .u8 0,.slice none 0 0]:=by
    show w1.heap[w.heap.size+1]?=_;rw[hb1.block _ (by omega)];have:=heap_alloc_new (w.alloc (Obj.cells #[.bool false,.int .u8 tc,.slice A n c] 180)) (Obj.cells #[.bool false,.int .u8 0,.slice none 0 0] 180);rw[World.size_alloc] at this;exact this
   have hbel1:Below w.heap.size w w1:=hbel.trans (hb1.mono (by omega));have c0:w1.cell? ⟨w.heap.size,0,none⟩=some (.bool false):=hself.cell 0;have c1:w1.cell? ⟨w.heap.size,1,none⟩=some (.int .u8 tc):=hself.cell 1;have c2:w1.cell? ⟨w.heap.size,2,none⟩=some (.slice A n c):=hself.cell 2;have f2:=hself.frozen 2;have d0:w1.cell? ⟨w.heap.size+1,0,none⟩=some (.bool false):=hself'.cell 0;have d1:w1.cell? ⟨w.heap.size+1,1,none⟩=some (.int .u8 0):=hself'.cell 1;have d2:w1.cell? ⟨w.heap.size+1,2,none⟩=some (.slice none 0 0):=hself'.cell 2;have g0:=hself'.frozen 0;have g1:=hself'.frozen 1;have g2:=hself'.frozen 2;go_wp2_with fail;have hs:=(hself'.other (g':=w.heap.size) (by omega) 2 (.slice A' n c')).set3 (.bool false) (.int .u8 tc) (.slice A' n c')
   have ho:=ownsRow_setCell_below (ownsRow_setCell_below (ownsRow_setCell_below (ownsRow_setCell_below hown (a:=⟨w.heap.size,2,none⟩) (by show w.heap.size<_; omega) (.slice A' n c')) (a:=⟨w.heap.size+1,0,none⟩) (by show w.heap.size+1<_; omega) (.bool false)) (a:=⟨w.heap.size+1,1,none⟩) (by show w.heap.size+1<_; omega) (.int .u8 tc)) (a:=⟨w.heap.size+1,2,none⟩) (by show w.heap.size+1<_; omega) (.slice A' n c')
   have hb3:=(((hbel1.setCell (p:=⟨w.heap.size,2,none⟩) (Nat.le_refl _) (.slice A' n c')).setCell (p:=⟨w.heap.size+1,0,none⟩) (Nat.le_succ _) (.bool false)).setCell (p:=⟨w.heap.size+1,1,none⟩) (Nat.le_succ _) (.int .u8 tc)).setCell (p:=⟨w.heap.size+1,2,none⟩) (Nat.le_succ _) (.slice A' n c');generalize ((((w1.setCell ⟨w.heap.size,2,none⟩ (.slice A' n c')).setCell ⟨w.heap.size+1,0,none⟩ (.bool false)).setCell ⟨w.heap.size+1,1,none⟩ (.int .u8 tc)).setCell ⟨w.heap.size+1,2,none⟩ (.slice A' n c'))=W3 at hs ho hb3 ⊢;have x0:W3.cell? ⟨w.heap.size+1,0,none⟩=some (.bool false):=hs.cell 0;have x1:W3.cell? ⟨w.heap.size+1,1,none⟩=some (.int .u8 tc):=hs.cell 1;have x2:W3.cell? ⟨w.heap.size+1,2,none⟩=some (.slice A' n c'):=hs.cell 2
   exact bodyPost_ret (v:=.agg #[.bool false,.int .u8 tc,.slice A' n c']) (by simp[results,Tryz.results154,go_sem,x0,x1,x2]) rfl ⟨A',n,c',rfl,RdI.of_own ho,hb3,fun a ha=>by
    subst ha
    rcases ho.2 with ⟨e0,_⟩ | ⟨g,cap,cur,e0,hb,_⟩
    · cases e0
    · injection e0 with e1 _ _
      injection e1 with e1
      subst e1;show w.heap.size≤g
      omega⟩
 · have hj:leastT ⟨true,tc,tv⟩=⟨false,2,[]⟩:=rfl
   have Hj:=qq hj;clear hj hl
   go_enter Tryz.func154,Tryz.ntmps154
   go_wp2_with fail;have hb2:Below w.heap.size w ((w.alloc (Obj.cells #[.bool true,.int .u8 tc,.slice A n c] 180)).alloc (Obj.cells #[.bool false,.int .u8 2,.slice none 0 0] 180)):=((Below.refl _ _).alloc (Nat.le_refl _) _).alloc (by simp) _
   exact bodyPost_ret (v:=.agg #[.bool false,.int .u8 2,.slice none 0 0]) (by simp[results,Tryz.results154,go_sem]) rfl ⟨none,0,0,rfl,RdI.nil,hb2,fun _ h=>by cases h⟩
structure IneqD where
 lv:Int
 lc:Int
 c:Int
 r:Int
deriving DecidableEq
def mayQ (lv lc c r:Int):Bool:=isB lc lv&&decide (1≤c)&&decide (c≤3)&&decide (-1≤r)&&decide (r<1048576)
def mayQE (lv lc c r:Int):Int:=if mayQ lv lc c r then 0 else 2
theorem mayQE_yes {lv lc c r:Int} (h:mayQ lv lc c r=true):mayQE lv lc c r=0:=by simp[mayQE,h]
theorem mayQE_no {lv lc c r:Int} (h:mayQ lv lc c r=false):mayQE lv lc c r=2:=by simp[mayQE,h]
def atK (asg:List Int) (v:Int):Int:=if okV asg v then atV asg v else 1
def leftQ (asg:List Int) (lv lc:Int):Int:=if lc=0 then atK asg lv else lc
def rightQ (asg:List Int) (c r:Int):Int:=if 0≤r then max c (atK asg r) else c
def holdsQ (asg:List Int) (lv lc c r:Int):Bool:=decide (leftQ asg lv lc≤rightQ asg c r)
def badQ (asg:List Int) (lv lc r:Int):Bool:=(lc==0&&!okV asg lv) || (decide (0≤r)&&!okV asg r)
def IneqAt (w:World) (b off:Nat) (x:IneqD):Prop:=
 w.cell? ⟨b,off,none⟩=some (.int .i64 x.lv)∧w.cell? ⟨b,off+1,none⟩=some (.int .u8 x.lc)∧w.cell? ⟨b,off+2,none⟩=some (.int .u8 x.c)∧w.cell? ⟨b,off+3,none⟩=some (.int .i64 x.r)
def IneqsV (w:World) (B:Nat) (A:Option Addr) (n c:Nat) (xs:List IneqD):Prop:=
 xs.length=n∧n≤c∧c≤maxLen∧(0<n→∃ b off,A=some ⟨b,off,none⟩∧b<B∧∀ i (h:i<xs.length),IneqAt w b (off+i * 4) xs[i])
section
variable {w w':World} {B B':Nat} {A:Option Addr} {n c:Nat} {xs:List IneqD}
theorem IneqAt.keep {b off:Nat} {x:IneqD} (h:IneqAt w b off x) (hb:b<B) (hk:∀ p:Addr,p.block<B→w'.cell? p=w.cell? p):IneqAt w' b off x:=by
 obtain⟨e1,e2,e3,e4⟩:=h;exact⟨(hk _ hb).trans e1,(hk _ hb).trans e2,(hk _ hb).trans e3,(hk _ hb).trans e4⟩
theorem IneqsV.keep (h:IneqsV w B A n c xs) (hk:∀ p:Addr,p.block<B→w'.cell? p=w.cell? p):IneqsV w' B A n c xs:=by
 obtain⟨h1,h2,h3,h4⟩:=h;refine⟨h1,h2,h3,fun hn=>?_⟩;obtain⟨b,off,e,hb,hc⟩:=h4 hn;exact⟨b,off,e,hb,fun i hi=>(hc i hi).keep hb hk⟩
theorem IneqsV.more (h:IneqsV w B A n c xs) (hB:B≤B'):IneqsV w B' A n c xs:=by
 obtain⟨h1,h2,h3,h4⟩:=h;refine⟨h1,h2,h3,fun hn=>?_⟩;obtain⟨b,off,e,hb,hc⟩:=h4 hn
 exact⟨b,off,e,by omega,hc⟩
theorem IneqsV.below (h:IneqsV w B A n c xs) (hb:Below B w w'):IneqsV w' B A n c xs:=h.keep fun _ hp=>hb.cell hp
theorem IneqsV.nil:IneqsV w B none 0 0 []:=⟨rfl,Nat.le_refl _,Nat.zero_le _,fun h=>absurd h (by omega)⟩
theorem IneqsV.len (h:IneqsV w B A n c xs):xs.length=n:=h.1
theorem IneqsV.at_ (h:IneqsV w B A n c xs) (hn:0<n):∃ b off,A=some ⟨b,off,none⟩∧b<B∧∀ i (h:i<xs.length),IneqAt w b (off+i * 4) xs[i]:=h.2.2.2 hn
end
theorem isQ_at (c v:Int) (x:Int) (hx:isE c v=x) (w:World):
 Calls Tryz.prog 61 #[.agg #[.int .i64 v,.int .u8 c]] w fun e w'=>e=.returned (.int .i64 x)∧Below w.heap.size w w':=by
 rw[← hx]; exact is_any c v w
theorem ineqMay_any (lv lc c r:Int) (w:World):
 Calls Tryz.prog 71 #[.agg #[.int .i64 lv,.int .u8 lc,.int .u8 c,.int .i64 r]] w fun e w'=>e=.returned (.int .i64 (mayQE lv lc c r))∧Below w.heap.size w w':=by
 cases hi:isB lc lv
 · have H:Hid (2=mayQE lv lc c r):=by show _=_; rw[mayQE_no]; simp[mayQ,hi]
   have Hi:=qq (isE_no hi);clear hi
   go_enter Tryz.func71,Tryz.ntmps71
   go_wp2_with fail
   refine(isQ_at lc lv 2 Hi.out _).mono ?_; rintro e w1 ⟨rfl,hb1⟩
   have c2:w1.cell? ⟨w.heap.size,2,none⟩=some (.int .u8 c):=(hb1.cell (p:=⟨w.heap.size,2,none⟩) (by simp)).trans ((blk_new w #[.int .i64 lv,.int .u8 lc,.int .u8 c,.int .i64 r] 70).cell 2);have c3:w1.cell? ⟨w.heap.size,3,none⟩=some (.int .i64 r):=(hb1.cell (p:=⟨w.heap.size,3,none⟩) (by simp)).trans ((blk_new w #[.int .i64 lv,.int .u8 lc,.int .u8 c,.int .i64 r] 70).cell 3);go_wp2_with fail;go_ret
   exact⟨by rw[H.out]; rfl,(below_box _).trans (hb1.mono (by simp))⟩
 · have Hi:=qq (isE_yes hi)
   have Hi':=qq hi;clear hi
   by_cases h1:1≤c
   · by_cases h2:c≤3
     · by_cases h3 : -1≤r
       · by_cases h4:r<1048576
         · have H:Hid (0=mayQE lv lc c r):=by show _=_; rw[mayQE_yes]; simp[mayQ,Hi'.out,h1,h2,h3,h4]
           go_enter Tryz.func71,Tryz.ntmps71
           go_wp2_with fail
           refine(isQ_at lc lv 0 Hi.out _).mono ?_; rintro e w1 ⟨rfl,hb1⟩
           have c2:w1.cell? ⟨w.heap.size,2,none⟩=some (.int .u8 c):=(hb1.cell (p:=⟨w.heap.size,2,none⟩) (by simp)).trans ((blk_new w #[.int .i64 lv,.int .u8 lc,.int .u8 c,.int .i64 r] 70).cell 2);have c3:w1.cell? ⟨w.heap.size,3,none⟩=some (.int .i64 r):=(hb1.cell (p:=⟨w.heap.size,3,none⟩) (by simp)).trans ((blk_new w #[.int .i64 lv,.int .u8 lc,.int .u8 c,.int .i64 r] 70).cell 3);go_wp2_with fail;go_ret
           exact⟨by rw[H.out]; rfl,(below_box _).trans (hb1.mono (by simp))⟩
         · have H:Hid (2=mayQE lv lc c r):=by show _=_; rw[mayQE_no]; simp[mayQ,h4]
           go_enter Tryz.func71,Tryz.ntmps71
           go_wp2_with fail
           refine(isQ_at lc lv 0 Hi.out _).mono ?_; rintro e w1 ⟨rfl,hb1⟩
           have c2:w1.cell? ⟨w.heap.size,2,none⟩=some (.int .u8 c):=(hb1.cell (p:=⟨w.heap.size,2,none⟩) (by simp)).trans ((blk_new w #[.int .i64 lv,.int .u8 lc,.int .u8 c,.int .i64 r] 70).cell 2);have c3:w1.cell? ⟨w.heap.size,3,none⟩=some (.int .i64 r):=(hb1.cell (p:=⟨w.heap.size,3,none⟩) (by simp)).trans ((blk_new w #[.int .i64 lv,.int .u8 lc,.int .u8 c,.int .i64 r] 70).cell 3);go_wp2_with fail;go_ret
           exact⟨by rw[H.out]; rfl,(below_box _).trans (hb1.mono (by simp))⟩
       · have H:Hid (2=mayQE lv lc c r):=by show _=_; rw[mayQE_no]; simp[mayQ,h3]
         go_enter Tryz.func71,Tryz.ntmps71
         go_wp2_with fail
         refine(isQ_at lc lv 0 Hi.out _).mono ?_; rintro e w1 ⟨rfl,hb1⟩
         have c2:w1.cell? ⟨w.heap.size,2,none⟩=some (.int .u8 c):=(hb1.cell (p:=⟨w.heap.size,2,none⟩) (by simp)).trans ((blk_new w #[.int .i64 lv,.int .u8 lc,.int .u8 c,.int .i64 r] 70).cell 2);have c3:w1.cell? ⟨w.heap.size,3,none⟩=some (.int .i64 r):=(hb1.cell (p:=⟨w.heap.size,3,none⟩) (by simp)).trans ((blk_new w #[.int .i64 lv,.int .u8 lc,.int .u8 c,.int .i64 r] 70).cell 3);go_wp2_with fail;go_ret
         exact⟨by rw[H.out]; rfl,(below_box _).trans (hb1.mono (by simp))⟩
     · have H:Hid (2=mayQE lv lc c r):=by show _=_; rw[mayQE_no]; simp[mayQ,h2]
       go_enter Tryz.func71,Tryz.ntmps71
       go_wp2_with fail
       refine(isQ_at lc lv 0 Hi.out _).mono ?_; rintro e w1 ⟨rfl,hb1⟩
       have c2:w1.cell? ⟨w.heap.size,2,none⟩=some (.int .u8 c):=(hb1.cell (p:=⟨w.heap.size,2,none⟩) (by simp)).trans ((blk_new w #[.int .i64 lv,.int .u8 lc,.int .u8 c,.int .i64 r] 70).cell 2);have c3:w1.cell? ⟨w.heap.size,3,none⟩=some (.int .i64 r):=(hb1.cell (p:=⟨w.heap.size,3,none⟩) (by simp)).trans ((blk_new w #[.int .i64 lv,.int .u8 lc,.int .u8 c,.int .i64 r] 70).cell 3);go_wp2_with fail;go_ret
       exact⟨by rw[H.out]; rfl,(below_box _).trans (hb1.mono (by simp))⟩
   · have H:Hid (2=mayQE lv lc c r):=by show _=_; rw[mayQE_no]; simp[mayQ,h1]
     go_enter Tryz.func71,Tryz.ntmps71
     go_wp2_with fail
     refine(isQ_at lc lv 0 Hi.out _).mono ?_; rintro e w1 ⟨rfl,hb1⟩
     have c2:w1.cell? ⟨w.heap.size,2,none⟩=some (.int .u8 c):=(hb1.cell (p:=⟨w.heap.size,2,none⟩) (by simp)).trans ((blk_new w #[.int .i64 lv,.int .u8 lc,.int .u8 c,.int .i64 r] 70).cell 2);have c3:w1.cell? ⟨w.heap.size,3,none⟩=some (.int .i64 r):=(hb1.cell (p:=⟨w.heap.size,3,none⟩) (by simp)).trans ((blk_new w #[.int .i64 lv,.int .u8 lc,.int .u8 c,.int .i64 r] 70).cell 3);go_wp2_with fail;go_ret
     exact⟨by rw[H.out]; rfl,(below_box _).trans (hb1.mono (by simp))⟩
def mayX (x:IneqD):Bool:=mayQ x.lv x.lc x.c x.r
theorem mayQ_at {lv lc c r x:Int} (hx:mayQE lv lc c r=x) (w:World):
 Calls Tryz.prog 71 #[.agg #[.int .i64 lv,.int .u8 lc,.int .u8 c,.int .i64 r]] w fun e w'=>e=.returned (.int .i64 x)∧Below w.heap.size w w':=by
 rw[← hx]; exact ineqMay_any lv lc c r w
end Go.Proofs.YtdmakpmbknindaaGreatDoor
namespace Go.Proofs.YtdmakpmbknindaaGreatDoor
open Go.RowKit
attribute [local go_sem ↓] Go.wp_at_zero Go.wp_at_succ
def icells (x:IneqD):List Value:=[.int .i64 x.lv,.int .u8 x.lc,.int .u8 x.c,.int .i64 x.r]
def icellsL:List IneqD→List Value
 | []=>[]
 | x :: r=>icells x++icellsL r
theorem icellsL_append:∀ (a b:List IneqD),icellsL (a++b)=icellsL a++icellsL b
 | [],b=>rfl
 | x :: a,b=>by show icells x++icellsL (a++b)=(icells x++icellsL a)++icellsL b; rw[icellsL_append a b,List.append_assoc]
theorem icellsL_one (x:IneqD):icellsL [x]=icells x:=by simp[icellsL]
theorem icellsL_len:∀ (xs:List IneqD),(icellsL xs).length=xs.length * 4
 | []=>rfl
 | x :: r=>by show(icells x++icellsL r).length=(r.length+1) * 4; rw[List.length_append,icellsL_len r]; simp[icells]; omega
theorem icellsL_at:∀ (xs:List IneqD) (i j:Nat) (h:i<xs.length),j<4→(icellsL xs)[i * 4+j]?=(icells xs[i])[j]?
 | x :: r,0,j,_,hj=>by
   show(icells x++icellsL r)[0 * 4+j]?=_
   rw[List.getElem?_append_left (by simp[icells]; omega)]
   simp
 | x :: r,i+1,j,h,hj=>by
   show(icells x++icellsL r)[(i+1) * 4+j]?=_
   rw[List.getElem?_append_right (by simp[icells]; omega)]
   rw[show(i+1) * 4+j - (icells x).length=i * 4+j by simp[icells]; omega,icellsL_at r i j (by simpa using h) hj]
   rfl
theorem IneqsV.of_own {w:World} {B:Nat} {A:Option Addr} {n c:Nat} {xs:List IneqD} (h:w.ownsRow B 70 4 (.slice A n c) n (icellsL xs)):IneqsV w w.heap.size A n c xs:=by
 have hl:xs.length=n:=by have:=h.1; rw[icellsL_len] at this; omega
 rcases h.2 with ⟨e0,hn⟩ | ⟨g,cap,cur,e0,hb,hg,hn,hm,hs,ht⟩
 · injection e0 with e1 e2 e3
   subst e1; subst e2; subst e3
   exact⟨hl,Nat.le_refl _,Nat.zero_le _,fun h=>absurd h (by omega)⟩
 · injection e0 with e1 e2 e3
   subst e1; subst e3
   refine⟨hl,hn,hm,fun hn0=>⟨g,0,rfl,(Array.getElem?_eq_some_iff.1 hg).1,fun i hi=>?_⟩⟩
   have hc:∀ j,j<4→w.cell? ⟨g,0+i * 4+j,none⟩=(icells xs[i])[j]?:=fun j hj=>by
    have h0:=icellsL_at xs i j hi hj
    have h1:j<(icells xs[i]).length:=by simpa[icells] using hj
    rw[qj h1] at h0 ⊢;have:=h.cells (g:=g) rfl _ _ h0
    rw[show(Addr.add ⟨g,0,none⟩ (i * 4+j))=⟨g,0+i * 4+j,none⟩ from by unfold Addr.add; split <;> simp_all] at this
    exact this
   exact⟨hc 0 (by omega),hc 1 (by omega),hc 2 (by omega),hc 3 (by omega)⟩
structure But (B g:Nat) (w w':World):Prop where
 os:w'.os=w.os
 tape:w'.tape=w.tape
 output:w'.output=w.output
 size:w.heap.size≤w'.heap.size
 block:∀ k,k<B→k≠g→w'.heap[k]?=w.heap[k]?
section
variable {B g:Nat} {w w' w'':World}
theorem But.refl (B g:Nat) (w:World):But B g w w:=⟨rfl,rfl,rfl,Nat.le_refl _,fun _ _ _=>rfl⟩
theorem But.drewN (h:But B g w w') (k:Nat):But B g w (w'.drewN k):=⟨h.os,h.tape,h.output,h.size,h.block⟩
theorem But.trans (h:But B g w w') (k:But B g w' w''):But B g w w'':=
 ⟨k.os.trans h.os,k.tape.trans h.tape,k.output.trans h.output,Nat.le_trans h.size k.size,fun i hi hg=>(k.block i hi hg).trans (h.block i hi hg)⟩
theorem But.of_below (h:Below B w w'):But B g w w':=⟨h.os,h.tape,h.output,h.size,fun k hk _=>h.block k hk⟩
theorem But.below (h:But B g w w') (hg:g≤B):Below g w w':=⟨h.os,h.tape,h.output,h.size,fun k hk=>h.block k (by omega) (by omega)⟩
theorem But.set (h:But B g w w') (i:Nat) (u:Value):But B g w (w'.setCell ⟨g,i,none⟩ u):=
 ⟨h.os,h.tape,h.output,by rw[World.size_setCell]; exact h.size,fun k hk hne=>(Below.heap_setCell _ _ _ _ hne).trans (h.block k hk hne)⟩
theorem But.rdI {k:IntKind} {A:Option Addr} {n c:Nat} {us:List Int} (h:But B g w w') (hr:RdI k w B A n c us) (hA:∀ a,A=some a→a.block≠g):RdI k w' B A n c us:=by
 refine⟨⟨hr.1.1,fun hn=>?_⟩,hr.2⟩;obtain⟨b,off,e,hb,hc⟩:=hr.1.2 hn;exact⟨b,off,e,hb,fun j u hu=>(World.cell?_of_block (h.block b hb (hA _ e))).trans (hc j u hu)⟩
theorem Blk.but {t:TypeId} {cs:Array Value} {s:Nat} (h:Blk w s t cs) (hb:But B g w w') (hs:s<B) (hne:s≠g):Blk w' s t cs:=(hb.block s hs hne).trans h
end
def LayW (w:World) (g B:Nat) (c r:Int) (xs:List IneqD):Prop:=
 ∃ A cap,Blk w g 209 #[.int .u8 c,.int .i64 r,.slice A xs.length cap]∧w.ownsRow B 70 4 (.slice A xs.length cap) xs.length (icellsL xs)∧g<B∧B≤w.heap.size
theorem LayW.drewN {w:World} {g B:Nat} {c r:Int} {xs:List IneqD} (h:LayW w g B c r xs) (k:Nat):LayW (w.drewN k) g B c r xs:=h
def putsQ (c r mv mc:Int):Bool:=if mc=0 then !(c==3 || mv==r) else decide (c<mc)
def putQ (c r mv mc:Int):List IneqD:=if putsQ c r mv mc then [⟨mv,mc,c,r⟩] else []
theorem ineqInfoP:(Tryz.prog.info? 70).map (fun i=>(i.zero,i.size,i.bytes))=some (some (.agg #[.int .i64 0,.int .u8 0,.int .u8 0,.int .i64 0]),4,32):=by kernel_rfl
theorem rd_new4 (w:World) (x:IneqD) (t:TypeId):Rd (w.alloc (Obj.cells (icells x).toArray t)) (w.heap.size+1) 4 (some ⟨w.heap.size,0,none⟩) 1 (icells x):=
 ⟨rfl,fun _=>⟨w.heap.size,0,rfl,Nat.lt_succ_self _,fun j u hu=>by rw[Nat.zero_add,World.cell?_alloc_new]; simpa using hu⟩⟩
theorem put_any (mv mc c r:Int) (g B:Nat) (xs:List IneqD) (w:World) (h:LayW w g B c r xs) (hbig:xs.length≤1099511627776):
 Calls Tryz.prog 153 #[.pointer (some ⟨g,0,none⟩),.agg #[.int .i64 mv,.int .u8 mc]] w fun e w'=>e=.returned (.tuple #[])∧LayW w' g B c r (xs++putQ c r mv mc)∧But B g w w':=by
 obtain⟨i0,hi0,hz0,hz1,hz2⟩:=info_parts ineqInfoP;obtain⟨A,cap,hk,ho,hgB,hB⟩:=h;have hk0:=hk.alloc (Obj.cells #[.int .i64 mv,.int .u8 mc] 24);have ho0:=ho.alloc (Obj.cells #[.int .i64 mv,.int .u8 mc] 24);have hbel0:Below w.heap.size w (w.alloc (Obj.cells #[.int .i64 mv,.int .u8 mc] 24)):=below_box _;have hwb:=blk_new w #[.int .i64 mv,.int .u8 mc] 24;have hbut:But B g w (w.alloc (Obj.cells #[.int .i64 mv,.int .u8 mc] 24)):=But.of_below ((Below.refl _ _).alloc hB _);have x0:(w.alloc (Obj.cells #[.int .i64 mv,.int .u8 mc] 24)).cell? ⟨g,0,none⟩=some (.int .u8 c):=hk0.cell 0;have x1:(w.alloc (Obj.cells #[.int .i64 mv,.int .u8 mc] 24)).cell? ⟨g,1,none⟩=some (.int .i64 r):=hk0.cell 1;have x2:(w.alloc (Obj.cells #[.int .i64 mv,.int .u8 mc] 24)).cell? ⟨g,2,none⟩=some (.slice A xs.length cap):=hk0.cell 2;have y0:(w.alloc (Obj.cells #[.int .i64 mv,.int .u8 mc] 24)).cell? ⟨w.heap.size,0,none⟩=some (.int .i64 mv):=hwb.cell 0;have y1:(w.alloc (Obj.cells #[.int .i64 mv,.int .u8 mc] 24)).cell? ⟨w.heap.size,1,none⟩=some (.int .u8 mc):=hwb.cell 1
 have hz0:(w.alloc (Obj.cells #[.int .i64 mv,.int .u8 mc] 24)).heap.size=w.heap.size+1:=by simp
 have hn1:(Value.slice A xs.length cap).ownBlock≠some g:=fun e=>by have:=(ho.lt _ e).1; omega
 have hn2:(Value.slice A xs.length cap).ownBlock≠some w.heap.size:=fun e=>by have:=(ho.lt _ e).2; omega
 have Hn:=qq hn1;have Hn2:=qq hn2;have Hz:=qq hz0;clear hk ho hn1 hn2 hz0
 by_cases h0:mc=0
 · subst h0
   by_cases h1:c=3
   · subst h1
     have HQ:Hid (putQ (3) (r) (mv) (0)=[]):=by show _=_; simp[putQ,putsQ ]
     have HB:=qq hbut
     have HL:Hid (LayW (w.alloc (Obj.cells #[.int .i64 (mv),.int .u8 (0)] 24)) g B (3) (r) xs):=qq ⟨A,cap,hk0,ho0,hgB,by simp; omega⟩
     clear hbut hk0 ho0
     go_enter Tryz.func153,Tryz.ntmps153
     go_wp2_with fail
     go_quiet (fail)
     go_wp2_with fail
     exact bodyPost_ret (v:=.tuple #[]) (by simp[results,Tryz.results153,go_sem]) rfl ⟨rfl,by rw[HQ.out,List.append_nil]; exact HL.out.drewN _,HB.out.drewN _⟩
   · have HQ:Hid (c≠3):=qq h1
     by_cases h2:mv=r
     · subst h2
       have d1:(c==3)=false:=by simp[h1]
       clear h1
       have HQ:Hid (putQ (c) (mv) (mv) (0)=[]):=by show _=_; simp[putQ,putsQ ,HQ.out]
       have HB:=qq hbut
       have HL:Hid (LayW (w.alloc (Obj.cells #[.int .i64 (mv),.int .u8 (0)] 24)) g B (c) (mv) xs):=qq ⟨A,cap,hk0,ho0,hgB,by simp; omega⟩
       clear hbut hk0 ho0
       go_enter Tryz.func153,Tryz.ntmps153
       go_wp2_with fail
       go_quiet (fail)
       go_wp2_with fail
       exact bodyPost_ret (v:=.tuple #[]) (by simp[results,Tryz.results153,go_sem]) rfl ⟨rfl,by rw[HQ.out,List.append_nil]; exact HL.out.drewN _,HB.out.drewN _⟩
     · have HR:Hid (mv≠r):=qq h2
       have d1:(c==3)=false:=by simp[h1]
       have d2:(mv==r)=false:=by simp[h2]
       clear h1 h2
       have HQ:Hid (putQ (c) (r) (mv) (0)=[⟨mv,0,c,r⟩]):=by show _=_; simp[putQ,putsQ ,HQ.out,HR.out]
       go_enter Tryz.func153,Tryz.ntmps153
       go_wp2_with fail
       go_quiet (fail)
       go_wp2_with fail;generalize hW:w.alloc (Obj.cells #[.int .i64 (mv),.int .u8 (0)] 24)=w0 at hk0 ho0 hbut x0 x1 x2 y0 y1 hwb hbel0 Hz ⊢;clear hW;have hgz:g<w0.heap.size:=hk0.lt;have hwz:w.heap.size<w0.heap.size:=hwb.lt
       have hne0:g≠w0.heap.size:=by omega
       have hne1:w.heap.size≠w0.heap.size:=by omega
       refine wp_region_noPanic ?_;refine wp_region_T (fun w'=>w'.cell? ⟨g,2,none⟩=some (.slice A xs.length cap)∧w'.cell? ⟨g,0,none⟩=some (.int .u8 (c))∧w'.cell? ⟨g,1,none⟩=some (.int .i64 (r))∧w'.cell? ⟨w.heap.size,0,none⟩=some (.int .i64 (mv))∧w'.cell? ⟨w.heap.size,1,none⟩=some (.int .u8 (0))) 17 (by kernel_rfl) ⟨x2,x0,x1,y0,y1⟩ (fun hHeld=>?_);refine nx0 0 ?_
       iterate 15 (refine nx (v:=?_) rfl (by kernel_rfl) (fun _ _ _ h=>h) (by rfl) ?_ (by assumption) ?_; rotate_left; focus (intro w hSw; (try dsimp only at hSw); first | (go_simp; done) | (go_simp; with_reducible rfl)); try simp only[Act.put,qg,qe,qf,qd,qh,qi,Nat.reduceAdd])
       refine nx9 ?_;refine wpAnyT_step (i:=15) (by kernel_rfl) rfl (fun K hK=>?_);go_simp;refine hK.out _ _ ⟨(World.cell?_alloc_lt _ _ ⟨g,2,none⟩ hgz).trans x2,(World.cell?_alloc_lt _ _ ⟨g,0,none⟩ hgz).trans x0,(World.cell?_alloc_lt _ _ ⟨g,1,none⟩ hgz).trans x1,(World.cell?_alloc_lt _ _ ⟨w.heap.size,0,none⟩ hwz).trans y0,(World.cell?_alloc_lt _ _ ⟨w.heap.size,1,none⟩ hwz).trans y1⟩ ?_;clear hK K
       try simp only[Act.put,qg,qe,qf,qd,qh,qi]
       refine wpAnyT_step (i:=16) (by kernel_rfl) rfl (fun K hK=>?_)
       (refine step_append_rd _ (by rfl) (.tmp 41) (.tmp 52) 28 (by rfl) B 70 i0 _ 4 32 Tryz.underlying28 hi0 hz0 hz1 hz2 rfl (by omega) (.slice A xs.length cap) xs.length (icellsL xs) (by rfl) (ho0.alloc _) _ (some ⟨w0.heap.size,0,none⟩) 1 1 (icells ⟨mv,0,c,r⟩) (by rfl) (rd_new4 _ _ _) (by intro u hu; simp[icells] at hu; rcases hu with rfl | rfl | rfl | rfl <;> rfl) (by unfold maxLen; omega) (by omega) (by have:=Hz.out; simp; omega) ?_; intro v4 w4 ho4 hg4 hat4; obtain⟨A4,c4,rfl⟩:=ownsRow_form ho4; have hk4:=Blk.grown (Blk.alloc (w:=w0.drewN (nq+1)) hk0 _) hg4 (Ne.symm Hn.out); have hwb4:=Blk.grown (Blk.alloc (w:=w0.drewN (nq+1)) hwb _) hg4 (Ne.symm Hn2.out))
       refine hK.out _ _ ⟨hk4.cell 2,hk4.cell 0,hk4.cell 1,hwb4.cell 0,hwb4.cell 1⟩ ?_;clear hK K
       try simp only[Act.put,qg,qe,qf,qd,qh,qi]
       have g2:w4.cell? ⟨g,2,none⟩=some (.slice A xs.length cap):=hk4.cell 2;have f2:w4.frozen? ⟨g,2,none⟩=false:=hk4.frozen 2;refine wpAnyT_seq 17 (by omega) (by rfl) (by kernel_rfl) ?_;simp only[List.drop_succ_cons,List.drop_zero];go_wp2_with fail;refine NoPanic.normal ?_;go_wp2_with fail
       all_goals
        have hlen:(xs++putQ (c) (r) (mv) (0)).length=xs.length+1:=by rw[HQ.out]; simp
        have hbut4:But B g w w4:=hbut.trans ⟨hg4.os,hg4.tape,hg4.output,Nat.le_trans (by simp) hg4.size,fun k hk hne=>(hg4.block k (by have:=Hz.out; simp; omega) (fun e=>by have:=(ho0.lt _ e.symm).1; omega)).trans (Below.heap_alloc _ _ _ (by have:=Hz.out; simp; omega))⟩
        have hfin:LayW (w4.setCell ⟨g,2,none⟩ (.slice A4 (xs.length+1) c4)) g B (c) (r) (xs++putQ (c) (r) (mv) (0)):=by
         refine⟨A4,c4,?_,?_,hgB,by rw[World.size_setCell]; have:=hbut4.size; omega⟩
         · rw[hlen]; exact hk4.set_ 2 _
         · rw[hlen,HQ.out,icellsL_append,icellsL_one]
           exact ownsRow_setCell_below ho4 (by show g<B; exact hgB) _
        have hb5:=hbut4.set 2 (.slice A4 (xs.length+1) c4);clear hlen hbut4
        go_end0
        exact⟨rfl,hfin,hb5⟩
 · have H0:Hid (mc≠0):=qq h0
   have hz:(mc != 0)=true:=by simp[h0]
   have hz':(mc==0)=false:=by simp[h0]
   clear h0
   by_cases h1:mc≤c
   · have h3:¬ c<mc:=by omega
     have d3:decide (mc≤c)=true:=by simpa using h1
     have HQ:Hid (putQ (c) (r) (mv) (mc)=[]):=by show _=_; simp[putQ,putsQ ,H0.out,h3]
     have HB:=qq hbut
     have HL:Hid (LayW (w.alloc (Obj.cells #[.int .i64 (mv),.int .u8 (mc)] 24)) g B (c) (r) xs):=qq ⟨A,cap,hk0,ho0,hgB,by simp; omega⟩
     clear hbut hk0 ho0
     go_enter Tryz.func153,Tryz.ntmps153
     go_wp2_with fail
     go_quiet (fail)
     go_wp2_with fail
     exact bodyPost_ret (v:=.tuple #[]) (by simp[results,Tryz.results153,go_sem]) rfl ⟨rfl,by rw[HQ.out,List.append_nil]; exact HL.out.drewN _,HB.out.drewN _⟩
   · have h3:c<mc:=by omega
     have d3:decide (mc≤c)=false:=by simp; omega
     have HQ:Hid (putQ (c) (r) (mv) (mc)=[⟨mv,mc,c,r⟩]):=by show _=_; simp[putQ,putsQ ,H0.out,h3]
     go_enter Tryz.func153,Tryz.ntmps153
     go_wp2_with fail
     go_quiet (fail)
     go_wp2_with fail;generalize hW:w.alloc (Obj.cells #[.int .i64 (mv),.int .u8 (mc)] 24)=w0 at hk0 ho0 hbut x0 x1 x2 y0 y1 hwb hbel0 Hz ⊢;clear hW;have hgz:g<w0.heap.size:=hk0.lt;have hwz:w.heap.size<w0.heap.size:=hwb.lt
     have hne0:g≠w0.heap.size:=by omega
     have hne1:w.heap.size≠w0.heap.size:=by omega
     refine wp_region_noPanic ?_;refine wp_region_T (fun w'=>w'.cell? ⟨g,2,none⟩=some (.slice A xs.length cap)∧w'.cell? ⟨g,0,none⟩=some (.int .u8 (c))∧w'.cell? ⟨g,1,none⟩=some (.int .i64 (r))∧w'.cell? ⟨w.heap.size,0,none⟩=some (.int .i64 (mv))∧w'.cell? ⟨w.heap.size,1,none⟩=some (.int .u8 (mc))) 17 (by kernel_rfl) ⟨x2,x0,x1,y0,y1⟩ (fun hHeld=>?_);refine nx0 0 ?_
     iterate 15 (refine nx (v:=?_) rfl (by kernel_rfl) (fun _ _ _ h=>h) (by rfl) ?_ (by assumption) ?_; rotate_left; focus (intro w hSw; (try dsimp only at hSw); first | (go_simp; done) | (go_simp; with_reducible rfl)); try simp only[Act.put,qg,qe,qf,qd,qh,qi,Nat.reduceAdd])
     refine nx9 ?_;refine wpAnyT_step (i:=15) (by kernel_rfl) rfl (fun K hK=>?_);go_simp;refine hK.out _ _ ⟨(World.cell?_alloc_lt _ _ ⟨g,2,none⟩ hgz).trans x2,(World.cell?_alloc_lt _ _ ⟨g,0,none⟩ hgz).trans x0,(World.cell?_alloc_lt _ _ ⟨g,1,none⟩ hgz).trans x1,(World.cell?_alloc_lt _ _ ⟨w.heap.size,0,none⟩ hwz).trans y0,(World.cell?_alloc_lt _ _ ⟨w.heap.size,1,none⟩ hwz).trans y1⟩ ?_;clear hK K
     try simp only[Act.put,qg,qe,qf,qd,qh,qi]
     refine wpAnyT_step (i:=16) (by kernel_rfl) rfl (fun K hK=>?_)
     (refine step_append_rd _ (by rfl) (.tmp 41) (.tmp 52) 28 (by rfl) B 70 i0 _ 4 32 Tryz.underlying28 hi0 hz0 hz1 hz2 rfl (by omega) (.slice A xs.length cap) xs.length (icellsL xs) (by rfl) (ho0.alloc _) _ (some ⟨w0.heap.size,0,none⟩) 1 1 (icells ⟨mv,mc,c,r⟩) (by rfl) (rd_new4 _ _ _) (by intro u hu; simp[icells] at hu; rcases hu with rfl | rfl | rfl | rfl <;> rfl) (by unfold maxLen; omega) (by omega) (by have:=Hz.out; simp; omega) ?_; intro v4 w4 ho4 hg4 hat4; obtain⟨A4,c4,rfl⟩:=ownsRow_form ho4; have hk4:=Blk.grown (Blk.alloc (w:=w0.drewN (nq+1)) hk0 _) hg4 (Ne.symm Hn.out); have hwb4:=Blk.grown (Blk.alloc (w:=w0.drewN (nq+1)) hwb _) hg4 (Ne.symm Hn2.out))
     refine hK.out _ _ ⟨hk4.cell 2,hk4.cell 0,hk4.cell 1,hwb4.cell 0,hwb4.cell 1⟩ ?_;clear hK K
     try simp only[Act.put,qg,qe,qf,qd,qh,qi]
     have g2:w4.cell? ⟨g,2,none⟩=some (.slice A xs.length cap):=hk4.cell 2;have f2:w4.frozen? ⟨g,2,none⟩=false:=hk4.frozen 2;refine wpAnyT_seq 17 (by omega) (by rfl) (by kernel_rfl) ?_;simp only[List.drop_succ_cons,List.drop_zero];go_wp2_with fail;refine NoPanic.normal ?_;go_wp2_with fail
     all_goals
      have hlen:(xs++putQ (c) (r) (mv) (mc)).length=xs.length+1:=by rw[HQ.out]; simp
      have hbut4:But B g w w4:=hbut.trans ⟨hg4.os,hg4.tape,hg4.output,Nat.le_trans (by simp) hg4.size,fun k hk hne=>(hg4.block k (by have:=Hz.out; simp; omega) (fun e=>by have:=(ho0.lt _ e.symm).1; omega)).trans (Below.heap_alloc _ _ _ (by have:=Hz.out; simp; omega))⟩
      have hfin:LayW (w4.setCell ⟨g,2,none⟩ (.slice A4 (xs.length+1) c4)) g B (c) (r) (xs++putQ (c) (r) (mv) (mc)):=by
       refine⟨A4,c4,?_,?_,hgB,by rw[World.size_setCell]; have:=hbut4.size; omega⟩
       · rw[hlen]; exact hk4.set_ 2 _
       · rw[hlen,HQ.out,icellsL_append,icellsL_one]
         exact ownsRow_setCell_below ho4 (by show g<B; exact hgB) _
      have hb5:=hbut4.set 2 (.slice A4 (xs.length+1) c4);clear hlen hbut4
      go_end0
      exact⟨rfl,hfin,hb5⟩
end Go.Proofs.YtdmakpmbknindaaGreatDoor
