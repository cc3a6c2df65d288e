import Derived.Test.YtdmakpmbknindaaGreatDoorM13
set_option linter.unusedVariables false
set_option linter.unusedSimpArgs false
set_option maxHeartbeats 2000000
namespace Go.Proofs.YtdmakpmbknindaaGreatDoor
open Go.RowKit
section
variable {w w':World} {S S':Nat→Prop}
end
section
variable {X:Type} {w w':World} {S S':Nat→Prop} {enc:X→List Cel} {k:Nat} {xs:List X} {A:Option Addr} {m cp B:Nat}
end
section
variable {w w':World} {base:Nat} {e:TypeId} {k:Nat} {R R':Nat→Prop} {v:Value} {n:Nat} {l:List Cel}
theorem OwnC.beyond (h:OwnC w base e k R v n l) (hb:Below w.heap.size w w'):OwnC w' base e k R v n l:=by
 obtain⟨h0,cs,h1,h2⟩:=h;exact⟨h0,cs,ownsRow_beyond h1 hb,h2.keep (fun b h=>⟨Nat.lt_of_lt_of_le h.1 hb.size,h.2⟩) fun p hp=>hb.cell hp.1⟩
variable {P:Program}
end
end Go.Proofs.YtdmakpmbknindaaGreatDoor
namespace Go.Proofs.YtdmakpmbknindaaGreatDoor
open Go.RowKit
section
variable {P:Program}
theorem step_append_cel {ops:Array Oper} {o:Oper} {a:Act} {K:Act→World→Prop} {Q:Exit→Act→World→Prop} {E:Prop} {B0:Nat} (w0 w:World) (hgd:o.guard=none) (s x:Operand) (t:TypeId)
 (ho:o.op=.call { callee:=.builtin .append,args:=#[s,x],argTypes:=#[t,t] })
 (base:Nat) (e:TypeId) (i:TypeInfo) (z:Value) (k bytes:Nat) (ht:P.underlying t=some (.slice e)) (hi:P.info? e=some i) (hz:i.zero=some z)
 (hsize:i.size=k) (hby:i.bytes=bytes) (hzs:z.cells.size=k) (hsz:0<k) (R:Nat→Prop)
 (v:Value) (n:Nat) (l:List Cel) (hs:a.eval s=v) (cs:List Value) (c:List Cel) (hcs:cs.length=k) (h1:∀ u∈cs,u.oneCell'=true) (hx:a.eval x=.slice (some ⟨w.heap.size,0,none⟩) 1 1)
 (hown:OwnC w base e k R v n l) (hc:CelsV w (fun b=>b<w.heap.size∧some b≠v.ownBlock∧¬ R b) c cs) (h63:n+1≤maxLen) (hbytes:(n+1) * bytes≤140737488355328) (hbel:Below B0 w0 w) (hB0:B0≤base) (hbase:base≤w.heap.size)
 (h:∀ A' c' w',OwnC w' base e k R (.slice A' (n+1) c') (n+1) (l++c)→Below B0 w0 w'→w.grownBy w' v.ownBlock→w.heap.size≤w'.heap.size→((Value.slice A' (n+1) c').ownBlock=v.ownBlock∨(Value.slice A' (n+1) c').ownBlock=some (w.heap.size+1))→K (a.put o.dst (.slice A' (n+1) c')) w'):
 if Region.wanted o (yielded ops a.tmps)=true then Oper.wp P o a (w.alloc (Obj.cells cs.toArray e)) K Q else E:=by
 obtain⟨hl,cs0,hown0,hv0⟩:=hown
 have hrd:Rd (w.alloc (Obj.cells cs.toArray e)) (w.heap.size+1) k (some ⟨w.heap.size,0,none⟩) 1 cs:=
  ⟨by rw[hcs,Nat.one_mul],fun _=>⟨w.heap.size,0,rfl,Nat.lt_succ_self _,fun j u hu=>by rw[Nat.zero_add,World.cell?_alloc_new]; simpa using hu⟩⟩
 refine step_append_rd (w.alloc (Obj.cells cs.toArray e)) hgd s x t ho base e i z k bytes ht hi hz hsize hby hzs hsz v n cs0 hs (hown0.alloc _) (w.heap.size+1) _ 1 1 cs hx hrd h1 h63 hbytes (by rw[World.size_alloc]; omega) fun v' w' h2 h3 h4=>?_
 obtain⟨A',c',rfl⟩:=ownsRow_form h2
 have hg:w.grownBy w' v.ownBlock:=⟨h3.os,h3.tape,h3.output,Nat.le_trans (by rw[World.size_alloc]; omega) h3.size,fun k hk hne=>(h3.block k (by rw[World.size_alloc]; omega) hne).trans (Below.heap_alloc w _ k hk)⟩
 rw[World.size_alloc] at h4
 have hne:∀ b,b<w.heap.size→some b≠v.ownBlock→some b≠(Value.slice A' (n+1) c').ownBlock:=fun b hb hn e=>by
  rcases h4 with h4 | h4
  · exact hn (by rw[e,h4])
  · rw[h4] at e
    injection e with e
    omega
 have hkk:∀ p:Addr,(p.block<w.heap.size∧some p.block≠v.ownBlock∧¬ R p.block)→w'.cell? p=w.cell? p:=fun p hp=>World.cell?_of_block (hg.block p.block hp.1 hp.2.1);refine h A' c' w' ⟨?_,cs0++cs,h2,?_⟩ ?_ hg hg.size h4
 · have:=hc.len
   rw[List.length_append,hl,Nat.add_mul,Nat.one_mul];omega
 · refine CelsV.keep (fun b hb=>⟨Nat.lt_of_lt_of_le hb.1 hg.size,hne b hb.1 hb.2.1,hb.2.2⟩) hkk (hv0.append hc)
 · have hb2:Below base w0 w'→Below B0 w0 w':=fun h=>h.mono hB0
   refine⟨h3.os.trans hbel.os,h3.tape.trans hbel.tape,h3.output.trans hbel.output,Nat.le_trans hbel.size hg.size,fun b hb=>?_⟩
   have hbw:b<w.heap.size:=by omega
   refine(hg.block b hbw fun e=>?_).trans (hbel.block b hb);have:=(hown0.lt b e.symm).1;omega
end
theorem refIs_any (c v:Int) (w:World):
 Calls Tryz.prog 145 #[.agg #[.int .i64 v,.int .u8 c]] w fun e w'=>e=.returned (.bool (isB c v))∧Below w.heap.size w w':=by
 have hfin:∀ b,isB c v=b→Hid (b=isB c v):=fun b h=>qq h.symm
 by_cases h0:c=0∧0≤v∧v<1048576
 · obtain⟨rfl,ha,hb⟩:=h0
   have H:=hfin true (by simp[isB,ha,hb]);clear hfin
   go_enter Tryz.func145,Tryz.ntmps145
   go_wp2_with fail;go_ret;exact⟨ret_bool H.out,(Below.refl _ _).alloc (Nat.le_refl _) _⟩
 · have hcase:(c==0)=false∨(c==0)=true∧(¬ (0≤v)∨0≤v∧¬ (v<1048576)):=by
    by_cases hc:c=0
    · refine .inr ⟨by simp[hc],?_⟩
      by_cases hv:0≤v
      · exact .inr ⟨hv,fun h=>h0 ⟨hc,hv,h⟩⟩
      · exact .inl hv
    · exact .inl (by simp[hc])
   have hx:(c==0&&decide (0≤v)&&decide (v<1048576))=false:=by
    rw[Bool.eq_false_iff];intro h;simp only[Bool.and_eq_true,beq_iff_eq,decide_eq_true_eq] at h;exact h0 ⟨h.1.1,h.1.2,h.2⟩
   clear h0
   have hcase2:¬ (1≤c)∨1≤c∧(¬ (c≤3)∨c≤3∧((v==0)=false∨(v==0)=true)):=by
    by_cases h1:1≤c
    · by_cases h3:c≤3
      · cases h:v==0
        · exact .inr ⟨h1,.inr ⟨h3,.inl rfl⟩⟩
        · exact .inr ⟨h1,.inr ⟨h3,.inr rfl⟩⟩
      · exact .inr ⟨h1,.inl h3⟩
    · exact .inl h1
   obtain⟨y,hy⟩:∃ y,isB c v=y:=⟨_,rfl⟩;have H:=hfin y hy;unfold isB oneB at hy;rw[hx,Bool.false_or] at hy;clear hfin hx
   rcases hcase2 with h1 | ⟨h1,h3 | ⟨h3,h4 | h4⟩⟩
   all_goals
    first | rw[decide_eq_false h1] at hy | rw[decide_eq_true h1,decide_eq_false h3] at hy | rw[decide_eq_true h1,decide_eq_true h3,h4] at hy
    simp only[Bool.false_and,Bool.true_and,Bool.and_false,Bool.and_true] at hy;subst hy
    rcases hcase with h | ⟨h,h | ⟨h,h'⟩⟩
    all_goals
     go_enter Tryz.func145,Tryz.ntmps145
     go_wp2_with fail;go_ret;exact⟨ret_bool H.out,(Below.refl _ _).alloc (Nat.le_refl _) _⟩
theorem refIs_at (c v:Int) (x:Bool) (hx:isB c v=x) (w:World):
 Calls Tryz.prog 145 #[.agg #[.int .i64 v,.int .u8 c]] w fun e w'=>e=.returned (.bool x)∧Below w.heap.size w w':=by
 rw[← hx]; exact refIs_any c v w
theorem refMayQ_any (lv lc c r:Int) (w:World):
 Calls Tryz.prog 112 #[.agg #[.int .i64 lv,.int .u8 lc,.int .u8 c,.int .i64 r]] w fun e w'=>e=.returned (.bool (mayQ lv lc c r))∧Below w.heap.size w w':=by
 cases hi:isB lc lv
 · have H:Hid (false=mayQ lv lc c r):=by show _=_; simp[mayQ,hi]
   have Hi:=qq hi;clear hi
   go_enter Tryz.func112,Tryz.ntmps112
   go_wp2_with fail
   refine(refIs_at lc lv false Hi.out _).mono ?_; rintro e w1 ⟨rfl,hb1⟩
   have c2:w1.cell? ⟨w.heap.size,2,none⟩=some (.int .u8 c):=(hb1.cell (p:=⟨w.heap.size,2,none⟩) (by simp)).trans ((blk_new w #[.int .i64 lv,.int .u8 lc,.int .u8 c,.int .i64 r] 70).cell 2);have c3:w1.cell? ⟨w.heap.size,3,none⟩=some (.int .i64 r):=(hb1.cell (p:=⟨w.heap.size,3,none⟩) (by simp)).trans ((blk_new w #[.int .i64 lv,.int .u8 lc,.int .u8 c,.int .i64 r] 70).cell 3);go_wp2_with fail;go_ret
   exact⟨by first | (rw[H.out]; rfl) | (rw[← H.out,show decide (r<1048576)=false from decide_eq_false (by omega)]; rfl),(below_box _).trans (hb1.mono (by simp))⟩
 · have Hi:=qq hi
   have Hi':=qq hi;clear hi
   by_cases h1:1≤c
   · by_cases h2:c≤3
     · by_cases h3 : -1≤r
       · by_cases h4:r<1048576
         · have H:Hid (true=mayQ lv lc c r):=by show _=_; simp[mayQ,Hi'.out,h1,h2,h3,h4]
           go_enter Tryz.func112,Tryz.ntmps112
           go_wp2_with fail
           refine(refIs_at lc lv true Hi.out _).mono ?_; rintro e w1 ⟨rfl,hb1⟩
           have c2:w1.cell? ⟨w.heap.size,2,none⟩=some (.int .u8 c):=(hb1.cell (p:=⟨w.heap.size,2,none⟩) (by simp)).trans ((blk_new w #[.int .i64 lv,.int .u8 lc,.int .u8 c,.int .i64 r] 70).cell 2);have c3:w1.cell? ⟨w.heap.size,3,none⟩=some (.int .i64 r):=(hb1.cell (p:=⟨w.heap.size,3,none⟩) (by simp)).trans ((blk_new w #[.int .i64 lv,.int .u8 lc,.int .u8 c,.int .i64 r] 70).cell 3);go_wp2_with fail;go_ret
           exact⟨by first | (rw[H.out]; rfl) | (rw[← H.out,show decide (r<1048576)=false from decide_eq_false (by omega)]; rfl),(below_box _).trans (hb1.mono (by simp))⟩
         · have H:Hid (false=mayQ lv lc c r):=by show _=_; simp[mayQ,h4]
           go_enter Tryz.func112,Tryz.ntmps112
           go_wp2_with fail
           refine(refIs_at lc lv true Hi.out _).mono ?_; rintro e w1 ⟨rfl,hb1⟩
           have c2:w1.cell? ⟨w.heap.size,2,none⟩=some (.int .u8 c):=(hb1.cell (p:=⟨w.heap.size,2,none⟩) (by simp)).trans ((blk_new w #[.int .i64 lv,.int .u8 lc,.int .u8 c,.int .i64 r] 70).cell 2);have c3:w1.cell? ⟨w.heap.size,3,none⟩=some (.int .i64 r):=(hb1.cell (p:=⟨w.heap.size,3,none⟩) (by simp)).trans ((blk_new w #[.int .i64 lv,.int .u8 lc,.int .u8 c,.int .i64 r] 70).cell 3);go_wp2_with fail;go_ret
           exact⟨by first | (rw[H.out]; rfl) | (rw[← H.out,show decide (r<1048576)=false from decide_eq_false (by omega)]; rfl),(below_box _).trans (hb1.mono (by simp))⟩
       · have H:Hid (false=mayQ lv lc c r):=by show _=_; simp[mayQ,h3]
         go_enter Tryz.func112,Tryz.ntmps112
         go_wp2_with fail
         refine(refIs_at lc lv true Hi.out _).mono ?_; rintro e w1 ⟨rfl,hb1⟩
         have c2:w1.cell? ⟨w.heap.size,2,none⟩=some (.int .u8 c):=(hb1.cell (p:=⟨w.heap.size,2,none⟩) (by simp)).trans ((blk_new w #[.int .i64 lv,.int .u8 lc,.int .u8 c,.int .i64 r] 70).cell 2);have c3:w1.cell? ⟨w.heap.size,3,none⟩=some (.int .i64 r):=(hb1.cell (p:=⟨w.heap.size,3,none⟩) (by simp)).trans ((blk_new w #[.int .i64 lv,.int .u8 lc,.int .u8 c,.int .i64 r] 70).cell 3);go_wp2_with fail;go_ret
         exact⟨by first | (rw[H.out]; rfl) | (rw[← H.out,show decide (r<1048576)=false from decide_eq_false (by omega)]; rfl),(below_box _).trans (hb1.mono (by simp))⟩
     · have H:Hid (false=mayQ lv lc c r):=by show _=_; simp[mayQ,h2]
       go_enter Tryz.func112,Tryz.ntmps112
       go_wp2_with fail
       refine(refIs_at lc lv true Hi.out _).mono ?_; rintro e w1 ⟨rfl,hb1⟩
       have c2:w1.cell? ⟨w.heap.size,2,none⟩=some (.int .u8 c):=(hb1.cell (p:=⟨w.heap.size,2,none⟩) (by simp)).trans ((blk_new w #[.int .i64 lv,.int .u8 lc,.int .u8 c,.int .i64 r] 70).cell 2);have c3:w1.cell? ⟨w.heap.size,3,none⟩=some (.int .i64 r):=(hb1.cell (p:=⟨w.heap.size,3,none⟩) (by simp)).trans ((blk_new w #[.int .i64 lv,.int .u8 lc,.int .u8 c,.int .i64 r] 70).cell 3);go_wp2_with fail;go_ret
       exact⟨by first | (rw[H.out]; rfl) | (rw[← H.out,show decide (r<1048576)=false from decide_eq_false (by omega)]; rfl),(below_box _).trans (hb1.mono (by simp))⟩
   · have H:Hid (false=mayQ lv lc c r):=by show _=_; simp[mayQ,h1]
     go_enter Tryz.func112,Tryz.ntmps112
     go_wp2_with fail
     refine(refIs_at lc lv true Hi.out _).mono ?_; rintro e w1 ⟨rfl,hb1⟩
     have c2:w1.cell? ⟨w.heap.size,2,none⟩=some (.int .u8 c):=(hb1.cell (p:=⟨w.heap.size,2,none⟩) (by simp)).trans ((blk_new w #[.int .i64 lv,.int .u8 lc,.int .u8 c,.int .i64 r] 70).cell 2);have c3:w1.cell? ⟨w.heap.size,3,none⟩=some (.int .i64 r):=(hb1.cell (p:=⟨w.heap.size,3,none⟩) (by simp)).trans ((blk_new w #[.int .i64 lv,.int .u8 lc,.int .u8 c,.int .i64 r] 70).cell 3);go_wp2_with fail;go_ret
     exact⟨by first | (rw[H.out]; rfl) | (rw[← H.out,show decide (r<1048576)=false from decide_eq_false (by omega)]; rfl),(below_box _).trans (hb1.mono (by simp))⟩
theorem okV_cell {w:World} {B:Nat} {A:Option Addr} {n c:Nat} {asg:List Int} {v:Int} (ha:RdI .u8 w B A n c asg) (hv:0≤v) (ho:okV asg v=true):
 ∃ b off,∃ m:Nat,A=some ⟨b,off,none⟩∧v=(m:Int)∧m<n∧b<B∧w.cell? ⟨b,off+m,none⟩=some (.int .u8 (atK asg v)):=by
 obtain⟨m,rfl⟩:∃ m:Nat,v=(m:Int):=⟨v.toNat,(Int.toNat_of_nonneg hv).symm⟩;have hla:=ha.len
 have hml:(m:Int)<asg.length:=by
  unfold okV at ho;rw[Bool.and_eq_true] at ho;exact of_decide_eq_true ho.1
 obtain⟨b,off,e,hb,hcell⟩:=ha.at_ (by omega)
 refine⟨b,off,m,e,rfl,by omega,hb,?_⟩
 have hm':m<asg.length:=by omega
 rw[hcell m hm'];simp[atK,ho,atV,List.getD,hm']
theorem refOne_any (lv lc c r:Int) (A:Option Addr) (n cp:Nat) (asg:List Int) (w:World) (B:Nat) (ha:RdI .u8 w B A n cp asg) (hB:B≤w.heap.size) (hbad:badQ asg lv lc r=false) (hlv:lc=0→0≤lv):
 Calls Tryz.prog 113 #[.agg #[.int .i64 lv,.int .u8 lc,.int .u8 c,.int .i64 r],.slice A n cp] w fun e w'=>e=.returned (.bool (holdsQ asg lv lc c r))∧Below w.heap.size w w':=by
 have hn63:n≤9223372036854775807:=Nat.le_trans ha.2.1 ha.2.2;have hbel:Below w.heap.size w (w.alloc (Obj.cells #[.int .i64 lv,.int .u8 lc,.int .u8 c,.int .i64 r] 70)):=below_box _;have ha1:=(ha.more hB).below hbel
 have h12:(lc=0→okV asg lv=true)∧(0≤r→okV asg r=true):=by
  unfold badQ at hbad;rw[Bool.or_eq_false_iff] at hbad;refine⟨fun h=>?_,fun h=>?_⟩
  · have:=hbad.1; rw[show(lc==0)=true by simp[h]] at this; simpa using this
  · have:=hbad.2; rw[decide_eq_true h] at this; simpa using this
 obtain⟨h1,h2⟩:=h12;clear hbad
 by_cases h0:lc=0
 · subst h0
   obtain⟨b,off,m,rfl,hm,hmn,hb,hc⟩:=okV_cell ha1 (hlv rfl) (h1 rfl);have hleft:leftQ asg lv 0=atK asg lv:=if_pos rfl;generalize atK asg lv=L at hc hleft;clear h1 hlv;subst hm
   by_cases hLc:L≤c
   · have H:Hid (true=holdsQ asg m 0 c r):=by
      show _=_; unfold holdsQ; rw[hleft]; symm; apply decide_eq_true; unfold rightQ; split <;> omega
     clear hleft h2 ha1 ha
     go_enter Tryz.func113,Tryz.ntmps113
     go_wp2_with fail;go_ret
     exact⟨by rw[← H.out]; rfl,hbel⟩
   · by_cases hr0:0≤r
     · obtain⟨b',off',m',hA,hm',hmn',hb',hc'⟩:=okV_cell ha1 hr0 (h2 hr0)
       have hA':off'=off∧b'=b:=by simp at hA; omega
       obtain⟨rfl,rfl⟩:=hA';have hright:rightQ asg c r=max c (atK asg r):=if_pos hr0;generalize atK asg r=R at hc' hright;subst hm'
       have H:Hid (decide (L≤R)=holdsQ asg m 0 c m'):=by
        show _=_; unfold holdsQ; rw[hleft,hright]; exact decide_eq_decide.2 (by omega)
       clear hleft hright h2 ha1 ha hA
       go_enter Tryz.func113,Tryz.ntmps113
       go_wp2_with fail;go_ret
       exact⟨by rw[← H.out]; rfl,hbel⟩
     · have H:Hid (false=holdsQ asg m 0 c r):=by
        show _=_; unfold holdsQ; rw[hleft]; symm; apply decide_eq_false; unfold rightQ; rw[if_neg hr0]; omega
       clear hleft h2 ha1 ha
       go_enter Tryz.func113,Tryz.ntmps113
       go_wp2_with fail;go_ret
       exact⟨by rw[← H.out]; rfl,hbel⟩
 · have hleft:leftQ asg lv lc=lc:=if_neg h0
   have hlc:(lc==0)=false:=by simp[h0]
   clear h1 hlv
   by_cases hLc:lc≤c
   · have H:Hid (true=holdsQ asg lv lc c r):=by
      show _=_; unfold holdsQ; rw[hleft]; symm; apply decide_eq_true; unfold rightQ; split <;> omega
     clear hleft h2 ha1 ha
     go_enter Tryz.func113,Tryz.ntmps113
     go_wp2_with fail;go_ret
     exact⟨by rw[← H.out]; rfl,hbel⟩
   · by_cases hr0:0≤r
     · obtain⟨b',off',m',rfl,hm',hmn',hb',hc'⟩:=okV_cell ha1 hr0 (h2 hr0)
       have hright:rightQ asg c r=max c (atK asg r):=if_pos hr0;generalize atK asg r=R at hc' hright;subst hm'
       have H:Hid (decide (lc≤R)=holdsQ asg lv lc c m'):=by
        show _=_; unfold holdsQ; rw[hleft,hright]; exact decide_eq_decide.2 (by omega)
       clear hleft hright h2 ha1 ha
       go_enter Tryz.func113,Tryz.ntmps113
       go_wp2_with fail;go_ret
       exact⟨by rw[← H.out]; rfl,hbel⟩
     · have H:Hid (false=holdsQ asg lv lc c r):=by
        show _=_; unfold holdsQ; rw[hleft]; symm; apply decide_eq_false; unfold rightQ; rw[if_neg hr0]; omega
       clear hleft h2 ha1 ha
       go_enter Tryz.func113,Tryz.ntmps113
       go_wp2_with fail;go_ret
       exact⟨by rw[← H.out]; rfl,hbel⟩
end Go.Proofs.YtdmakpmbknindaaGreatDoor
namespace Go.Proofs.YtdmakpmbknindaaGreatDoor
section
variable {n:Nat} {xs:List IneqD} {low is f:List Int}
end
def lowB (p:Int→Bool):Int:=if p 1 then 1 else if p 2 then 2 else if p 3 then 3 else 0
def upB (p:Int→Bool):Int:=if p 3 then 3 else if p 2 then 2 else if p 1 then 1 else 0
def rowB (q:Int→Int→Bool):Int:=if q 3 1 || q 3 2 then 3 else if q 2 1 then 2 else 1
def TwoE (n:Nat) (xs:List IneqD) (u:Nat) (a:Int) (v:Nat) (b:Int):Prop:=∃ f,SolE n xs f∧f.getD u 0=a∧f.getD v 0=b
noncomputable def twoB (n:Nat) (xs:List IneqD) (u:Nat) (a:Int) (v:Nat) (b:Int):Bool:=@decide (TwoE n xs u a v b) (Classical.propDecidable _)
theorem twoB_iff {n:Nat} {xs:List IneqD} {u v:Nat} {a b:Int}:twoB n xs u a v b=true↔TwoE n xs u a v b:=by unfold twoB; exact @decide_eq_true_iff _ (Classical.propDecidable _)
noncomputable def refTab (n:Nat) (xs:List IneqD) (keep:List Nat):TabD:=
 ⟨keep.map fun v=>lowB fun m=>twoB n xs v m v m,keep.map fun v=>upB fun m=>twoB n xs v m v m,keep.map fun v=>keep.map fun r=>rowB fun a b=>twoB n xs v a r b⟩
theorem ref_tab {n:Nat} {xs:List IneqD} {keep:List Nat} {low:List Int} (hs:SolE n xs low) (hk:∀ v∈keep,v<n):TabOf keep.length (KeptE n xs keep) (refTab n xs keep):=by
 have hat:∀ {β:Type} (F:Nat→β) (d:β) (i:Nat) (hi:i<keep.length),(keep.map F).getD i d=F keep[i]:=fun F d i hi=>by
  rw[List.getD_eq_getElem?_getD,List.getElem?_map,qj hi];rfl
 have hkn:∀ i (hi:i<keep.length),keep[i]<n:=fun i hi=>hk _ (List.getElem_mem hi)
 have hself:∀ v m,twoB n xs v m v m=true↔∃ f,SolE n xs f∧f.getD v 0=m:=fun v m=>by
  rw[twoB_iff];exact⟨fun⟨f,h1,h2,_⟩=>⟨f,h1,h2⟩,fun⟨f,h1,h2⟩=>⟨f,h1,h2,h2⟩⟩
 have hlow:∀ i (hi:i<keep.length),(refTab n xs keep).low.getD i 0=lowB fun m=>twoB n xs keep[i] m keep[i] m:=fun i hi=>hat _ _ i hi;have hup:∀ i (hi:i<keep.length),(refTab n xs keep).up.getD i 0=upB fun m=>twoB n xs keep[i] m keep[i] m:=fun i hi=>hat _ _ i hi
 have hpair:∀ i j (hi:i<keep.length) (hj:j<keep.length),pairE (refTab n xs keep) i j=rowB fun a b=>twoB n xs keep[i] a keep[j] b:=fun i j hi hj=>by
  unfold pairE refTab;show((keep.map fun v=>keep.map fun r=>rowB fun a b=>twoB n xs v a r b).getD i []).getD j 0=_;rw[hat _ _ i hi,hat _ _ j hj]
 have hall:∀ f,SolE n xs f→∀ i (hi:i<keep.length),twoB n xs keep[i] (f.getD keep[i] 0) keep[i] (f.getD keep[i] 0)=true:=fun f hf i hi=>(hself _ _).2 ⟨f,hf,rfl⟩
 have hl:∀ i (hi:i<keep.length),(1≤(refTab n xs keep).low.getD i 0∧(refTab n xs keep).low.getD i 0≤3)∧(twoB n xs keep[i] ((refTab n xs keep).low.getD i 0) keep[i] ((refTab n xs keep).low.getD i 0)=true)∧∀ f,SolE n xs f→(refTab n xs keep).low.getD i 0≤f.getD keep[i] 0:=fun i hi=>by
  rw[hlow i hi];unfold lowB
  have key:∀ f,SolE n xs f→f.getD keep[i] 0=1∨f.getD keep[i] 0=2∨f.getD keep[i] 0=3:=fun f hf=>by have:=hf.1.2 _ (hkn i hi); omega
  have hll:=hall low hs i hi
  by_cases p1:twoB n xs keep[i] 1 keep[i] 1=true
  · rw[if_pos p1]
    exact⟨by omega,p1,fun f hf=>by have:=key f hf; omega⟩
  · rw[if_neg p1]
    have n1:∀ f,SolE n xs f→f.getD keep[i] 0≠1:=fun f hf e=>p1 (by have:=hall f hf i hi; rwa [e] at this)
    by_cases p2:twoB n xs keep[i] 2 keep[i] 2=true
    · rw[if_pos p2]
      exact⟨by omega,p2,fun f hf=>by have:=key f hf; have:=n1 f hf; omega⟩
    · rw[if_neg p2]
      have n2:∀ f,SolE n xs f→f.getD keep[i] 0≠2:=fun f hf e=>p2 (by have:=hall f hf i hi; rwa [e] at this)
      have p3:twoB n xs keep[i] 3 keep[i] 3=true:=by
       have e3:low.getD keep[i] 0=3:=by have:=key low hs; have:=n1 low hs; have:=n2 low hs; omega
       rwa [e3] at hll
      rw[if_pos p3]
      exact⟨by omega,p3,fun f hf=>by have:=key f hf; have:=n1 f hf; have:=n2 f hf; omega⟩
 have hu:∀ i (hi:i<keep.length),(1≤(refTab n xs keep).up.getD i 0∧(refTab n xs keep).up.getD i 0≤3)∧(twoB n xs keep[i] ((refTab n xs keep).up.getD i 0) keep[i] ((refTab n xs keep).up.getD i 0)=true)∧∀ f,SolE n xs f→f.getD keep[i] 0≤(refTab n xs keep).up.getD i 0:=fun i hi=>by
  rw[hup i hi];unfold upB
  have key:∀ f,SolE n xs f→f.getD keep[i] 0=1∨f.getD keep[i] 0=2∨f.getD keep[i] 0=3:=fun f hf=>by have:=hf.1.2 _ (hkn i hi); omega
  have hll:=hall low hs i hi
  by_cases p1:twoB n xs keep[i] 3 keep[i] 3=true
  · rw[if_pos p1]
    exact⟨by omega,p1,fun f hf=>by have:=key f hf; omega⟩
  · rw[if_neg p1]
    have n1:∀ f,SolE n xs f→f.getD keep[i] 0≠3:=fun f hf e=>p1 (by have:=hall f hf i hi; rwa [e] at this)
    by_cases p2:twoB n xs keep[i] 2 keep[i] 2=true
    · rw[if_pos p2]
      exact⟨by omega,p2,fun f hf=>by have:=key f hf; have:=n1 f hf; omega⟩
    · rw[if_neg p2]
      have n2:∀ f,SolE n xs f→f.getD keep[i] 0≠2:=fun f hf e=>p2 (by have:=hall f hf i hi; rwa [e] at this)
      have p3:twoB n xs keep[i] 1 keep[i] 1=true:=by
       have e3:low.getD keep[i] 0=1:=by have:=key low hs; have:=n1 low hs; have:=n2 low hs; omega
       rwa [e3] at hll
      rw[if_pos p3]
      exact⟨by omega,p3,fun f hf=>by have:=key f hf; have:=n1 f hf; have:=n2 f hf; omega⟩
 have hp:∀ i j (hi:i<keep.length) (hj:j<keep.length),(1≤pairE (refTab n xs keep) i j∧pairE (refTab n xs keep) i j≤3)∧(pairE (refTab n xs keep) i j=1∨∃ f,SolE n xs f∧f.getD keep[i] 0=pairE (refTab n xs keep) i j∧f.getD keep[j] 0<f.getD keep[i] 0)∧∀ f,SolE n xs f→f.getD keep[i] 0≤max (pairE (refTab n xs keep) i j) (f.getD keep[j] 0):=fun i j hi hj=>by
  rw[hpair i j hi hj];unfold rowB;have ki:∀ f,SolE n xs f→1≤f.getD keep[i] 0∧f.getD keep[i] 0≤3:=fun f hf=>hf.1.2 _ (hkn i hi);have kj:∀ f,SolE n xs f→1≤f.getD keep[j] 0∧f.getD keep[j] 0≤3:=fun f hf=>hf.1.2 _ (hkn j hj)
  by_cases p1:(twoB n xs keep[i] 3 keep[j] 1 || twoB n xs keep[i] 3 keep[j] 2)=true
  · rw[if_pos p1]
    refine⟨by omega,.inr ?_,fun f hf=>by have:=ki f hf; omega⟩
    rcases(Bool.or_eq_true _ _).mp p1 with h | h
    · obtain⟨f,hf,e1,e2⟩:=twoB_iff.1 h
      exact⟨f,hf,e1,by omega⟩
    · obtain⟨f,hf,e1,e2⟩:=twoB_iff.1 h
      exact⟨f,hf,e1,by omega⟩
  · rw[if_neg p1]
    have n3:∀ f,SolE n xs f→f.getD keep[j] 0<f.getD keep[i] 0→f.getD keep[i] 0≠3:=fun f hf hlt e=>p1 (by
     have h1:=kj f hf;rw[Bool.or_eq_true]
     by_cases e1:f.getD keep[j] 0=1
     · exact .inl (twoB_iff.2 ⟨f,hf,e,e1⟩)
     · exact .inr (twoB_iff.2 ⟨f,hf,e,by omega⟩))
    by_cases p2:twoB n xs keep[i] 2 keep[j] 1=true
    · rw[if_pos p2]
      obtain⟨f,hf,e1,e2⟩:=twoB_iff.1 p2
      refine⟨by omega,.inr ⟨f,hf,e1,by omega⟩,fun f hf=>?_⟩
      have h1:=ki f hf;have h2:=n3 f hf;omega
    · rw[if_neg p2]
      refine⟨by omega,.inl rfl,fun f hf=>?_⟩
      have h1:=ki f hf;have h2:=n3 f hf;have h3:=kj f hf
      by_cases hc:f.getD keep[i] 0≤f.getD keep[j] 0
      · omega
      · exact absurd (twoB_iff.2 ⟨f,hf,by have:=h2 (by omega); omega,by have:=h2 (by omega); omega⟩) p2
 refine⟨by simp[refTab],by simp[refTab],by simp[refTab],fun i hi=>?_,fun i hi=>(hl i hi).1,fun i hi=>(hu i hi).1,fun i j hi hj=>(hp i j hi hj).1,fun a ha i hi=>?_,fun i hi=>?_,fun i hi=>?_,fun i j hi hj=>?_⟩
 · show((keep.map fun v=>keep.map fun r=>rowB fun a b=>twoB n xs v a r b).getD i []).length=_
   rw[hat _ _ i hi];simp
 · obtain⟨f,hf,rfl⟩:=ha
   rw[kept_at hi]
   exact⟨(hl i hi).2.2 f hf,(hu i hi).2.2 f hf,fun j hj=>by rw[kept_at hj]; exact(hp i j hi hj).2.2 f hf⟩
 · obtain⟨f,hf,e⟩:=(hself _ _).1 (hl i hi).2.1
   exact⟨_,⟨f,hf,rfl⟩,by rw[kept_at hi]; exact e⟩
 · obtain⟨f,hf,e⟩:=(hself _ _).1 (hu i hi).2.1
   exact⟨_,⟨f,hf,rfl⟩,by rw[kept_at hi]; exact e⟩
 · rcases(hp i j hi hj).2.1 with e | ⟨f,hf,e1,e2⟩
   · exact .inl e
   · exact .inr ⟨_,⟨f,hf,rfl⟩,by rw[kept_at hi]; exact e1,by rw[kept_at hi,kept_at hj]; exact e2⟩
theorem proj_ref {n:Nat} {xs:List IneqD} {low:List Int} {keep:List Nat} {t:TabD} (hw:WellE n xs) (hs:SolE n xs low) (hmin:∀ f,SolE n xs f→∀ v,v<n→low.getD v 0≤f.getD v 0) (hk:∀ v∈keep,v<n) (h:ProjE n xs low keep t):t=refTab n xs keep:=
 (proj_tab hw hs hmin hk h).unique (ref_tab hs hk)
end Go.Proofs.YtdmakpmbknindaaGreatDoor
namespace Go.Proofs.YtdmakpmbknindaaGreatDoor
open Go.RowKit
theorem refMay4_any (bb:Bool) (n:Int) (Aw:Option Addr) (nw cw:Nat) (low:List Int) (Al:Option Addr) (nl cl:Nat) (xs:List IneqD) (w:World) (hlw:RdI .u8 w w.heap.size Aw nw cw low) (hx:IneqsV w w.heap.size Al nl cl xs) (hbb:bb=true↔OkS n low xs):
 Calls Tryz.prog 50 #[.int .i64 n,.slice Aw nw cw,.slice Al nl cl] w fun e w'=>e=.returned (.bool bb)∧Below w.heap.size w w':=by
 have hno:¬ OkS n low xs→false=bb:=fun h=>by cases bb; rfl; exact absurd (hbb.1 rfl) h
 have hyes:OkS n low xs→true=bb:=fun h=>(hbb.2 h).symm;have Hno:=qq hno;have Hyes:=qq hyes;clear hno hyes hbb;have hll:=hlw.len;have hxl:=hx.len;have nw63:nw≤9223372036854775807:=Nat.le_trans hlw.2.1 hlw.2.2;have nl63:nl≤9223372036854775807:=Nat.le_trans hx.2.1 hx.2.2.1
 by_cases h3:n<0
 · have d3:decide (n<0)=true:=by simp; omega
   have HN:Hid (false=bb):=qq (Hno.out fun h=>by have:=h.n0; omega)
   clear hlw hx h3
   go_enter Tryz.func50,Tryz.ntmps50
   go_wp2_with fail;go_ret;exact⟨ret_bool HN.out,Below.refl _ _⟩
 · have d3:decide (n<0)=false:=by simp; omega
   by_cases h4:0<nw∧(nw:Int)≠n
   · have d4:decide ((nw:Int)>0)=true:=by simp; omega
     have d4':0<nw:=by omega
     have d5:((nw:Int) != n)=true:=by simp; omega
     have HN:Hid (false=bb):=qq (Hno.out fun h=>by rcases h.len with e | e; (rw[e] at hll; simp at hll; omega); omega)
     clear hlw hx h3 h4
     go_enter Tryz.func50,Tryz.ntmps50
     go_wp2_with fail;go_ret;exact⟨ret_bool HN.out,Below.refl _ _⟩
   · have HN0:Hid (0≤n):=qq (by omega)
     have HLen:Hid (low=[]∨(low.length:Int)=n):=qq (by
      by_cases h5:nw=0
      · exact Or.inl (List.eq_nil_of_length_eq_zero (by omega))
      · exact Or.inr (by omega))
     have Hlw:=qq hlw;have Hx:=qq hx;clear hlw hx
     by_cases h5:nw=0
     · subst h5
       clear h3 h4
       go_enter Tryz.func50,Tryz.ntmps50
       go_wp2_with fail
       go_loopg [7] 0 (fun gh i wr=>∃ k,k≤0∧gh=0 - k∧i=.int .i64 (k:Nat)∧(∀ (j:Nat) (h1:j<low.length),j<k→1≤low[j]∧low[j]≤3)∧wr=w)
       case atStart=>exact⟨0,Nat.zero_le _,rfl,rfl,fun j _ h=>absurd h (by omega),rfl⟩
       case round=>
        obtain⟨k,hk,rfl,rfl,hall,hwr⟩:=hrel;rw[hwr];clear hwr;have Hall:=qq hall;clear hall
        by_cases hkn:k<0
        · skip
          have k1:k<low.length:=by omega
          obtain⟨b,o,q,hb,hc⟩:=Hlw.out.at_ (by omega);subst q;have e0:=hc k k1
          have i1:(0:Int)≤(k:Int):=by omega
          have i2:(k:Int)<0:=by omega
          obtain⟨z,hz⟩:∃ z,low[k]=z:=⟨_,rfl⟩;rw[hz] at e0;have Hz:=qq hz;clear hz hc
          by_cases hz1:1≤z∧z≤3
          · have f1:decide (z<1)=false:=by simp; omega
            have f2:decide (z>3)=false:=by simp; omega
            have Hz1:=qq hz1;clear hz1;go_wp2_with fail;go_roundg (0 - (k+1))
            case measure=>omega
            case rel=>
             refine⟨k+1,by omega,rfl,by simp,fun j h1 hj=>?_,rfl⟩
             rcases Nat.lt_or_ge j k with h | h
             · exact Hall.out j h1 h
             · have:j=k:=by omega
               subst this
               rw[Hz.out]; exact Hz1.out
          · have HN:Hid (false=bb):=qq (Hno.out fun h=>by have:=h.rng _ (List.getElem_mem k1); rw[Hz.out] at this; omega)
            by_cases hz2:z<1
            · have f1:decide (z<1)=true:=by simp; omega
              clear hz1 hz2;go_wp2_with fail;go_ret;exact⟨ret_bool HN.out,Below.refl _ _⟩
            · have f1:decide (z<1)=false:=by simp; omega
              have f2:decide (z>3)=true:=by simp; omega
              clear hz1 hz2;go_wp2_with fail;go_ret;exact⟨ret_bool HN.out,Below.refl _ _⟩
        · have HR:Hid (∀ z∈low,1≤z∧z≤3):=qq fun z hz=>by
           obtain⟨j,hj,rfl⟩:=List.getElem_of_mem hz;exact Hall.out j hj (by omega)
          go_wp2_with fail
          go_loopg [8] nl (fun gh i wr=>∃ k,k≤nl∧gh=nl - k∧i=.int .i64 (k:Nat)∧(∀ (j:Nat) (h1:j<xs.length),j<k→mayL xs[j] n=true)∧Below w.heap.size w wr)
          case atStart=>exact⟨0,Nat.zero_le _,rfl,rfl,fun j _ h=>absurd h (by omega),Below.refl _ _⟩
          case round=>
           obtain⟨k,hk,rfl,rfl,hall,hbel⟩:=hrel;have Hall:=qq hall;have Hbel:=qq hbel;clear hall
           by_cases hkl:k<nl
           · have k1:k<xs.length:=by omega
             obtain⟨b,o,q,hb,hc⟩:=(Hx.out.below hbel).at_ (by omega);subst q;obtain⟨e0,e1,e2,e3⟩:=hc k k1
             have i1:(0:Int)≤(k:Int):=by omega
             have i2:(k:Int)<nl:=by omega
             obtain⟨x,hx⟩:∃ x,xs[k]=x:=⟨_,rfl⟩;rw[hx] at e0 e1 e2 e3;have Hxk:=qq hx;clear hx hc hbel
             have hN1:mayL x n=false→false=bb:=fun hm=>Hno.out fun h=>by have:=h.may _ (List.getElem_mem k1); rw[Hxk.out,hm] at this; cases this
             have HN1:=qq hN1;clear hN1
             have hml:mayL x n=(mayQ x.lv x.lc x.c x.r&&(x.lc != 0 || decide (x.lv<n))&&decide (x.r<n)):=rfl
             cases hm:mayQ x.lv x.lc x.c x.r
             · have HN:Hid (false=bb):=qq (HN1.out (by rw[hml,hm]; rfl))
               have Hm:=qq hm;clear hml hm;go_wp2_with fail;refine(refMayQ_any x.lv x.lc x.c x.r wr).mono ?_;rintro e w1 ⟨rfl,hb1⟩;rw[Hm.out];have hb9:=Hbel.out.trans (hb1.mono Hbel.out.size);obtain⟨_,_,q,_,hc⟩:=(Hx.out.below hb9).at_ (by omega)
               cases q
               obtain⟨e0,e1,e2,e3⟩:=hc k k1;rw[Hxk.out] at e0 e1 e2 e3;clear hb1 hc;go_wp2_with fail;go_ret;exact⟨ret_bool HN.out,hb9⟩
             · have Hm:=qq hm
               by_cases h0:x.lc=0
               · have g0:(x.lc==0)=true:=by simp[h0]
                 by_cases hv:x.lv<n
                 · have g1:decide (x.lv≥n)=false:=by simp; omega
                   by_cases hr:x.r<n
                   · have g2:decide (x.r≥n)=false:=by simp; omega
                     have Hy:Hid (mayL x n=true):=qq (by rw[hml,hm]; simp[hv,hr])
                     clear hml hm hv hr h0;go_wp2_with fail;refine(refMayQ_any x.lv x.lc x.c x.r wr).mono ?_;rintro e w1 ⟨rfl,hb1⟩;rw[Hm.out];have hb9:=Hbel.out.trans (hb1.mono Hbel.out.size);obtain⟨_,_,q,_,hc⟩:=(Hx.out.below hb9).at_ (by omega)
                     cases q
                     obtain⟨e0,e1,e2,e3⟩:=hc k k1;rw[Hxk.out] at e0 e1 e2 e3;clear hb1 hc;go_wp2_with fail;go_roundg (nl - (k+1))
                     case measure=>omega
                     case rel=>
                      refine⟨k+1,by omega,rfl,by simp,fun j h1 hj=>?_,hb9⟩
                      rcases Nat.lt_or_ge j k with h | h
                      · exact Hall.out j h1 h
                      · have:j=k:=by omega
                        subst this
                        rw[Hxk.out]; exact Hy.out
                   · have g2:decide (x.r≥n)=true:=by simp; omega
                     have HN:Hid (false=bb):=qq (HN1.out (by rw[hml,hm]; simp[hr]))
                     clear hml hm hv hr h0;go_wp2_with fail;refine(refMayQ_any x.lv x.lc x.c x.r wr).mono ?_;rintro e w1 ⟨rfl,hb1⟩;rw[Hm.out];have hb9:=Hbel.out.trans (hb1.mono Hbel.out.size);obtain⟨_,_,q,_,hc⟩:=(Hx.out.below hb9).at_ (by omega)
                     cases q
                     obtain⟨e0,e1,e2,e3⟩:=hc k k1;rw[Hxk.out] at e0 e1 e2 e3;clear hb1 hc;go_wp2_with fail;go_ret;exact⟨ret_bool HN.out,hb9⟩
                 · have g1:decide (x.lv≥n)=true:=by simp; omega
                   have HN:Hid (false=bb):=qq (HN1.out (by rw[hml,hm]; simp[hv,h0]))
                   clear hml hm hv h0;go_wp2_with fail;refine(refMayQ_any x.lv x.lc x.c x.r wr).mono ?_;rintro e w1 ⟨rfl,hb1⟩;rw[Hm.out];have hb9:=Hbel.out.trans (hb1.mono Hbel.out.size);obtain⟨_,_,q,_,hc⟩:=(Hx.out.below hb9).at_ (by omega)
                   cases q
                   obtain⟨e0,e1,e2,e3⟩:=hc k k1;rw[Hxk.out] at e0 e1 e2 e3;clear hb1 hc;go_wp2_with fail;go_ret;exact⟨ret_bool HN.out,hb9⟩
               · have g0:(x.lc==0)=false:=by simp[h0]
                 by_cases hr:x.r<n
                 · have g2:decide (x.r≥n)=false:=by simp; omega
                   have Hy:Hid (mayL x n=true):=qq (by rw[hml,hm]; simp[h0,hr])
                   clear hml hm hr h0;go_wp2_with fail;refine(refMayQ_any x.lv x.lc x.c x.r wr).mono ?_;rintro e w1 ⟨rfl,hb1⟩;rw[Hm.out];have hb9:=Hbel.out.trans (hb1.mono Hbel.out.size);obtain⟨_,_,q,_,hc⟩:=(Hx.out.below hb9).at_ (by omega)
                   cases q
                   obtain⟨e0,e1,e2,e3⟩:=hc k k1;rw[Hxk.out] at e0 e1 e2 e3;clear hb1 hc;go_wp2_with fail;go_roundg (nl - (k+1))
                   case measure=>omega
                   case rel=>
                    refine⟨k+1,by omega,rfl,by simp,fun j h1 hj=>?_,hb9⟩
                    rcases Nat.lt_or_ge j k with h | h
                    · exact Hall.out j h1 h
                    · have:j=k:=by omega
                      subst this
                      rw[Hxk.out]; exact Hy.out
                 · have g2:decide (x.r≥n)=true:=by simp; omega
                   have HN:Hid (false=bb):=qq (HN1.out (by rw[hml,hm]; simp[hr]))
                   clear hml hm hr h0;go_wp2_with fail;refine(refMayQ_any x.lv x.lc x.c x.r wr).mono ?_;rintro e w1 ⟨rfl,hb1⟩;rw[Hm.out];have hb9:=Hbel.out.trans (hb1.mono Hbel.out.size);obtain⟨_,_,q,_,hc⟩:=(Hx.out.below hb9).at_ (by omega)
                   cases q
                   obtain⟨e0,e1,e2,e3⟩:=hc k k1;rw[Hxk.out] at e0 e1 e2 e3;clear hb1 hc;go_wp2_with fail;go_ret;exact⟨ret_bool HN.out,hb9⟩
           · have HY:Hid (true=bb):=qq (Hyes.out ⟨HN0.out,HLen.out,fun x hx=>by
              obtain⟨j,hj,rfl⟩:=List.getElem_of_mem hx
              exact Hall.out j hj (by omega),HR.out⟩)
             clear hbel;go_wp2_with fail;go_ret;exact⟨ret_bool HY.out,Hbel.out⟩
     · have d4:decide ((nw:Int)>0)=true:=by simp; omega
       have d4':0<nw:=by omega
       have d5:((nw:Int) != n)=false:=by simp; omega
       clear h5;clear h3 h4
       go_enter Tryz.func50,Tryz.ntmps50
       go_wp2_with fail
       go_loopg [7] nw (fun gh i wr=>∃ k,k≤nw∧gh=nw - k∧i=.int .i64 (k:Nat)∧(∀ (j:Nat) (h1:j<low.length),j<k→1≤low[j]∧low[j]≤3)∧wr=w)
       case atStart=>exact⟨0,Nat.zero_le _,rfl,rfl,fun j _ h=>absurd h (by omega),rfl⟩
       case round=>
        obtain⟨k,hk,rfl,rfl,hall,hwr⟩:=hrel;rw[hwr];clear hwr;have Hall:=qq hall;clear hall
        by_cases hkn:k<nw
        · skip
          have k1:k<low.length:=by omega
          obtain⟨b,o,q,hb,hc⟩:=Hlw.out.at_ (by omega);subst q;have e0:=hc k k1
          have i1:(0:Int)≤(k:Int):=by omega
          have i2:(k:Int)<nw:=by omega
          obtain⟨z,hz⟩:∃ z,low[k]=z:=⟨_,rfl⟩;rw[hz] at e0;have Hz:=qq hz;clear hz hc
          by_cases hz1:1≤z∧z≤3
          · have f1:decide (z<1)=false:=by simp; omega
            have f2:decide (z>3)=false:=by simp; omega
            have Hz1:=qq hz1;clear hz1;go_wp2_with fail;go_roundg (nw - (k+1))
            case measure=>omega
            case rel=>
             refine⟨k+1,by omega,rfl,by simp,fun j h1 hj=>?_,rfl⟩
             rcases Nat.lt_or_ge j k with h | h
             · exact Hall.out j h1 h
             · have:j=k:=by omega
               subst this
               rw[Hz.out]; exact Hz1.out
          · have HN:Hid (false=bb):=qq (Hno.out fun h=>by have:=h.rng _ (List.getElem_mem k1); rw[Hz.out] at this; omega)
            by_cases hz2:z<1
            · have f1:decide (z<1)=true:=by simp; omega
              clear hz1 hz2;go_wp2_with fail;go_ret;exact⟨ret_bool HN.out,Below.refl _ _⟩
            · have f1:decide (z<1)=false:=by simp; omega
              have f2:decide (z>3)=true:=by simp; omega
              clear hz1 hz2;go_wp2_with fail;go_ret;exact⟨ret_bool HN.out,Below.refl _ _⟩
        · have HR:Hid (∀ z∈low,1≤z∧z≤3):=qq fun z hz=>by
           obtain⟨j,hj,rfl⟩:=List.getElem_of_mem hz;exact Hall.out j hj (by omega)
          go_wp2_with fail
          go_loopg [8] nl (fun gh i wr=>∃ k,k≤nl∧gh=nl - k∧i=.int .i64 (k:Nat)∧(∀ (j:Nat) (h1:j<xs.length),j<k→mayL xs[j] n=true)∧Below w.heap.size w wr)
          case atStart=>exact⟨0,Nat.zero_le _,rfl,rfl,fun j _ h=>absurd h (by omega),Below.refl _ _⟩
          case round=>
           obtain⟨k,hk,rfl,rfl,hall,hbel⟩:=hrel;have Hall:=qq hall;have Hbel:=qq hbel;clear hall
           by_cases hkl:k<nl
           · have k1:k<xs.length:=by omega
             obtain⟨b,o,q,hb,hc⟩:=(Hx.out.below hbel).at_ (by omega);subst q;obtain⟨e0,e1,e2,e3⟩:=hc k k1
             have i1:(0:Int)≤(k:Int):=by omega
             have i2:(k:Int)<nl:=by omega
             obtain⟨x,hx⟩:∃ x,xs[k]=x:=⟨_,rfl⟩;rw[hx] at e0 e1 e2 e3;have Hxk:=qq hx;clear hx hc hbel
             have hN1:mayL x n=false→false=bb:=fun hm=>Hno.out fun h=>by have:=h.may _ (List.getElem_mem k1); rw[Hxk.out,hm] at this; cases this
             have HN1:=qq hN1;clear hN1
             have hml:mayL x n=(mayQ x.lv x.lc x.c x.r&&(x.lc != 0 || decide (x.lv<n))&&decide (x.r<n)):=rfl
             cases hm:mayQ x.lv x.lc x.c x.r
             · have HN:Hid (false=bb):=qq (HN1.out (by rw[hml,hm]; rfl))
               have Hm:=qq hm;clear hml hm;go_wp2_with fail;refine(refMayQ_any x.lv x.lc x.c x.r wr).mono ?_;rintro e w1 ⟨rfl,hb1⟩;rw[Hm.out];have hb9:=Hbel.out.trans (hb1.mono Hbel.out.size);obtain⟨_,_,q,_,hc⟩:=(Hx.out.below hb9).at_ (by omega)
               cases q
               obtain⟨e0,e1,e2,e3⟩:=hc k k1;rw[Hxk.out] at e0 e1 e2 e3;clear hb1 hc;go_wp2_with fail;go_ret;exact⟨ret_bool HN.out,hb9⟩
             · have Hm:=qq hm
               by_cases h0:x.lc=0
               · have g0:(x.lc==0)=true:=by simp[h0]
                 by_cases hv:x.lv<n
                 · have g1:decide (x.lv≥n)=false:=by simp; omega
                   by_cases hr:x.r<n
                   · have g2:decide (x.r≥n)=false:=by simp; omega
                     have Hy:Hid (mayL x n=true):=qq (by rw[hml,hm]; simp[hv,hr])
                     clear hml hm hv hr h0;go_wp2_with fail;refine(refMayQ_any x.lv x.lc x.c x.r wr).mono ?_;rintro e w1 ⟨rfl,hb1⟩;rw[Hm.out];have hb9:=Hbel.out.trans (hb1.mono Hbel.out.size);obtain⟨_,_,q,_,hc⟩:=(Hx.out.below hb9).at_ (by omega)
                     cases q
                     obtain⟨e0,e1,e2,e3⟩:=hc k k1;rw[Hxk.out] at e0 e1 e2 e3;clear hb1 hc;go_wp2_with fail;go_roundg (nl - (k+1))
                     case measure=>omega
                     case rel=>
                      refine⟨k+1,by omega,rfl,by simp,fun j h1 hj=>?_,hb9⟩
                      rcases Nat.lt_or_ge j k with h | h
                      · exact Hall.out j h1 h
                      · have:j=k:=by omega
                        subst this
                        rw[Hxk.out]; exact Hy.out
                   · have g2:decide (x.r≥n)=true:=by simp; omega
                     have HN:Hid (false=bb):=qq (HN1.out (by rw[hml,hm]; simp[hr]))
                     clear hml hm hv hr h0;go_wp2_with fail;refine(refMayQ_any x.lv x.lc x.c x.r wr).mono ?_;rintro e w1 ⟨rfl,hb1⟩;rw[Hm.out];have hb9:=Hbel.out.trans (hb1.mono Hbel.out.size);obtain⟨_,_,q,_,hc⟩:=(Hx.out.below hb9).at_ (by omega)
                     cases q
                     obtain⟨e0,e1,e2,e3⟩:=hc k k1;rw[Hxk.out] at e0 e1 e2 e3;clear hb1 hc;go_wp2_with fail;go_ret;exact⟨ret_bool HN.out,hb9⟩
                 · have g1:decide (x.lv≥n)=true:=by simp; omega
                   have HN:Hid (false=bb):=qq (HN1.out (by rw[hml,hm]; simp[hv,h0]))
                   clear hml hm hv h0;go_wp2_with fail;refine(refMayQ_any x.lv x.lc x.c x.r wr).mono ?_;rintro e w1 ⟨rfl,hb1⟩;rw[Hm.out];have hb9:=Hbel.out.trans (hb1.mono Hbel.out.size);obtain⟨_,_,q,_,hc⟩:=(Hx.out.below hb9).at_ (by omega)
                   cases q
                   obtain⟨e0,e1,e2,e3⟩:=hc k k1;rw[Hxk.out] at e0 e1 e2 e3;clear hb1 hc;go_wp2_with fail;go_ret;exact⟨ret_bool HN.out,hb9⟩
               · have g0:(x.lc==0)=false:=by simp[h0]
                 by_cases hr:x.r<n
                 · have g2:decide (x.r≥n)=false:=by simp; omega
                   have Hy:Hid (mayL x n=true):=qq (by rw[hml,hm]; simp[h0,hr])
                   clear hml hm hr h0;go_wp2_with fail;refine(refMayQ_any x.lv x.lc x.c x.r wr).mono ?_;rintro e w1 ⟨rfl,hb1⟩;rw[Hm.out];have hb9:=Hbel.out.trans (hb1.mono Hbel.out.size);obtain⟨_,_,q,_,hc⟩:=(Hx.out.below hb9).at_ (by omega)
                   cases q
                   obtain⟨e0,e1,e2,e3⟩:=hc k k1;rw[Hxk.out] at e0 e1 e2 e3;clear hb1 hc;go_wp2_with fail;go_roundg (nl - (k+1))
                   case measure=>omega
                   case rel=>
                    refine⟨k+1,by omega,rfl,by simp,fun j h1 hj=>?_,hb9⟩
                    rcases Nat.lt_or_ge j k with h | h
                    · exact Hall.out j h1 h
                    · have:j=k:=by omega
                      subst this
                      rw[Hxk.out]; exact Hy.out
                 · have g2:decide (x.r≥n)=true:=by simp; omega
                   have HN:Hid (false=bb):=qq (HN1.out (by rw[hml,hm]; simp[hr]))
                   clear hml hm hr h0;go_wp2_with fail;refine(refMayQ_any x.lv x.lc x.c x.r wr).mono ?_;rintro e w1 ⟨rfl,hb1⟩;rw[Hm.out];have hb9:=Hbel.out.trans (hb1.mono Hbel.out.size);obtain⟨_,_,q,_,hc⟩:=(Hx.out.below hb9).at_ (by omega)
                   cases q
                   obtain⟨e0,e1,e2,e3⟩:=hc k k1;rw[Hxk.out] at e0 e1 e2 e3;clear hb1 hc;go_wp2_with fail;go_ret;exact⟨ret_bool HN.out,hb9⟩
           · have HY:Hid (true=bb):=qq (Hyes.out ⟨HN0.out,HLen.out,fun x hx=>by
              obtain⟨j,hj,rfl⟩:=List.getElem_of_mem hx
              exact Hall.out j hj (by omega),HR.out⟩)
             clear hbel;go_wp2_with fail;go_ret;exact⟨ret_bool HY.out,Hbel.out⟩
end Go.Proofs.YtdmakpmbknindaaGreatDoor
