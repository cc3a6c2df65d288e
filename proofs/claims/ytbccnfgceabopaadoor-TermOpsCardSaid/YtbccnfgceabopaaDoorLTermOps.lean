/- TermOps holds for every input: what may be, what is joined, summed, scaled, and told as a text, of any two terms and any multiplicity, is the document's. Conditions: the variables that the row lists are laid as the program's text lays them. -/
import Derived.Test.YtbccnfgceabopaaDoorLawU
import Derived.Test.YtbccnfgceabopaaDoorRefW
import Derived.Test.YtbccnfgceabopaaDoorRefI
import Derived.Test.YtbccnfgceabopaaDoorRefSc
import Derived.Test.YtbccnfgceabopaaDoorRefTx
import Derived.Test.YtbccnfgceabopaaDoorRowD
import Derived.BigQuiet
import Derived.Lib.QuietBelow
import Derived.Deep.RegionHeld3
import Derived.Deep.DrawnRows
namespace Go.Proofs.YtbccnfgceabopaaDoor
set_option linter.unusedVariables false
set_option linter.unusedSimpArgs false
open Go.ChangeShapes Go.WideShapes Go.ChangeAt Go.RowKit
attribute [local go_sem ↓] Go.wp_at_zero Go.wp_at_succ

theorem may_at (v : Value) (t : TermD) (x : Int) (hx : mayE t = x) (w : World) (B : Nat) (hv : TermV w B v t) (hB : B ≤ w.heap.size) :
    Calls Tryd.prog 35 #[v] w fun e w' => e = .returned (.int .i64 x) ∧ Below w.heap.size w w' := by
  rw [← hx]; exact may_any v t w B hv hB
theorem refMay_at (v : Value) (t : TermD) (x : Bool) (hx : mayB t = x) (w : World) (B : Nat) (hv : TermV w B v t) (hB : B ≤ w.heap.size) :
    Calls Tryd.prog 22 #[v] w fun e w' => e = .returned (.bool x) ∧ Below w.heap.size w w' := by
  rw [← hx]; exact refMay_t v t w B hv hB
theorem is_at (c v : Int) (x : Int) (hx : isE c v = x) (w : World) :
    Calls Tryd.prog 36 #[.agg #[.int .i64 v, .int .u8 c]] w fun e w' => e = .returned (.int .i64 x) ∧ Below w.heap.size w w' := by
  rw [← hx]; exact is_any c v w
theorem refIs_at (c v : Int) (x : Bool) (hx : isB c v = x) (w : World) :
    Calls Tryd.prog 23 #[.agg #[.int .i64 v, .int .u8 c]] w fun e w' => e = .returned (.bool x) ∧ Below w.heap.size w w' := by
  rw [← hx]; exact refIs_any c v w
theorem same_at (v1 v2 : Value) (a b : TermD) (x : Bool) (hx : sameB a b = x) (w : World) (B B' : Nat) (h1 : TermV w B v1 a) (h2 : TermV w B' v2 b) (hB : B ≤ w.heap.size) (hB' : B' ≤ w.heap.size) :
    Calls Tryd.prog 37 #[v1, v2] w fun e w' => e = .returned (.bool x) ∧ Below w.heap.size w w' := by
  rw [← hx]; exact same_any v1 v2 a b w B B' h1 h2 hB hB'
theorem refSame_at (v1 v2 : Value) (a b : TermD) (x : Bool) (hx : sameB a b = x) (w : World) (B B' : Nat) (h1 : TermV w B v1 a) (h2 : TermV w B' v2 b) (hB : B ≤ w.heap.size) (hB' : B' ≤ w.heap.size) :
    Calls Tryd.prog 38 #[v1, v2] w fun e w' => e = .returned (.bool x) ∧ Below w.heap.size w w' := by
  rw [← hx]; exact refSame_any v1 v2 a b w B B' h1 h2 hB hB'
theorem refText_at (v : Value) (t : TermD) (ht : mayB t = true) (w : World) (B : Nat) (hv : TermV w B v t) (hB : B ≤ w.heap.size) (hbig : t.vars.length ≤ 1099511627776) :
    Calls Tryd.prog 41 #[v] w fun e w' => e = .returned (.string (textT t)) ∧ Below w.heap.size w w' := by
  rw [← text_eq ht]
  refine refText_t v t w B hv hB hbig fun v hv => ?_
  rcases (may_iff t).1 ht with h | h
  · rw [h.2.2] at hv; simp at hv
  · have := h.2.2.2.2.2 v hv; omega
theorem text_at_t (v : Value) (t : TermD) (ht : mayB t = true) (w : World) (B : Nat) (hv : TermV w B v t) (hB : B ≤ w.heap.size) (htab : Tab w) (hbig : t.vars.length ≤ 1099511627776) :
    Calls Tryd.prog 33 #[v] w fun e w' => e = .returned (.string (textT t)) ∧ Below w.heap.size w w' := by
  refine text_any_t v t w B hv hB htab hbig fun v hv => ?_
  rcases (may_iff t).1 ht with h | h
  · rw [h.2.2] at hv; simp at hv
  · have := h.2.2.2.2.2 v hv; omega
theorem scale_any_t (c v : Int) (tv : Value) (t : TermD) (w : World) (B : Nat) (hv : TermV w B tv t) (hB : B ≤ w.heap.size) (hbig : t.vars.length ≤ 1099511627776) :
    Calls Tryd.prog 31 #[.agg #[.int .i64 v, .int .u8 c], tv] w (RetTE (if isB c v && mayB t then scaleT c v t else zeroT) (if isB c v && mayB t then 0 else 2) w) := by
  cases h : (isB c v && mayB t)
  · exact scaleT_no c v tv t w B hv hB h
  · rw [Bool.and_eq_true] at h
    exact scaleT_yes c v tv t w B hv hB h.1 h.2 hbig

set_option maxHeartbeats 4000000 in
set_option maxRecDepth 100000 in
theorem walkA_termOps (A : Option Addr) (n c : Nat) (a : TermD) (A2 : Option Addr) (n2 c2 : Nat) (b : TermD) (V C : Int) (w : World)
    (hr : RdI .i64 w w.heap.size A n c a.vars) (hr2 : RdI .i64 w w.heap.size A2 n2 c2 b.vars) (htab : Tab w) :
    Calls Tryd.prog 10 #[.agg #[.bool a.never, .int .u8 a.c, .slice A n c], .agg #[.bool b.never, .int .u8 b.c, .slice A2 n2 c2], .agg #[.int .i64 V, .int .u8 C]] w fun e w' => e = .returned (.bool true) ∧ Below w.heap.size w w' := by
  have st1 := (St.start w).new a hr
  have st2 := st1.new b (st1.rd hr2)
  have st := st2.alloc (Obj.cells #[.int .i64 V, .int .u8 C] 31)
  have hmu := blk_new ((w.alloc (Obj.cells #[.bool a.never, .int .u8 a.c, .slice A n c] 25)).alloc (Obj.cells #[.bool b.never, .int .u8 b.c, .slice A2 n2 c2] 25)) #[.int .i64 V, .int .u8 C] 31
  rw [World.size_alloc, World.size_alloc] at hmu
  rw [World.size_alloc] at st
  have hz : (((w.alloc (Obj.cells #[.bool a.never, .int .u8 a.c, .slice A n c] 25)).alloc (Obj.cells #[.bool b.never, .int .u8 b.c, .slice A2 n2 c2] 25)).alloc (Obj.cells #[.int .i64 V, .int .u8 C] 31)).heap.size = w.heap.size + 1 + 1 + 1 := by simp
  have hr1 := st.rd hr
  have hr3 := st.rd hr2
  obtain ⟨G, hG⟩ : ∃ G, greatB [a, b] = G := ⟨_, rfl⟩
  have hgr := great2_any hr1 hr3
  rw [hG] at hgr
  have HG := Lib.hid hG
  have Hgr := Lib.hid hgr
  have Hst := Lib.hid st
  have Hmu := Lib.hid hmu
  have Htab := Lib.hid htab
  clear hG hgr hr st hr1 hr2 hr3 hmu st1 st2 htab
  go_enter Tryd.func10, Tryd.ntmps10
  go_wp2_with fail
  rw [← hz]
  refine Hgr.out.mono ?_; rintro e w2 ⟨rfl, hb2⟩
  have st := Hst.out.below hb2
  have hmu := Hmu.out.below hb2 Hmu.out.lt
  clear Hst hb2 Hgr hz Hmu
  generalize w.heap.size = g3 at st hmu ⊢
  cases G
  · generalize hg4 : g3 + 1 = g4 at st hmu ⊢
    generalize hg5 : g4 + 1 = g5 at hmu ⊢
    clear hg4 hg5
    have HG' := HG.out
    obtain ⟨X, hX⟩ : ∃ X, sameB a b = X := ⟨_, rfl⟩
    have HX := Lib.hid hX
    clear hX
    cases hma : mayB a
    · cases hib : isB C V
      ·
        have Hma := Lib.hid hma
        have Hib := Lib.hid hib
        clear hma hib
        obtain ⟨A1, n1, c1, x0, x1, x2, hr1⟩ := st.val g3 a (by simp)
        go_wp2_with fail
        refine (refMay_at (.agg #[.bool (a).never, .int .u8 (a).c, .slice A1 n1 c1]) a false Hma.out w2 _ ⟨A1, n1, c1, rfl, hr1⟩ (Nat.le_refl _)).mono ?_; rintro e w3 ⟨rfl, hb3⟩
        replace st := st.below hb3
        replace hmu := hmu.below hb3 hmu.lt
        clear hb3 x0 x1 x2 hr1
        obtain ⟨A1, n1, c1, x0, x1, x2, hr1⟩ := st.val g3 a (by simp)
        obtain ⟨A2', n2', c2', y0, y1, y2, hr2⟩ := st.val g4 b (by simp)
        have l3 := st.lt g3 a (by simp)
        have l4 := st.lt g4 b (by simp)
        have l5 : g5 < w3.heap.size := hmu.lt
        have m0 : w3.cell? ⟨g5, 0, none⟩ = some (.int .i64 V) := hmu.cell 0
        have m1 : w3.cell? ⟨g5, 1, none⟩ = some (.int .u8 C) := hmu.cell 1
        have kx0 := fun d os => cell_regrown x0 d os
        have kx1 := fun d os => cell_regrown x1 d os
        have kx2 := fun d os => cell_regrown x2 d os
        have ky0 := fun d os => cell_regrown y0 d os
        have ky1 := fun d os => cell_regrown y1 d os
        have ky2 := fun d os => cell_regrown y2 d os
        have km0 := fun d os => cell_regrown m0 d os
        have km1 := fun d os => cell_regrown m1 d os
        clear x0 x1 x2 y0 y1 y2 m0 m1
        have hme : Hid (mayE a = 2) := Lib.hid (by unfold mayE; rw [Hma.out]; rfl)
        have hie : Hid (isE C V = 2) := Lib.hid (by unfold isE; rw [Hib.out]; rfl)
        go_wp2_with fail
        refine wp_region_quiet_below (by kernel_rfl) (by kernel_rfl) ?_
        repeat (go_big_quiet_step ((first | (go_at_call 35; exact Calls.regrown_of (may_at (.agg #[.bool (a).never, .int .u8 (a).c, .slice A1 n1 c1]) a 2 hme.out _ w3.heap.size ⟨A1, n1, c1, rfl, hr1.below (below_regrown _ _ _)⟩ (below_regrown _ _ _).size)) | (go_at_call 36; exact Calls.regrown_of (is_at C V 2 hie.out _)) | (go_at_call 23; exact Calls.regrown_of (refIs_at C V false Hib.out _)) | (go_at_call_of 37 (Value.agg #[.bool (b).never, .int .u8 (b).c, .slice A2' n2' c2']); exact Calls.regrown_of (same_at (.agg #[.bool (a).never, .int .u8 (a).c, .slice A1 n1 c1]) (.agg #[.bool (b).never, .int .u8 (b).c, .slice A2' n2' c2']) a b X HX.out _ w3.heap.size w3.heap.size ⟨A1, n1, c1, rfl, hr1.below (below_regrown _ _ _)⟩ ⟨A2', n2', c2', rfl, hr2.below (below_regrown _ _ _)⟩ (below_regrown _ _ _).size (below_regrown _ _ _).size)) | (go_at_call 37; exact Calls.regrown_of (same_at (.agg #[.bool (a).never, .int .u8 (a).c, .slice A1 n1 c1]) (.agg #[.bool (a).never, .int .u8 (a).c, .slice A1 n1 c1]) a a true ((sameB_iff _ _).2 rfl) _ w3.heap.size w3.heap.size ⟨A1, n1, c1, rfl, hr1.below (below_regrown _ _ _)⟩ ⟨A1, n1, c1, rfl, hr1.below (below_regrown _ _ _)⟩ (below_regrown _ _ _).size (below_regrown _ _ _).size)) | (go_at_call 38; exact Calls.regrown_of (refSame_at (.agg #[.bool (a).never, .int .u8 (a).c, .slice A1 n1 c1]) (.agg #[.bool (b).never, .int .u8 (b).c, .slice A2' n2' c2']) a b X HX.out _ w3.heap.size w3.heap.size ⟨A1, n1, c1, rfl, hr1.below (below_regrown _ _ _)⟩ ⟨A2', n2', c2', rfl, hr2.below (below_regrown _ _ _)⟩ (below_regrown _ _ _).size (below_regrown _ _ _).size)))))
        refine wpQuiet_nil ?_
        intro _ hw'
        obtain ⟨⟨dq, osq⟩, hw''⟩ := hw'
        subst hw''
        have hbq := below_regrown w3 dq osq
        generalize Go.Sort.grow (redrawn w3 dq) osq = w4 at hbq ⊢
        replace st := st.below hbq
        replace hmu := hmu.below hbq hmu.lt
        clear hbq hr1 hr2 l3 l4 l5 kx0 kx1 kx2 ky0 ky1 ky2 km0 km1
        have Hsc : Hid ((isB C V && mayB a) = false) := Lib.hid (by rw [Hib.out, Hma.out]; rfl)
        have Hall : Hid (allMay [a, b] = false) := Lib.hid (by simp [allMay, Hma.out])
        obtain ⟨A1, n1, c1, x0, x1, x2, hr1⟩ := st.val g3 a (by simp)
        obtain ⟨A2', n2', c2', y0, y1, y2, hr2⟩ := st.val g4 b (by simp)
        have l3 := st.lt g3 a (by simp)
        have l4 := st.lt g4 b (by simp)
        have l5 : g5 < w4.heap.size := hmu.lt
        have m0 : w4.cell? ⟨g5, 0, none⟩ = some (.int .i64 V) := hmu.cell 0
        have m1 : w4.cell? ⟨g5, 1, none⟩ = some (.int .u8 C) := hmu.cell 1
        go_wp2_with fail
        refine (join2_any hr1 hr2 HG').mono ?_
        rintro e w5 ⟨A5, n5, c5, rfl, hr5, hbx⟩
        rw [Hall.out] at hr5 ⊢
        simp only [Bool.false_eq_true, if_false] at hr5 ⊢
        replace st := st.below hbx
        replace hmu := hmu.below hbx hmu.lt
        clear hbx
        clear x0 x1 x2 y0 y1 y2 m0 m1 l3 l4 l5 hr1 hr2
        obtain ⟨A1, n1, c1, x0, x1, x2, hr1⟩ := st.val g3 a (by simp)
        obtain ⟨A2', n2', c2', y0, y1, y2, hr2⟩ := st.val g4 b (by simp)
        have l3 := st.lt g3 a (by simp)
        have l4 := st.lt g4 b (by simp)
        have l5 : g5 < w5.heap.size := hmu.lt
        have m0 : w5.cell? ⟨g5, 0, none⟩ = some (.int .i64 V) := hmu.cell 0
        have m1 : w5.cell? ⟨g5, 1, none⟩ = some (.int .u8 C) := hmu.cell 1
        go_wp2_with fail
        replace st := st.new (zeroT) hr5
        replace hmu := hmu.below (below_box (Obj.cells #[.bool (zeroT).never, .int .u8 (zeroT).c, .slice A5 n5 c5] 25)) hmu.lt
        have hz6 : (w5.alloc (Obj.cells #[.bool (zeroT).never, .int .u8 (zeroT).c, .slice A5 n5 c5] 25)).heap.size = w5.heap.size + 1 := by simp
        replace hr1 := hr1.fresh (below_box (Obj.cells #[.bool (zeroT).never, .int .u8 (zeroT).c, .slice A5 n5 c5] 25)) (Nat.le_refl _)
        replace hr2 := hr2.fresh (below_box (Obj.cells #[.bool (zeroT).never, .int .u8 (zeroT).c, .slice A5 n5 c5] 25)) (Nat.le_refl _)
        clear x0 x1 x2 y0 y1 y2 l3 l4 m0 m1 l5
        generalize w5.alloc (Obj.cells #[.bool (zeroT).never, .int .u8 (zeroT).c, .slice A5 n5 c5] 25) = w6 at st hmu hz6 hr1 hr2 ⊢
        try rw [← hz6]
        generalize w5.heap.size = g8 at st hz6 ⊢
        clear hr5 hz6
        refine (sum2_any hr1 hr2 HG').mono ?_
        rintro e w7 ⟨A7, n7, c7, rfl, hr5, hbx⟩
        rw [Hall.out] at hr5 ⊢
        simp only [Bool.false_eq_true, if_false] at hr5 ⊢
        replace st := st.below hbx
        replace hmu := hmu.below hbx hmu.lt
        clear hbx
        clear hr1 hr2
        obtain ⟨A1, n1, c1, x0, x1, x2, hr1⟩ := st.val g3 a (by simp)
        obtain ⟨A2', n2', c2', y0, y1, y2, hr2⟩ := st.val g4 b (by simp)
        have l3 := st.lt g3 a (by simp)
        have l4 := st.lt g4 b (by simp)
        have l5 : g5 < w7.heap.size := hmu.lt
        have m0 : w7.cell? ⟨g5, 0, none⟩ = some (.int .i64 V) := hmu.cell 0
        have m1 : w7.cell? ⟨g5, 1, none⟩ = some (.int .u8 C) := hmu.cell 1
        go_wp2_with fail
        replace st := st.new (zeroT) hr5
        replace hmu := hmu.below (below_box (Obj.cells #[.bool (zeroT).never, .int .u8 (zeroT).c, .slice A7 n7 c7] 25)) hmu.lt
        have hz6 : (w7.alloc (Obj.cells #[.bool (zeroT).never, .int .u8 (zeroT).c, .slice A7 n7 c7] 25)).heap.size = w7.heap.size + 1 := by simp
        replace hr1 := hr1.fresh (below_box (Obj.cells #[.bool (zeroT).never, .int .u8 (zeroT).c, .slice A7 n7 c7] 25)) (Nat.le_refl _)
        replace hr2 := hr2.fresh (below_box (Obj.cells #[.bool (zeroT).never, .int .u8 (zeroT).c, .slice A7 n7 c7] 25)) (Nat.le_refl _)
        clear x0 x1 x2 y0 y1 y2 l3 l4 m0 m1 l5
        generalize w7.alloc (Obj.cells #[.bool (zeroT).never, .int .u8 (zeroT).c, .slice A7 n7 c7] 25) = w8 at st hmu hz6 hr1 hr2 ⊢
        try rw [← hz6]
        generalize w7.heap.size = g10 at st hz6 ⊢
        clear hr5 hz6
        refine (scale_any_t C V (.agg #[.bool (a).never, .int .u8 (a).c, .slice A1 n1 c1]) a w8 _ ⟨A1, n1, c1, rfl, hr1⟩ (Nat.le_refl _) (Nat.le_trans (great_vars HG' a (by simp)) (by omega))).mono ?_
        rintro e w9 ⟨A9, n9, c9, rfl, hr5, hbx⟩
        rw [Hsc.out] at hr5 ⊢
        simp only [Bool.false_eq_true, if_false] at hr5 ⊢
        replace st := st.below hbx
        replace hmu := hmu.below hbx hmu.lt
        clear hbx
        clear hr1 hr2
        replace st := st.new (zeroT) hr5
        go_wp2_with fail
        refine (works_any _).mono ?_; rintro e w11 ⟨rfl, hbx⟩
        go_wp2_with fail
        go_ret
        exact ⟨rfl, (st.below hbx).bel⟩
      ·
        have Hma := Lib.hid hma
        have Hib := Lib.hid hib
        clear hma hib
        obtain ⟨A1, n1, c1, x0, x1, x2, hr1⟩ := st.val g3 a (by simp)
        go_wp2_with fail
        refine (refMay_at (.agg #[.bool (a).never, .int .u8 (a).c, .slice A1 n1 c1]) a false Hma.out w2 _ ⟨A1, n1, c1, rfl, hr1⟩ (Nat.le_refl _)).mono ?_; rintro e w3 ⟨rfl, hb3⟩
        replace st := st.below hb3
        replace hmu := hmu.below hb3 hmu.lt
        clear hb3 x0 x1 x2 hr1
        obtain ⟨A1, n1, c1, x0, x1, x2, hr1⟩ := st.val g3 a (by simp)
        obtain ⟨A2', n2', c2', y0, y1, y2, hr2⟩ := st.val g4 b (by simp)
        have l3 := st.lt g3 a (by simp)
        have l4 := st.lt g4 b (by simp)
        have l5 : g5 < w3.heap.size := hmu.lt
        have m0 : w3.cell? ⟨g5, 0, none⟩ = some (.int .i64 V) := hmu.cell 0
        have m1 : w3.cell? ⟨g5, 1, none⟩ = some (.int .u8 C) := hmu.cell 1
        have kx0 := fun d os => cell_regrown x0 d os
        have kx1 := fun d os => cell_regrown x1 d os
        have kx2 := fun d os => cell_regrown x2 d os
        have ky0 := fun d os => cell_regrown y0 d os
        have ky1 := fun d os => cell_regrown y1 d os
        have ky2 := fun d os => cell_regrown y2 d os
        have km0 := fun d os => cell_regrown m0 d os
        have km1 := fun d os => cell_regrown m1 d os
        clear x0 x1 x2 y0 y1 y2 m0 m1
        have hme : Hid (mayE a = 2) := Lib.hid (by unfold mayE; rw [Hma.out]; rfl)
        have hie : Hid (isE C V = 0) := Lib.hid (by unfold isE; rw [Hib.out]; rfl)
        go_wp2_with fail
        refine wp_region_quiet_below (by kernel_rfl) (by kernel_rfl) ?_
        repeat (go_big_quiet_step ((first | (go_at_call 35; exact Calls.regrown_of (may_at (.agg #[.bool (a).never, .int .u8 (a).c, .slice A1 n1 c1]) a 2 hme.out _ w3.heap.size ⟨A1, n1, c1, rfl, hr1.below (below_regrown _ _ _)⟩ (below_regrown _ _ _).size)) | (go_at_call 36; exact Calls.regrown_of (is_at C V 0 hie.out _)) | (go_at_call 23; exact Calls.regrown_of (refIs_at C V true Hib.out _)) | (go_at_call_of 37 (Value.agg #[.bool (b).never, .int .u8 (b).c, .slice A2' n2' c2']); exact Calls.regrown_of (same_at (.agg #[.bool (a).never, .int .u8 (a).c, .slice A1 n1 c1]) (.agg #[.bool (b).never, .int .u8 (b).c, .slice A2' n2' c2']) a b X HX.out _ w3.heap.size w3.heap.size ⟨A1, n1, c1, rfl, hr1.below (below_regrown _ _ _)⟩ ⟨A2', n2', c2', rfl, hr2.below (below_regrown _ _ _)⟩ (below_regrown _ _ _).size (below_regrown _ _ _).size)) | (go_at_call 37; exact Calls.regrown_of (same_at (.agg #[.bool (a).never, .int .u8 (a).c, .slice A1 n1 c1]) (.agg #[.bool (a).never, .int .u8 (a).c, .slice A1 n1 c1]) a a true ((sameB_iff _ _).2 rfl) _ w3.heap.size w3.heap.size ⟨A1, n1, c1, rfl, hr1.below (below_regrown _ _ _)⟩ ⟨A1, n1, c1, rfl, hr1.below (below_regrown _ _ _)⟩ (below_regrown _ _ _).size (below_regrown _ _ _).size)) | (go_at_call 38; exact Calls.regrown_of (refSame_at (.agg #[.bool (a).never, .int .u8 (a).c, .slice A1 n1 c1]) (.agg #[.bool (b).never, .int .u8 (b).c, .slice A2' n2' c2']) a b X HX.out _ w3.heap.size w3.heap.size ⟨A1, n1, c1, rfl, hr1.below (below_regrown _ _ _)⟩ ⟨A2', n2', c2', rfl, hr2.below (below_regrown _ _ _)⟩ (below_regrown _ _ _).size (below_regrown _ _ _).size)))))
        refine wpQuiet_nil ?_
        intro _ hw'
        obtain ⟨⟨dq, osq⟩, hw''⟩ := hw'
        subst hw''
        have hbq := below_regrown w3 dq osq
        generalize Go.Sort.grow (redrawn w3 dq) osq = w4 at hbq ⊢
        replace st := st.below hbq
        replace hmu := hmu.below hbq hmu.lt
        clear hbq hr1 hr2 l3 l4 l5 kx0 kx1 kx2 ky0 ky1 ky2 km0 km1
        have Hsc : Hid ((isB C V && mayB a) = false) := Lib.hid (by rw [Hib.out, Hma.out]; rfl)
        have Hall : Hid (allMay [a, b] = false) := Lib.hid (by simp [allMay, Hma.out])
        obtain ⟨A1, n1, c1, x0, x1, x2, hr1⟩ := st.val g3 a (by simp)
        obtain ⟨A2', n2', c2', y0, y1, y2, hr2⟩ := st.val g4 b (by simp)
        have l3 := st.lt g3 a (by simp)
        have l4 := st.lt g4 b (by simp)
        have l5 : g5 < w4.heap.size := hmu.lt
        have m0 : w4.cell? ⟨g5, 0, none⟩ = some (.int .i64 V) := hmu.cell 0
        have m1 : w4.cell? ⟨g5, 1, none⟩ = some (.int .u8 C) := hmu.cell 1
        go_wp2_with fail
        refine (join2_any hr1 hr2 HG').mono ?_
        rintro e w5 ⟨A5, n5, c5, rfl, hr5, hbx⟩
        rw [Hall.out] at hr5 ⊢
        simp only [Bool.false_eq_true, if_false] at hr5 ⊢
        replace st := st.below hbx
        replace hmu := hmu.below hbx hmu.lt
        clear hbx
        clear x0 x1 x2 y0 y1 y2 m0 m1 l3 l4 l5 hr1 hr2
        obtain ⟨A1, n1, c1, x0, x1, x2, hr1⟩ := st.val g3 a (by simp)
        obtain ⟨A2', n2', c2', y0, y1, y2, hr2⟩ := st.val g4 b (by simp)
        have l3 := st.lt g3 a (by simp)
        have l4 := st.lt g4 b (by simp)
        have l5 : g5 < w5.heap.size := hmu.lt
        have m0 : w5.cell? ⟨g5, 0, none⟩ = some (.int .i64 V) := hmu.cell 0
        have m1 : w5.cell? ⟨g5, 1, none⟩ = some (.int .u8 C) := hmu.cell 1
        go_wp2_with fail
        replace st := st.new (zeroT) hr5
        replace hmu := hmu.below (below_box (Obj.cells #[.bool (zeroT).never, .int .u8 (zeroT).c, .slice A5 n5 c5] 25)) hmu.lt
        have hz6 : (w5.alloc (Obj.cells #[.bool (zeroT).never, .int .u8 (zeroT).c, .slice A5 n5 c5] 25)).heap.size = w5.heap.size + 1 := by simp
        replace hr1 := hr1.fresh (below_box (Obj.cells #[.bool (zeroT).never, .int .u8 (zeroT).c, .slice A5 n5 c5] 25)) (Nat.le_refl _)
        replace hr2 := hr2.fresh (below_box (Obj.cells #[.bool (zeroT).never, .int .u8 (zeroT).c, .slice A5 n5 c5] 25)) (Nat.le_refl _)
        clear x0 x1 x2 y0 y1 y2 l3 l4 m0 m1 l5
        generalize w5.alloc (Obj.cells #[.bool (zeroT).never, .int .u8 (zeroT).c, .slice A5 n5 c5] 25) = w6 at st hmu hz6 hr1 hr2 ⊢
        try rw [← hz6]
        generalize w5.heap.size = g8 at st hz6 ⊢
        clear hr5 hz6
        refine (sum2_any hr1 hr2 HG').mono ?_
        rintro e w7 ⟨A7, n7, c7, rfl, hr5, hbx⟩
        rw [Hall.out] at hr5 ⊢
        simp only [Bool.false_eq_true, if_false] at hr5 ⊢
        replace st := st.below hbx
        replace hmu := hmu.below hbx hmu.lt
        clear hbx
        clear hr1 hr2
        obtain ⟨A1, n1, c1, x0, x1, x2, hr1⟩ := st.val g3 a (by simp)
        obtain ⟨A2', n2', c2', y0, y1, y2, hr2⟩ := st.val g4 b (by simp)
        have l3 := st.lt g3 a (by simp)
        have l4 := st.lt g4 b (by simp)
        have l5 : g5 < w7.heap.size := hmu.lt
        have m0 : w7.cell? ⟨g5, 0, none⟩ = some (.int .i64 V) := hmu.cell 0
        have m1 : w7.cell? ⟨g5, 1, none⟩ = some (.int .u8 C) := hmu.cell 1
        go_wp2_with fail
        replace st := st.new (zeroT) hr5
        replace hmu := hmu.below (below_box (Obj.cells #[.bool (zeroT).never, .int .u8 (zeroT).c, .slice A7 n7 c7] 25)) hmu.lt
        have hz6 : (w7.alloc (Obj.cells #[.bool (zeroT).never, .int .u8 (zeroT).c, .slice A7 n7 c7] 25)).heap.size = w7.heap.size + 1 := by simp
        replace hr1 := hr1.fresh (below_box (Obj.cells #[.bool (zeroT).never, .int .u8 (zeroT).c, .slice A7 n7 c7] 25)) (Nat.le_refl _)
        replace hr2 := hr2.fresh (below_box (Obj.cells #[.bool (zeroT).never, .int .u8 (zeroT).c, .slice A7 n7 c7] 25)) (Nat.le_refl _)
        clear x0 x1 x2 y0 y1 y2 l3 l4 m0 m1 l5
        generalize w7.alloc (Obj.cells #[.bool (zeroT).never, .int .u8 (zeroT).c, .slice A7 n7 c7] 25) = w8 at st hmu hz6 hr1 hr2 ⊢
        try rw [← hz6]
        generalize w7.heap.size = g10 at st hz6 ⊢
        clear hr5 hz6
        refine (scale_any_t C V (.agg #[.bool (a).never, .int .u8 (a).c, .slice A1 n1 c1]) a w8 _ ⟨A1, n1, c1, rfl, hr1⟩ (Nat.le_refl _) (Nat.le_trans (great_vars HG' a (by simp)) (by omega))).mono ?_
        rintro e w9 ⟨A9, n9, c9, rfl, hr5, hbx⟩
        rw [Hsc.out] at hr5 ⊢
        simp only [Bool.false_eq_true, if_false] at hr5 ⊢
        replace st := st.below hbx
        replace hmu := hmu.below hbx hmu.lt
        clear hbx
        clear hr1 hr2
        replace st := st.new (zeroT) hr5
        go_wp2_with fail
        refine (works_any _).mono ?_; rintro e w11 ⟨rfl, hbx⟩
        go_wp2_with fail
        go_ret
        exact ⟨rfl, (st.below hbx).bel⟩
    · cases hib : isB C V
      ·
        have Hma := Lib.hid hma
        have Hib := Lib.hid hib
        clear hma hib
        obtain ⟨A1, n1, c1, x0, x1, x2, hr1⟩ := st.val g3 a (by simp)
        go_wp2_with fail
        refine (refMay_at (.agg #[.bool (a).never, .int .u8 (a).c, .slice A1 n1 c1]) a true Hma.out w2 _ ⟨A1, n1, c1, rfl, hr1⟩ (Nat.le_refl _)).mono ?_; rintro e w3 ⟨rfl, hb3⟩
        replace st := st.below hb3
        replace hmu := hmu.below hb3 hmu.lt
        clear hb3 x0 x1 x2 hr1
        obtain ⟨A1, n1, c1, x0, x1, x2, hr1⟩ := st.val g3 a (by simp)
        obtain ⟨A2', n2', c2', y0, y1, y2, hr2⟩ := st.val g4 b (by simp)
        have l3 := st.lt g3 a (by simp)
        have l4 := st.lt g4 b (by simp)
        have l5 : g5 < w3.heap.size := hmu.lt
        have m0 : w3.cell? ⟨g5, 0, none⟩ = some (.int .i64 V) := hmu.cell 0
        have m1 : w3.cell? ⟨g5, 1, none⟩ = some (.int .u8 C) := hmu.cell 1
        have kx0 := fun d os => cell_regrown x0 d os
        have kx1 := fun d os => cell_regrown x1 d os
        have kx2 := fun d os => cell_regrown x2 d os
        have ky0 := fun d os => cell_regrown y0 d os
        have ky1 := fun d os => cell_regrown y1 d os
        have ky2 := fun d os => cell_regrown y2 d os
        have km0 := fun d os => cell_regrown m0 d os
        have km1 := fun d os => cell_regrown m1 d os
        clear x0 x1 x2 y0 y1 y2 m0 m1
        have hme : Hid (mayE a = 0) := Lib.hid (by unfold mayE; rw [Hma.out]; rfl)
        have hie : Hid (isE C V = 2) := Lib.hid (by unfold isE; rw [Hib.out]; rfl)
        go_wp2_with fail
        refine wp_region_quiet_below (by kernel_rfl) (by kernel_rfl) ?_
        repeat (go_big_quiet_step ((first | (go_at_call 35; exact Calls.regrown_of (may_at (.agg #[.bool (a).never, .int .u8 (a).c, .slice A1 n1 c1]) a 0 hme.out _ w3.heap.size ⟨A1, n1, c1, rfl, hr1.below (below_regrown _ _ _)⟩ (below_regrown _ _ _).size)) | (go_at_call 36; exact Calls.regrown_of (is_at C V 2 hie.out _)) | (go_at_call 23; exact Calls.regrown_of (refIs_at C V false Hib.out _)) | (go_at_call_of 37 (Value.agg #[.bool (b).never, .int .u8 (b).c, .slice A2' n2' c2']); exact Calls.regrown_of (same_at (.agg #[.bool (a).never, .int .u8 (a).c, .slice A1 n1 c1]) (.agg #[.bool (b).never, .int .u8 (b).c, .slice A2' n2' c2']) a b X HX.out _ w3.heap.size w3.heap.size ⟨A1, n1, c1, rfl, hr1.below (below_regrown _ _ _)⟩ ⟨A2', n2', c2', rfl, hr2.below (below_regrown _ _ _)⟩ (below_regrown _ _ _).size (below_regrown _ _ _).size)) | (go_at_call 37; exact Calls.regrown_of (same_at (.agg #[.bool (a).never, .int .u8 (a).c, .slice A1 n1 c1]) (.agg #[.bool (a).never, .int .u8 (a).c, .slice A1 n1 c1]) a a true ((sameB_iff _ _).2 rfl) _ w3.heap.size w3.heap.size ⟨A1, n1, c1, rfl, hr1.below (below_regrown _ _ _)⟩ ⟨A1, n1, c1, rfl, hr1.below (below_regrown _ _ _)⟩ (below_regrown _ _ _).size (below_regrown _ _ _).size)) | (go_at_call 38; exact Calls.regrown_of (refSame_at (.agg #[.bool (a).never, .int .u8 (a).c, .slice A1 n1 c1]) (.agg #[.bool (b).never, .int .u8 (b).c, .slice A2' n2' c2']) a b X HX.out _ w3.heap.size w3.heap.size ⟨A1, n1, c1, rfl, hr1.below (below_regrown _ _ _)⟩ ⟨A2', n2', c2', rfl, hr2.below (below_regrown _ _ _)⟩ (below_regrown _ _ _).size (below_regrown _ _ _).size)))))
        refine wpQuiet_nil ?_
        intro _ hw'
        obtain ⟨⟨dq, osq⟩, hw''⟩ := hw'
        subst hw''
        have hbq := below_regrown w3 dq osq
        generalize Go.Sort.grow (redrawn w3 dq) osq = w4 at hbq ⊢
        replace st := st.below hbq
        replace hmu := hmu.below hbq hmu.lt
        clear hbq hr1 hr2 l3 l4 l5 kx0 kx1 kx2 ky0 ky1 ky2 km0 km1
        have Hsc : Hid ((isB C V && mayB a) = false) := Lib.hid (by rw [Hib.out, Hma.out]; rfl)
        cases hmb : mayB b
        · have Hmb := Lib.hid hmb
          clear hmb
          have Hall : Hid (allMay [a, b] = false) := Lib.hid (by simp [allMay, Hma.out, Hmb.out])
          obtain ⟨A1, n1, c1, x0, x1, x2, hr1⟩ := st.val g3 a (by simp)
          obtain ⟨A2', n2', c2', y0, y1, y2, hr2⟩ := st.val g4 b (by simp)
          have l3 := st.lt g3 a (by simp)
          have l4 := st.lt g4 b (by simp)
          have l5 : g5 < w4.heap.size := hmu.lt
          have m0 : w4.cell? ⟨g5, 0, none⟩ = some (.int .i64 V) := hmu.cell 0
          have m1 : w4.cell? ⟨g5, 1, none⟩ = some (.int .u8 C) := hmu.cell 1
          go_wp2_with fail
          refine (join2_any hr1 hr2 HG').mono ?_
          rintro e w5 ⟨A5, n5, c5, rfl, hr5, hbx⟩
          rw [Hall.out] at hr5 ⊢
          simp only [Bool.false_eq_true, if_false] at hr5 ⊢
          replace st := st.below hbx
          replace hmu := hmu.below hbx hmu.lt
          clear hbx
          clear x0 x1 x2 y0 y1 y2 m0 m1 l3 l4 l5 hr1 hr2
          obtain ⟨A1, n1, c1, x0, x1, x2, hr1⟩ := st.val g3 a (by simp)
          obtain ⟨A2', n2', c2', y0, y1, y2, hr2⟩ := st.val g4 b (by simp)
          have l3 := st.lt g3 a (by simp)
          have l4 := st.lt g4 b (by simp)
          have l5 : g5 < w5.heap.size := hmu.lt
          have m0 : w5.cell? ⟨g5, 0, none⟩ = some (.int .i64 V) := hmu.cell 0
          have m1 : w5.cell? ⟨g5, 1, none⟩ = some (.int .u8 C) := hmu.cell 1
          go_wp2_with fail
          replace st := st.new (zeroT) hr5
          replace hmu := hmu.below (below_box (Obj.cells #[.bool (zeroT).never, .int .u8 (zeroT).c, .slice A5 n5 c5] 25)) hmu.lt
          have hz6 : (w5.alloc (Obj.cells #[.bool (zeroT).never, .int .u8 (zeroT).c, .slice A5 n5 c5] 25)).heap.size = w5.heap.size + 1 := by simp
          replace hr1 := hr1.fresh (below_box (Obj.cells #[.bool (zeroT).never, .int .u8 (zeroT).c, .slice A5 n5 c5] 25)) (Nat.le_refl _)
          replace hr2 := hr2.fresh (below_box (Obj.cells #[.bool (zeroT).never, .int .u8 (zeroT).c, .slice A5 n5 c5] 25)) (Nat.le_refl _)
          clear x0 x1 x2 y0 y1 y2 l3 l4 m0 m1 l5
          generalize w5.alloc (Obj.cells #[.bool (zeroT).never, .int .u8 (zeroT).c, .slice A5 n5 c5] 25) = w6 at st hmu hz6 hr1 hr2 ⊢
          try rw [← hz6]
          generalize w5.heap.size = g8 at st hz6 ⊢
          clear hr5 hz6
          refine (sum2_any hr1 hr2 HG').mono ?_
          rintro e w7 ⟨A7, n7, c7, rfl, hr5, hbx⟩
          rw [Hall.out] at hr5 ⊢
          simp only [Bool.false_eq_true, if_false] at hr5 ⊢
          replace st := st.below hbx
          replace hmu := hmu.below hbx hmu.lt
          clear hbx
          clear hr1 hr2
          obtain ⟨A1, n1, c1, x0, x1, x2, hr1⟩ := st.val g3 a (by simp)
          obtain ⟨A2', n2', c2', y0, y1, y2, hr2⟩ := st.val g4 b (by simp)
          have l3 := st.lt g3 a (by simp)
          have l4 := st.lt g4 b (by simp)
          have l5 : g5 < w7.heap.size := hmu.lt
          have m0 : w7.cell? ⟨g5, 0, none⟩ = some (.int .i64 V) := hmu.cell 0
          have m1 : w7.cell? ⟨g5, 1, none⟩ = some (.int .u8 C) := hmu.cell 1
          go_wp2_with fail
          replace st := st.new (zeroT) hr5
          replace hmu := hmu.below (below_box (Obj.cells #[.bool (zeroT).never, .int .u8 (zeroT).c, .slice A7 n7 c7] 25)) hmu.lt
          have hz6 : (w7.alloc (Obj.cells #[.bool (zeroT).never, .int .u8 (zeroT).c, .slice A7 n7 c7] 25)).heap.size = w7.heap.size + 1 := by simp
          replace hr1 := hr1.fresh (below_box (Obj.cells #[.bool (zeroT).never, .int .u8 (zeroT).c, .slice A7 n7 c7] 25)) (Nat.le_refl _)
          replace hr2 := hr2.fresh (below_box (Obj.cells #[.bool (zeroT).never, .int .u8 (zeroT).c, .slice A7 n7 c7] 25)) (Nat.le_refl _)
          clear x0 x1 x2 y0 y1 y2 l3 l4 m0 m1 l5
          generalize w7.alloc (Obj.cells #[.bool (zeroT).never, .int .u8 (zeroT).c, .slice A7 n7 c7] 25) = w8 at st hmu hz6 hr1 hr2 ⊢
          try rw [← hz6]
          generalize w7.heap.size = g10 at st hz6 ⊢
          clear hr5 hz6
          refine (scale_any_t C V (.agg #[.bool (a).never, .int .u8 (a).c, .slice A1 n1 c1]) a w8 _ ⟨A1, n1, c1, rfl, hr1⟩ (Nat.le_refl _) (Nat.le_trans (great_vars HG' a (by simp)) (by omega))).mono ?_
          rintro e w9 ⟨A9, n9, c9, rfl, hr5, hbx⟩
          rw [Hsc.out] at hr5 ⊢
          simp only [Bool.false_eq_true, if_false] at hr5 ⊢
          replace st := st.below hbx
          replace hmu := hmu.below hbx hmu.lt
          clear hbx
          clear hr1 hr2
          obtain ⟨A1, n1, c1, x0, x1, x2, hr1⟩ := st.val g3 a (by simp)
          obtain ⟨A2', n2', c2', y0, y1, y2, hr2⟩ := st.val g4 b (by simp)
          have l3 := st.lt g3 a (by simp)
          have l4 := st.lt g4 b (by simp)
          have l5 : g5 < w9.heap.size := hmu.lt
          have m0 : w9.cell? ⟨g5, 0, none⟩ = some (.int .i64 V) := hmu.cell 0
          have m1 : w9.cell? ⟨g5, 1, none⟩ = some (.int .u8 C) := hmu.cell 1
          go_wp2_with fail
          replace st := st.new (zeroT) hr5
          replace hmu := hmu.below (below_box (Obj.cells #[.bool (zeroT).never, .int .u8 (zeroT).c, .slice A9 n9 c9] 25)) hmu.lt
          have hz6 : (w9.alloc (Obj.cells #[.bool (zeroT).never, .int .u8 (zeroT).c, .slice A9 n9 c9] 25)).heap.size = w9.heap.size + 1 := by simp
          replace hr1 := hr1.fresh (below_box (Obj.cells #[.bool (zeroT).never, .int .u8 (zeroT).c, .slice A9 n9 c9] 25)) (Nat.le_refl _)
          replace hr2 := hr2.fresh (below_box (Obj.cells #[.bool (zeroT).never, .int .u8 (zeroT).c, .slice A9 n9 c9] 25)) (Nat.le_refl _)
          clear x0 x1 x2 y0 y1 y2 l3 l4 m0 m1 l5
          generalize w9.alloc (Obj.cells #[.bool (zeroT).never, .int .u8 (zeroT).c, .slice A9 n9 c9] 25) = w10 at st hmu hz6 hr1 hr2 ⊢
          try rw [← hz6]
          generalize w9.heap.size = g12 at st hz6 ⊢
          clear hr5 hz6
          refine (refMay_at (.agg #[.bool (b).never, .int .u8 (b).c, .slice A2' n2' c2']) b false Hmb.out w10 _ ⟨A2', n2', c2', rfl, hr2⟩ (Nat.le_refl _)).mono ?_; rintro e w11 ⟨rfl, hbx⟩
          replace st := st.below hbx
          replace hmu := hmu.below hbx hmu.lt
          clear hbx hr1 hr2
          go_wp2_with fail
          refine (works_any _).mono ?_; rintro e w12 ⟨rfl, hbx⟩
          go_wp2_with fail
          go_ret
          exact ⟨rfl, (st.below hbx).bel⟩
        · have Hmb := Lib.hid hmb
          clear hmb
          have Hall : Hid (allMay [a, b] = true) := Lib.hid (by simp [allMay, Hma.out, Hmb.out])
          obtain ⟨A1, n1, c1, x0, x1, x2, hr1⟩ := st.val g3 a (by simp)
          obtain ⟨A2', n2', c2', y0, y1, y2, hr2⟩ := st.val g4 b (by simp)
          have l3 := st.lt g3 a (by simp)
          have l4 := st.lt g4 b (by simp)
          have l5 : g5 < w4.heap.size := hmu.lt
          have m0 : w4.cell? ⟨g5, 0, none⟩ = some (.int .i64 V) := hmu.cell 0
          have m1 : w4.cell? ⟨g5, 1, none⟩ = some (.int .u8 C) := hmu.cell 1
          go_wp2_with fail
          refine (join2_any hr1 hr2 HG').mono ?_
          rintro e w5 ⟨A5, n5, c5, rfl, hr5, hbx⟩
          rw [Hall.out] at hr5 ⊢
          simp only [if_true] at hr5 ⊢
          replace st := st.below hbx
          replace hmu := hmu.below hbx hmu.lt
          clear hbx
          clear x0 x1 x2 y0 y1 y2 m0 m1 l3 l4 l5 hr1 hr2
          obtain ⟨A1, n1, c1, x0, x1, x2, hr1⟩ := st.val g3 a (by simp)
          obtain ⟨A2', n2', c2', y0, y1, y2, hr2⟩ := st.val g4 b (by simp)
          have l3 := st.lt g3 a (by simp)
          have l4 := st.lt g4 b (by simp)
          have l5 : g5 < w5.heap.size := hmu.lt
          have m0 : w5.cell? ⟨g5, 0, none⟩ = some (.int .i64 V) := hmu.cell 0
          have m1 : w5.cell? ⟨g5, 1, none⟩ = some (.int .u8 C) := hmu.cell 1
          go_wp2_with fail
          replace st := st.new (joinT [a, b]) hr5
          replace hmu := hmu.below (below_box (Obj.cells #[.bool (joinT [a, b]).never, .int .u8 (joinT [a, b]).c, .slice A5 n5 c5] 25)) hmu.lt
          have hz6 : (w5.alloc (Obj.cells #[.bool (joinT [a, b]).never, .int .u8 (joinT [a, b]).c, .slice A5 n5 c5] 25)).heap.size = w5.heap.size + 1 := by simp
          replace hr1 := hr1.fresh (below_box (Obj.cells #[.bool (joinT [a, b]).never, .int .u8 (joinT [a, b]).c, .slice A5 n5 c5] 25)) (Nat.le_refl _)
          replace hr2 := hr2.fresh (below_box (Obj.cells #[.bool (joinT [a, b]).never, .int .u8 (joinT [a, b]).c, .slice A5 n5 c5] 25)) (Nat.le_refl _)
          clear x0 x1 x2 y0 y1 y2 l3 l4 m0 m1 l5
          generalize w5.alloc (Obj.cells #[.bool (joinT [a, b]).never, .int .u8 (joinT [a, b]).c, .slice A5 n5 c5] 25) = w6 at st hmu hz6 hr1 hr2 ⊢
          try rw [← hz6]
          generalize w5.heap.size = g8 at st hz6 ⊢
          clear hr5 hz6
          refine (sum2_any hr1 hr2 HG').mono ?_
          rintro e w7 ⟨A7, n7, c7, rfl, hr5, hbx⟩
          rw [Hall.out] at hr5 ⊢
          simp only [if_true] at hr5 ⊢
          replace st := st.below hbx
          replace hmu := hmu.below hbx hmu.lt
          clear hbx
          clear hr1 hr2
          obtain ⟨A1, n1, c1, x0, x1, x2, hr1⟩ := st.val g3 a (by simp)
          obtain ⟨A2', n2', c2', y0, y1, y2, hr2⟩ := st.val g4 b (by simp)
          have l3 := st.lt g3 a (by simp)
          have l4 := st.lt g4 b (by simp)
          have l5 : g5 < w7.heap.size := hmu.lt
          have m0 : w7.cell? ⟨g5, 0, none⟩ = some (.int .i64 V) := hmu.cell 0
          have m1 : w7.cell? ⟨g5, 1, none⟩ = some (.int .u8 C) := hmu.cell 1
          go_wp2_with fail
          replace st := st.new (sumT [a, b]) hr5
          replace hmu := hmu.below (below_box (Obj.cells #[.bool (sumT [a, b]).never, .int .u8 (sumT [a, b]).c, .slice A7 n7 c7] 25)) hmu.lt
          have hz6 : (w7.alloc (Obj.cells #[.bool (sumT [a, b]).never, .int .u8 (sumT [a, b]).c, .slice A7 n7 c7] 25)).heap.size = w7.heap.size + 1 := by simp
          replace hr1 := hr1.fresh (below_box (Obj.cells #[.bool (sumT [a, b]).never, .int .u8 (sumT [a, b]).c, .slice A7 n7 c7] 25)) (Nat.le_refl _)
          replace hr2 := hr2.fresh (below_box (Obj.cells #[.bool (sumT [a, b]).never, .int .u8 (sumT [a, b]).c, .slice A7 n7 c7] 25)) (Nat.le_refl _)
          clear x0 x1 x2 y0 y1 y2 l3 l4 m0 m1 l5
          generalize w7.alloc (Obj.cells #[.bool (sumT [a, b]).never, .int .u8 (sumT [a, b]).c, .slice A7 n7 c7] 25) = w8 at st hmu hz6 hr1 hr2 ⊢
          try rw [← hz6]
          generalize w7.heap.size = g10 at st hz6 ⊢
          clear hr5 hz6
          refine (scale_any_t C V (.agg #[.bool (a).never, .int .u8 (a).c, .slice A1 n1 c1]) a w8 _ ⟨A1, n1, c1, rfl, hr1⟩ (Nat.le_refl _) (Nat.le_trans (great_vars HG' a (by simp)) (by omega))).mono ?_
          rintro e w9 ⟨A9, n9, c9, rfl, hr5, hbx⟩
          rw [Hsc.out] at hr5 ⊢
          simp only [Bool.false_eq_true, if_false] at hr5 ⊢
          replace st := st.below hbx
          replace hmu := hmu.below hbx hmu.lt
          clear hbx
          clear hr1 hr2
          obtain ⟨A1, n1, c1, x0, x1, x2, hr1⟩ := st.val g3 a (by simp)
          obtain ⟨A2', n2', c2', y0, y1, y2, hr2⟩ := st.val g4 b (by simp)
          have l3 := st.lt g3 a (by simp)
          have l4 := st.lt g4 b (by simp)
          have l5 : g5 < w9.heap.size := hmu.lt
          have m0 : w9.cell? ⟨g5, 0, none⟩ = some (.int .i64 V) := hmu.cell 0
          have m1 : w9.cell? ⟨g5, 1, none⟩ = some (.int .u8 C) := hmu.cell 1
          go_wp2_with fail
          replace st := st.new (zeroT) hr5
          replace hmu := hmu.below (below_box (Obj.cells #[.bool (zeroT).never, .int .u8 (zeroT).c, .slice A9 n9 c9] 25)) hmu.lt
          have hz6 : (w9.alloc (Obj.cells #[.bool (zeroT).never, .int .u8 (zeroT).c, .slice A9 n9 c9] 25)).heap.size = w9.heap.size + 1 := by simp
          replace hr1 := hr1.fresh (below_box (Obj.cells #[.bool (zeroT).never, .int .u8 (zeroT).c, .slice A9 n9 c9] 25)) (Nat.le_refl _)
          replace hr2 := hr2.fresh (below_box (Obj.cells #[.bool (zeroT).never, .int .u8 (zeroT).c, .slice A9 n9 c9] 25)) (Nat.le_refl _)
          clear x0 x1 x2 y0 y1 y2 l3 l4 m0 m1 l5
          generalize w9.alloc (Obj.cells #[.bool (zeroT).never, .int .u8 (zeroT).c, .slice A9 n9 c9] 25) = w10 at st hmu hz6 hr1 hr2 ⊢
          try rw [← hz6]
          generalize w9.heap.size = g12 at st hz6 ⊢
          clear hr5 hz6
          refine (refMay_at (.agg #[.bool (b).never, .int .u8 (b).c, .slice A2' n2' c2']) b true Hmb.out w10 _ ⟨A2', n2', c2', rfl, hr2⟩ (Nat.le_refl _)).mono ?_; rintro e w11 ⟨rfl, hbx⟩
          replace st := st.below hbx
          replace hmu := hmu.below hbx hmu.lt
          clear hbx hr1 hr2
          obtain ⟨A1, n1, c1, x0, x1, x2, hr1⟩ := st.val g3 a (by simp)
          obtain ⟨A2', n2', c2', y0, y1, y2, hr2⟩ := st.val g4 b (by simp)
          obtain ⟨Ap, np, cp, p0, p1, p2, hrp⟩ := st.val g8 (joinT [a, b]) (by simp)
          obtain ⟨Aq, nq', cq, q0, q1, q2, hrq⟩ := st.val g10 (sumT [a, b]) (by simp)
          have l3 := st.lt g3 a (by simp)
          have l4 := st.lt g4 b (by simp)
          have l8 := st.lt g8 (joinT [a, b]) (by simp)
          have l10 := st.lt g10 (sumT [a, b]) (by simp)
          have hva := great_vars HG' a (by simp)
          have hvb := great_vars HG' b (by simp)
          have Hbig : Hid (a.vars.length + b.vars.length ≤ 1099511627776) := Lib.hid (by omega)
          have Hbig1 : Hid (a.vars.length ≤ 1099511627776) := Lib.hid (by omega)
          have Hva := Lib.hid hva
          have Htab1 := Lib.hid (Htab.out.below st.bel)
          clear hva hvb
          go_wp2_with fail
          go_region_held3 (fun w' => w'.cell? ⟨g8, 0, none⟩ = some (.bool (joinT [a, b]).never) ∧ w'.cell? ⟨g8, 1, none⟩ = some (.int .u8 (joinT [a, b]).c) ∧ w'.cell? ⟨g8, 2, none⟩ = some (.slice Ap np cp) ∧ w'.cell? ⟨g3, 0, none⟩ = some (.bool (a).never) ∧ w'.cell? ⟨g3, 1, none⟩ = some (.int .u8 (a).c) ∧ w'.cell? ⟨g3, 2, none⟩ = some (.slice A1 n1 c1) ∧ w'.cell? ⟨g4, 0, none⟩ = some (.bool (b).never) ∧ w'.cell? ⟨g4, 1, none⟩ = some (.int .u8 (b).c) ∧ w'.cell? ⟨g4, 2, none⟩ = some (.slice A2' n2' c2') ∧ w'.cell? ⟨g10, 0, none⟩ = some (.bool (sumT [a, b]).never) ∧ w'.cell? ⟨g10, 1, none⟩ = some (.int .u8 (sumT [a, b]).c) ∧ w'.cell? ⟨g10, 2, none⟩ = some (.slice Aq nq' cq))
            (first | go_keep | exact ⟨(hbB.cell (p := ⟨g8, 0, none⟩) l8).trans p0, (hbB.cell (p := ⟨g8, 1, none⟩) l8).trans p1, (hbB.cell (p := ⟨g8, 2, none⟩) l8).trans p2, (hbB.cell (p := ⟨g3, 0, none⟩) l3).trans x0, (hbB.cell (p := ⟨g3, 1, none⟩) l3).trans x1, (hbB.cell (p := ⟨g3, 2, none⟩) l3).trans x2, (hbB.cell (p := ⟨g4, 0, none⟩) l4).trans y0, (hbB.cell (p := ⟨g4, 1, none⟩) l4).trans y1, (hbB.cell (p := ⟨g4, 2, none⟩) l4).trans y2, (hbB.cell (p := ⟨g10, 0, none⟩) l10).trans q0, (hbB.cell (p := ⟨g10, 1, none⟩) l10).trans q1, (hbB.cell (p := ⟨g10, 2, none⟩) l10).trans q2⟩ | exact ⟨(hbC.cell (p := ⟨g8, 0, none⟩) l8).trans p0, (hbC.cell (p := ⟨g8, 1, none⟩) l8).trans p1, (hbC.cell (p := ⟨g8, 2, none⟩) l8).trans p2, (hbC.cell (p := ⟨g3, 0, none⟩) l3).trans x0, (hbC.cell (p := ⟨g3, 1, none⟩) l3).trans x1, (hbC.cell (p := ⟨g3, 2, none⟩) l3).trans x2, (hbC.cell (p := ⟨g4, 0, none⟩) l4).trans y0, (hbC.cell (p := ⟨g4, 1, none⟩) l4).trans y1, (hbC.cell (p := ⟨g4, 2, none⟩) l4).trans y2, (hbC.cell (p := ⟨g10, 0, none⟩) l10).trans q0, (hbC.cell (p := ⟨g10, 1, none⟩) l10).trans q1, (hbC.cell (p := ⟨g10, 2, none⟩) l10).trans q2⟩ | exact ⟨(hbD.cell (p := ⟨g8, 0, none⟩) l8).trans p0, (hbD.cell (p := ⟨g8, 1, none⟩) l8).trans p1, (hbD.cell (p := ⟨g8, 2, none⟩) l8).trans p2, (hbD.cell (p := ⟨g3, 0, none⟩) l3).trans x0, (hbD.cell (p := ⟨g3, 1, none⟩) l3).trans x1, (hbD.cell (p := ⟨g3, 2, none⟩) l3).trans x2, (hbD.cell (p := ⟨g4, 0, none⟩) l4).trans y0, (hbD.cell (p := ⟨g4, 1, none⟩) l4).trans y1, (hbD.cell (p := ⟨g4, 2, none⟩) l4).trans y2, (hbD.cell (p := ⟨g10, 0, none⟩) l10).trans q0, (hbD.cell (p := ⟨g10, 1, none⟩) l10).trans q1, (hbD.cell (p := ⟨g10, 2, none⟩) l10).trans q2⟩ | exact ⟨(hbE.cell (p := ⟨g8, 0, none⟩) l8).trans p0, (hbE.cell (p := ⟨g8, 1, none⟩) l8).trans p1, (hbE.cell (p := ⟨g8, 2, none⟩) l8).trans p2, (hbE.cell (p := ⟨g3, 0, none⟩) l3).trans x0, (hbE.cell (p := ⟨g3, 1, none⟩) l3).trans x1, (hbE.cell (p := ⟨g3, 2, none⟩) l3).trans x2, (hbE.cell (p := ⟨g4, 0, none⟩) l4).trans y0, (hbE.cell (p := ⟨g4, 1, none⟩) l4).trans y1, (hbE.cell (p := ⟨g4, 2, none⟩) l4).trans y2, (hbE.cell (p := ⟨g10, 0, none⟩) l10).trans q0, (hbE.cell (p := ⟨g10, 1, none⟩) l10).trans q1, (hbE.cell (p := ⟨g10, 2, none⟩) l10).trans q2⟩ | exact ⟨(hbF.cell (p := ⟨g8, 0, none⟩) l8).trans p0, (hbF.cell (p := ⟨g8, 1, none⟩) l8).trans p1, (hbF.cell (p := ⟨g8, 2, none⟩) l8).trans p2, (hbF.cell (p := ⟨g3, 0, none⟩) l3).trans x0, (hbF.cell (p := ⟨g3, 1, none⟩) l3).trans x1, (hbF.cell (p := ⟨g3, 2, none⟩) l3).trans x2, (hbF.cell (p := ⟨g4, 0, none⟩) l4).trans y0, (hbF.cell (p := ⟨g4, 1, none⟩) l4).trans y1, (hbF.cell (p := ⟨g4, 2, none⟩) l4).trans y2, (hbF.cell (p := ⟨g10, 0, none⟩) l10).trans q0, (hbF.cell (p := ⟨g10, 1, none⟩) l10).trans q1, (hbF.cell (p := ⟨g10, 2, none⟩) l10).trans q2⟩ | exact ⟨(hbG.cell (p := ⟨g8, 0, none⟩) l8).trans p0, (hbG.cell (p := ⟨g8, 1, none⟩) l8).trans p1, (hbG.cell (p := ⟨g8, 2, none⟩) l8).trans p2, (hbG.cell (p := ⟨g3, 0, none⟩) l3).trans x0, (hbG.cell (p := ⟨g3, 1, none⟩) l3).trans x1, (hbG.cell (p := ⟨g3, 2, none⟩) l3).trans x2, (hbG.cell (p := ⟨g4, 0, none⟩) l4).trans y0, (hbG.cell (p := ⟨g4, 1, none⟩) l4).trans y1, (hbG.cell (p := ⟨g4, 2, none⟩) l4).trans y2, (hbG.cell (p := ⟨g10, 0, none⟩) l10).trans q0, (hbG.cell (p := ⟨g10, 1, none⟩) l10).trans q1, (hbG.cell (p := ⟨g10, 2, none⟩) l10).trans q2⟩)
            ((first | (go_at_call 39; refine (refJoin_t (.agg #[.bool (a).never, .int .u8 (a).c, .slice A1 n1 c1]) (.agg #[.bool (b).never, .int .u8 (b).c, .slice A2' n2' c2']) a b _ w11.heap.size w11.heap.size (by exact ⟨A1, n1, c1, rfl, hr1⟩) (by exact ⟨A2', n2', c2', rfl, hr2⟩) (by exact Nat.le_refl _) (by exact Nat.le_refl _) Hbig.out).mono ?_; rintro e w12 ⟨Aj, nj, cj, rfl, hrj, hb12⟩; have hbB : Below w11.heap.size w11 w12 := ((Below.refl _ _).drew).trans hb12) | (go_at_call_of 38 (Value.agg #[Value.bool (joinT [a, b]).never, Value.int IntKind.u8 (joinT [a, b]).c, Value.slice Ap np cp]); refine (refSame_at (.agg #[.bool (joinT [a, b]).never, .int .u8 (joinT [a, b]).c, .slice Ap np cp]) (.agg #[.bool (rJoin a b).never, .int .u8 (rJoin a b).c, .slice Aj nj cj]) (joinT [a, b]) (rJoin a b) true ((sameB_iff _ _).2 (rJoin_two Hma.out Hmb.out).symm) w12 w11.heap.size w12.heap.size ⟨Ap, np, cp, rfl, hrp.below hbB⟩ ⟨Aj, nj, cj, rfl, hrj⟩ hbB.size (Nat.le_refl _)).mono ?_; rintro e w13 ⟨rfl, hb13⟩; have hbC : Below w11.heap.size w11 w13 := hbB.trans (hb13.mono hbB.size)) | (go_at_call 40; refine (refSum_t (.agg #[.bool (a).never, .int .u8 (a).c, .slice A1 n1 c1]) (.agg #[.bool (b).never, .int .u8 (b).c, .slice A2' n2' c2']) a b w13 w11.heap.size w11.heap.size ⟨A1, n1, c1, rfl, hr1.below hbC⟩ ⟨A2', n2', c2', rfl, hr2.below hbC⟩ hbC.size hbC.size).mono ?_; rintro e w14 ⟨As, ns, cs, rfl, hrs, hb14⟩; have hbD : Below w11.heap.size w11 w14 := hbC.trans (hb14.mono hbC.size)) | (go_at_call_of 38 (Value.agg #[Value.bool (sumT [a, b]).never, Value.int IntKind.u8 (sumT [a, b]).c, Value.slice Aq nq' cq]); refine (refSame_at (.agg #[.bool (sumT [a, b]).never, .int .u8 (sumT [a, b]).c, .slice Aq nq' cq]) (.agg #[.bool (rSum a b).never, .int .u8 (rSum a b).c, .slice As ns cs]) (sumT [a, b]) (rSum a b) true ((sameB_iff _ _).2 (rSum_two Hma.out Hmb.out).symm) w14 w11.heap.size w14.heap.size ⟨Aq, nq', cq, rfl, hrq.below hbD⟩ ⟨As, ns, cs, rfl, hrs⟩ hbD.size (Nat.le_refl _)).mono ?_; rintro e w15 ⟨rfl, hb15⟩; have hbE : Below w11.heap.size w11 w15 := hbD.trans (hb15.mono hbD.size)) | (go_at_call 33; refine (text_at_t (.agg #[.bool (a).never, .int .u8 (a).c, .slice A1 n1 c1]) a Hma.out w15 w11.heap.size ⟨A1, n1, c1, rfl, hr1.below hbE⟩ hbE.size (Htab1.out.below hbE) Hbig1.out).mono ?_; rintro e w16 ⟨rfl, hb16⟩; have hbF : Below w11.heap.size w11 w16 := hbE.trans (hb16.mono hbE.size)) | (go_at_call 41; refine (refText_at (.agg #[.bool (a).never, .int .u8 (a).c, .slice A1 n1 c1]) a Hma.out w16 w11.heap.size ⟨A1, n1, c1, rfl, hr1.below hbF⟩ hbF.size Hbig1.out).mono ?_; rintro e w17 ⟨rfl, hb17⟩; have hbG : Below w11.heap.size w11 w17 := hbF.trans (hb17.mono hbF.size))))
          replace st := st.below hbG
          replace hmu := hmu.below hbG hmu.lt
          clear hr1 hr2 hrp hrq hrj hrs hb12 hb13 hb14 hb15 hb16 hb17 hbB hbC hbD hbE hbF hbG x0 x1 x2 y0 y1 y2 p0 p1 p2 q0 q1 q2 l3 l4 l8 l10 Htab1
          have m0 : w17.cell? ⟨g5, 0, none⟩ = some (.int .i64 V) := hmu.cell 0
          have m1 : w17.cell? ⟨g5, 1, none⟩ = some (.int .u8 C) := hmu.cell 1
          go_wp2_with fail
          refine (refIs_at C V false Hib.out w17).mono ?_; rintro e w18 ⟨rfl, hbx⟩
          replace st := st.below hbx
          clear hbx
          go_wp2_with fail
          refine (works_any _).mono ?_; rintro e w19 ⟨rfl, hbx⟩
          go_wp2_with fail
          go_ret
          exact ⟨rfl, (st.below hbx).bel⟩
      ·
        have Hma := Lib.hid hma
        have Hib := Lib.hid hib
        clear hma hib
        obtain ⟨A1, n1, c1, x0, x1, x2, hr1⟩ := st.val g3 a (by simp)
        go_wp2_with fail
        refine (refMay_at (.agg #[.bool (a).never, .int .u8 (a).c, .slice A1 n1 c1]) a true Hma.out w2 _ ⟨A1, n1, c1, rfl, hr1⟩ (Nat.le_refl _)).mono ?_; rintro e w3 ⟨rfl, hb3⟩
        replace st := st.below hb3
        replace hmu := hmu.below hb3 hmu.lt
        clear hb3 x0 x1 x2 hr1
        obtain ⟨A1, n1, c1, x0, x1, x2, hr1⟩ := st.val g3 a (by simp)
        obtain ⟨A2', n2', c2', y0, y1, y2, hr2⟩ := st.val g4 b (by simp)
        have l3 := st.lt g3 a (by simp)
        have l4 := st.lt g4 b (by simp)
        have l5 : g5 < w3.heap.size := hmu.lt
        have m0 : w3.cell? ⟨g5, 0, none⟩ = some (.int .i64 V) := hmu.cell 0
        have m1 : w3.cell? ⟨g5, 1, none⟩ = some (.int .u8 C) := hmu.cell 1
        have kx0 := fun d os => cell_regrown x0 d os
        have kx1 := fun d os => cell_regrown x1 d os
        have kx2 := fun d os => cell_regrown x2 d os
        have ky0 := fun d os => cell_regrown y0 d os
        have ky1 := fun d os => cell_regrown y1 d os
        have ky2 := fun d os => cell_regrown y2 d os
        have km0 := fun d os => cell_regrown m0 d os
        have km1 := fun d os => cell_regrown m1 d os
        clear x0 x1 x2 y0 y1 y2 m0 m1
        have hme : Hid (mayE a = 0) := Lib.hid (by unfold mayE; rw [Hma.out]; rfl)
        have hie : Hid (isE C V = 0) := Lib.hid (by unfold isE; rw [Hib.out]; rfl)
        go_wp2_with fail
        refine wp_region_quiet_below (by kernel_rfl) (by kernel_rfl) ?_
        repeat (go_big_quiet_step ((first | (go_at_call 35; exact Calls.regrown_of (may_at (.agg #[.bool (a).never, .int .u8 (a).c, .slice A1 n1 c1]) a 0 hme.out _ w3.heap.size ⟨A1, n1, c1, rfl, hr1.below (below_regrown _ _ _)⟩ (below_regrown _ _ _).size)) | (go_at_call 36; exact Calls.regrown_of (is_at C V 0 hie.out _)) | (go_at_call 23; exact Calls.regrown_of (refIs_at C V true Hib.out _)) | (go_at_call_of 37 (Value.agg #[.bool (b).never, .int .u8 (b).c, .slice A2' n2' c2']); exact Calls.regrown_of (same_at (.agg #[.bool (a).never, .int .u8 (a).c, .slice A1 n1 c1]) (.agg #[.bool (b).never, .int .u8 (b).c, .slice A2' n2' c2']) a b X HX.out _ w3.heap.size w3.heap.size ⟨A1, n1, c1, rfl, hr1.below (below_regrown _ _ _)⟩ ⟨A2', n2', c2', rfl, hr2.below (below_regrown _ _ _)⟩ (below_regrown _ _ _).size (below_regrown _ _ _).size)) | (go_at_call 37; exact Calls.regrown_of (same_at (.agg #[.bool (a).never, .int .u8 (a).c, .slice A1 n1 c1]) (.agg #[.bool (a).never, .int .u8 (a).c, .slice A1 n1 c1]) a a true ((sameB_iff _ _).2 rfl) _ w3.heap.size w3.heap.size ⟨A1, n1, c1, rfl, hr1.below (below_regrown _ _ _)⟩ ⟨A1, n1, c1, rfl, hr1.below (below_regrown _ _ _)⟩ (below_regrown _ _ _).size (below_regrown _ _ _).size)) | (go_at_call 38; exact Calls.regrown_of (refSame_at (.agg #[.bool (a).never, .int .u8 (a).c, .slice A1 n1 c1]) (.agg #[.bool (b).never, .int .u8 (b).c, .slice A2' n2' c2']) a b X HX.out _ w3.heap.size w3.heap.size ⟨A1, n1, c1, rfl, hr1.below (below_regrown _ _ _)⟩ ⟨A2', n2', c2', rfl, hr2.below (below_regrown _ _ _)⟩ (below_regrown _ _ _).size (below_regrown _ _ _).size)))))
        refine wpQuiet_nil ?_
        intro _ hw'
        obtain ⟨⟨dq, osq⟩, hw''⟩ := hw'
        subst hw''
        have hbq := below_regrown w3 dq osq
        generalize Go.Sort.grow (redrawn w3 dq) osq = w4 at hbq ⊢
        replace st := st.below hbq
        replace hmu := hmu.below hbq hmu.lt
        clear hbq hr1 hr2 l3 l4 l5 kx0 kx1 kx2 ky0 ky1 ky2 km0 km1
        have Hsc : Hid ((isB C V && mayB a) = true) := Lib.hid (by rw [Hib.out, Hma.out]; rfl)
        cases hmb : mayB b
        · have Hmb := Lib.hid hmb
          clear hmb
          have Hall : Hid (allMay [a, b] = false) := Lib.hid (by simp [allMay, Hma.out, Hmb.out])
          obtain ⟨A1, n1, c1, x0, x1, x2, hr1⟩ := st.val g3 a (by simp)
          obtain ⟨A2', n2', c2', y0, y1, y2, hr2⟩ := st.val g4 b (by simp)
          have l3 := st.lt g3 a (by simp)
          have l4 := st.lt g4 b (by simp)
          have l5 : g5 < w4.heap.size := hmu.lt
          have m0 : w4.cell? ⟨g5, 0, none⟩ = some (.int .i64 V) := hmu.cell 0
          have m1 : w4.cell? ⟨g5, 1, none⟩ = some (.int .u8 C) := hmu.cell 1
          go_wp2_with fail
          refine (join2_any hr1 hr2 HG').mono ?_
          rintro e w5 ⟨A5, n5, c5, rfl, hr5, hbx⟩
          rw [Hall.out] at hr5 ⊢
          simp only [Bool.false_eq_true, if_false] at hr5 ⊢
          replace st := st.below hbx
          replace hmu := hmu.below hbx hmu.lt
          clear hbx
          clear x0 x1 x2 y0 y1 y2 m0 m1 l3 l4 l5 hr1 hr2
          obtain ⟨A1, n1, c1, x0, x1, x2, hr1⟩ := st.val g3 a (by simp)
          obtain ⟨A2', n2', c2', y0, y1, y2, hr2⟩ := st.val g4 b (by simp)
          have l3 := st.lt g3 a (by simp)
          have l4 := st.lt g4 b (by simp)
          have l5 : g5 < w5.heap.size := hmu.lt
          have m0 : w5.cell? ⟨g5, 0, none⟩ = some (.int .i64 V) := hmu.cell 0
          have m1 : w5.cell? ⟨g5, 1, none⟩ = some (.int .u8 C) := hmu.cell 1
          go_wp2_with fail
          replace st := st.new (zeroT) hr5
          replace hmu := hmu.below (below_box (Obj.cells #[.bool (zeroT).never, .int .u8 (zeroT).c, .slice A5 n5 c5] 25)) hmu.lt
          have hz6 : (w5.alloc (Obj.cells #[.bool (zeroT).never, .int .u8 (zeroT).c, .slice A5 n5 c5] 25)).heap.size = w5.heap.size + 1 := by simp
          replace hr1 := hr1.fresh (below_box (Obj.cells #[.bool (zeroT).never, .int .u8 (zeroT).c, .slice A5 n5 c5] 25)) (Nat.le_refl _)
          replace hr2 := hr2.fresh (below_box (Obj.cells #[.bool (zeroT).never, .int .u8 (zeroT).c, .slice A5 n5 c5] 25)) (Nat.le_refl _)
          clear x0 x1 x2 y0 y1 y2 l3 l4 m0 m1 l5
          generalize w5.alloc (Obj.cells #[.bool (zeroT).never, .int .u8 (zeroT).c, .slice A5 n5 c5] 25) = w6 at st hmu hz6 hr1 hr2 ⊢
          try rw [← hz6]
          generalize w5.heap.size = g8 at st hz6 ⊢
          clear hr5 hz6
          refine (sum2_any hr1 hr2 HG').mono ?_
          rintro e w7 ⟨A7, n7, c7, rfl, hr5, hbx⟩
          rw [Hall.out] at hr5 ⊢
          simp only [Bool.false_eq_true, if_false] at hr5 ⊢
          replace st := st.below hbx
          replace hmu := hmu.below hbx hmu.lt
          clear hbx
          clear hr1 hr2
          obtain ⟨A1, n1, c1, x0, x1, x2, hr1⟩ := st.val g3 a (by simp)
          obtain ⟨A2', n2', c2', y0, y1, y2, hr2⟩ := st.val g4 b (by simp)
          have l3 := st.lt g3 a (by simp)
          have l4 := st.lt g4 b (by simp)
          have l5 : g5 < w7.heap.size := hmu.lt
          have m0 : w7.cell? ⟨g5, 0, none⟩ = some (.int .i64 V) := hmu.cell 0
          have m1 : w7.cell? ⟨g5, 1, none⟩ = some (.int .u8 C) := hmu.cell 1
          go_wp2_with fail
          replace st := st.new (zeroT) hr5
          replace hmu := hmu.below (below_box (Obj.cells #[.bool (zeroT).never, .int .u8 (zeroT).c, .slice A7 n7 c7] 25)) hmu.lt
          have hz6 : (w7.alloc (Obj.cells #[.bool (zeroT).never, .int .u8 (zeroT).c, .slice A7 n7 c7] 25)).heap.size = w7.heap.size + 1 := by simp
          replace hr1 := hr1.fresh (below_box (Obj.cells #[.bool (zeroT).never, .int .u8 (zeroT).c, .slice A7 n7 c7] 25)) (Nat.le_refl _)
          replace hr2 := hr2.fresh (below_box (Obj.cells #[.bool (zeroT).never, .int .u8 (zeroT).c, .slice A7 n7 c7] 25)) (Nat.le_refl _)
          clear x0 x1 x2 y0 y1 y2 l3 l4 m0 m1 l5
          generalize w7.alloc (Obj.cells #[.bool (zeroT).never, .int .u8 (zeroT).c, .slice A7 n7 c7] 25) = w8 at st hmu hz6 hr1 hr2 ⊢
          try rw [← hz6]
          generalize w7.heap.size = g10 at st hz6 ⊢
          clear hr5 hz6
          refine (scale_any_t C V (.agg #[.bool (a).never, .int .u8 (a).c, .slice A1 n1 c1]) a w8 _ ⟨A1, n1, c1, rfl, hr1⟩ (Nat.le_refl _) (Nat.le_trans (great_vars HG' a (by simp)) (by omega))).mono ?_
          rintro e w9 ⟨A9, n9, c9, rfl, hr5, hbx⟩
          rw [Hsc.out] at hr5 ⊢
          simp only [if_true] at hr5 ⊢
          replace st := st.below hbx
          replace hmu := hmu.below hbx hmu.lt
          clear hbx
          clear hr1 hr2
          obtain ⟨A1, n1, c1, x0, x1, x2, hr1⟩ := st.val g3 a (by simp)
          obtain ⟨A2', n2', c2', y0, y1, y2, hr2⟩ := st.val g4 b (by simp)
          have l3 := st.lt g3 a (by simp)
          have l4 := st.lt g4 b (by simp)
          have l5 : g5 < w9.heap.size := hmu.lt
          have m0 : w9.cell? ⟨g5, 0, none⟩ = some (.int .i64 V) := hmu.cell 0
          have m1 : w9.cell? ⟨g5, 1, none⟩ = some (.int .u8 C) := hmu.cell 1
          go_wp2_with fail
          replace st := st.new (scaleT C V a) hr5
          replace hmu := hmu.below (below_box (Obj.cells #[.bool (scaleT C V a).never, .int .u8 (scaleT C V a).c, .slice A9 n9 c9] 25)) hmu.lt
          have hz6 : (w9.alloc (Obj.cells #[.bool (scaleT C V a).never, .int .u8 (scaleT C V a).c, .slice A9 n9 c9] 25)).heap.size = w9.heap.size + 1 := by simp
          replace hr1 := hr1.fresh (below_box (Obj.cells #[.bool (scaleT C V a).never, .int .u8 (scaleT C V a).c, .slice A9 n9 c9] 25)) (Nat.le_refl _)
          replace hr2 := hr2.fresh (below_box (Obj.cells #[.bool (scaleT C V a).never, .int .u8 (scaleT C V a).c, .slice A9 n9 c9] 25)) (Nat.le_refl _)
          clear x0 x1 x2 y0 y1 y2 l3 l4 m0 m1 l5
          generalize w9.alloc (Obj.cells #[.bool (scaleT C V a).never, .int .u8 (scaleT C V a).c, .slice A9 n9 c9] 25) = w10 at st hmu hz6 hr1 hr2 ⊢
          try rw [← hz6]
          generalize w9.heap.size = g12 at st hz6 ⊢
          clear hr5 hz6
          refine (refMay_at (.agg #[.bool (b).never, .int .u8 (b).c, .slice A2' n2' c2']) b false Hmb.out w10 _ ⟨A2', n2', c2', rfl, hr2⟩ (Nat.le_refl _)).mono ?_; rintro e w11 ⟨rfl, hbx⟩
          replace st := st.below hbx
          replace hmu := hmu.below hbx hmu.lt
          clear hbx hr1 hr2
          go_wp2_with fail
          refine (works_any _).mono ?_; rintro e w12 ⟨rfl, hbx⟩
          go_wp2_with fail
          go_ret
          exact ⟨rfl, (st.below hbx).bel⟩
        · have Hmb := Lib.hid hmb
          clear hmb
          have Hall : Hid (allMay [a, b] = true) := Lib.hid (by simp [allMay, Hma.out, Hmb.out])
          obtain ⟨A1, n1, c1, x0, x1, x2, hr1⟩ := st.val g3 a (by simp)
          obtain ⟨A2', n2', c2', y0, y1, y2, hr2⟩ := st.val g4 b (by simp)
          have l3 := st.lt g3 a (by simp)
          have l4 := st.lt g4 b (by simp)
          have l5 : g5 < w4.heap.size := hmu.lt
          have m0 : w4.cell? ⟨g5, 0, none⟩ = some (.int .i64 V) := hmu.cell 0
          have m1 : w4.cell? ⟨g5, 1, none⟩ = some (.int .u8 C) := hmu.cell 1
          go_wp2_with fail
          refine (join2_any hr1 hr2 HG').mono ?_
          rintro e w5 ⟨A5, n5, c5, rfl, hr5, hbx⟩
          rw [Hall.out] at hr5 ⊢
          simp only [if_true] at hr5 ⊢
          replace st := st.below hbx
          replace hmu := hmu.below hbx hmu.lt
          clear hbx
          clear x0 x1 x2 y0 y1 y2 m0 m1 l3 l4 l5 hr1 hr2
          obtain ⟨A1, n1, c1, x0, x1, x2, hr1⟩ := st.val g3 a (by simp)
          obtain ⟨A2', n2', c2', y0, y1, y2, hr2⟩ := st.val g4 b (by simp)
          have l3 := st.lt g3 a (by simp)
          have l4 := st.lt g4 b (by simp)
          have l5 : g5 < w5.heap.size := hmu.lt
          have m0 : w5.cell? ⟨g5, 0, none⟩ = some (.int .i64 V) := hmu.cell 0
          have m1 : w5.cell? ⟨g5, 1, none⟩ = some (.int .u8 C) := hmu.cell 1
          go_wp2_with fail
          replace st := st.new (joinT [a, b]) hr5
          replace hmu := hmu.below (below_box (Obj.cells #[.bool (joinT [a, b]).never, .int .u8 (joinT [a, b]).c, .slice A5 n5 c5] 25)) hmu.lt
          have hz6 : (w5.alloc (Obj.cells #[.bool (joinT [a, b]).never, .int .u8 (joinT [a, b]).c, .slice A5 n5 c5] 25)).heap.size = w5.heap.size + 1 := by simp
          replace hr1 := hr1.fresh (below_box (Obj.cells #[.bool (joinT [a, b]).never, .int .u8 (joinT [a, b]).c, .slice A5 n5 c5] 25)) (Nat.le_refl _)
          replace hr2 := hr2.fresh (below_box (Obj.cells #[.bool (joinT [a, b]).never, .int .u8 (joinT [a, b]).c, .slice A5 n5 c5] 25)) (Nat.le_refl _)
          clear x0 x1 x2 y0 y1 y2 l3 l4 m0 m1 l5
          generalize w5.alloc (Obj.cells #[.bool (joinT [a, b]).never, .int .u8 (joinT [a, b]).c, .slice A5 n5 c5] 25) = w6 at st hmu hz6 hr1 hr2 ⊢
          try rw [← hz6]
          generalize w5.heap.size = g8 at st hz6 ⊢
          clear hr5 hz6
          refine (sum2_any hr1 hr2 HG').mono ?_
          rintro e w7 ⟨A7, n7, c7, rfl, hr5, hbx⟩
          rw [Hall.out] at hr5 ⊢
          simp only [if_true] at hr5 ⊢
          replace st := st.below hbx
          replace hmu := hmu.below hbx hmu.lt
          clear hbx
          clear hr1 hr2
          obtain ⟨A1, n1, c1, x0, x1, x2, hr1⟩ := st.val g3 a (by simp)
          obtain ⟨A2', n2', c2', y0, y1, y2, hr2⟩ := st.val g4 b (by simp)
          have l3 := st.lt g3 a (by simp)
          have l4 := st.lt g4 b (by simp)
          have l5 : g5 < w7.heap.size := hmu.lt
          have m0 : w7.cell? ⟨g5, 0, none⟩ = some (.int .i64 V) := hmu.cell 0
          have m1 : w7.cell? ⟨g5, 1, none⟩ = some (.int .u8 C) := hmu.cell 1
          go_wp2_with fail
          replace st := st.new (sumT [a, b]) hr5
          replace hmu := hmu.below (below_box (Obj.cells #[.bool (sumT [a, b]).never, .int .u8 (sumT [a, b]).c, .slice A7 n7 c7] 25)) hmu.lt
          have hz6 : (w7.alloc (Obj.cells #[.bool (sumT [a, b]).never, .int .u8 (sumT [a, b]).c, .slice A7 n7 c7] 25)).heap.size = w7.heap.size + 1 := by simp
          replace hr1 := hr1.fresh (below_box (Obj.cells #[.bool (sumT [a, b]).never, .int .u8 (sumT [a, b]).c, .slice A7 n7 c7] 25)) (Nat.le_refl _)
          replace hr2 := hr2.fresh (below_box (Obj.cells #[.bool (sumT [a, b]).never, .int .u8 (sumT [a, b]).c, .slice A7 n7 c7] 25)) (Nat.le_refl _)
          clear x0 x1 x2 y0 y1 y2 l3 l4 m0 m1 l5
          generalize w7.alloc (Obj.cells #[.bool (sumT [a, b]).never, .int .u8 (sumT [a, b]).c, .slice A7 n7 c7] 25) = w8 at st hmu hz6 hr1 hr2 ⊢
          try rw [← hz6]
          generalize w7.heap.size = g10 at st hz6 ⊢
          clear hr5 hz6
          refine (scale_any_t C V (.agg #[.bool (a).never, .int .u8 (a).c, .slice A1 n1 c1]) a w8 _ ⟨A1, n1, c1, rfl, hr1⟩ (Nat.le_refl _) (Nat.le_trans (great_vars HG' a (by simp)) (by omega))).mono ?_
          rintro e w9 ⟨A9, n9, c9, rfl, hr5, hbx⟩
          rw [Hsc.out] at hr5 ⊢
          simp only [if_true] at hr5 ⊢
          replace st := st.below hbx
          replace hmu := hmu.below hbx hmu.lt
          clear hbx
          clear hr1 hr2
          obtain ⟨A1, n1, c1, x0, x1, x2, hr1⟩ := st.val g3 a (by simp)
          obtain ⟨A2', n2', c2', y0, y1, y2, hr2⟩ := st.val g4 b (by simp)
          have l3 := st.lt g3 a (by simp)
          have l4 := st.lt g4 b (by simp)
          have l5 : g5 < w9.heap.size := hmu.lt
          have m0 : w9.cell? ⟨g5, 0, none⟩ = some (.int .i64 V) := hmu.cell 0
          have m1 : w9.cell? ⟨g5, 1, none⟩ = some (.int .u8 C) := hmu.cell 1
          go_wp2_with fail
          replace st := st.new (scaleT C V a) hr5
          replace hmu := hmu.below (below_box (Obj.cells #[.bool (scaleT C V a).never, .int .u8 (scaleT C V a).c, .slice A9 n9 c9] 25)) hmu.lt
          have hz6 : (w9.alloc (Obj.cells #[.bool (scaleT C V a).never, .int .u8 (scaleT C V a).c, .slice A9 n9 c9] 25)).heap.size = w9.heap.size + 1 := by simp
          replace hr1 := hr1.fresh (below_box (Obj.cells #[.bool (scaleT C V a).never, .int .u8 (scaleT C V a).c, .slice A9 n9 c9] 25)) (Nat.le_refl _)
          replace hr2 := hr2.fresh (below_box (Obj.cells #[.bool (scaleT C V a).never, .int .u8 (scaleT C V a).c, .slice A9 n9 c9] 25)) (Nat.le_refl _)
          clear x0 x1 x2 y0 y1 y2 l3 l4 m0 m1 l5
          generalize w9.alloc (Obj.cells #[.bool (scaleT C V a).never, .int .u8 (scaleT C V a).c, .slice A9 n9 c9] 25) = w10 at st hmu hz6 hr1 hr2 ⊢
          try rw [← hz6]
          generalize w9.heap.size = g12 at st hz6 ⊢
          clear hr5 hz6
          refine (refMay_at (.agg #[.bool (b).never, .int .u8 (b).c, .slice A2' n2' c2']) b true Hmb.out w10 _ ⟨A2', n2', c2', rfl, hr2⟩ (Nat.le_refl _)).mono ?_; rintro e w11 ⟨rfl, hbx⟩
          replace st := st.below hbx
          replace hmu := hmu.below hbx hmu.lt
          clear hbx hr1 hr2
          obtain ⟨A1, n1, c1, x0, x1, x2, hr1⟩ := st.val g3 a (by simp)
          obtain ⟨A2', n2', c2', y0, y1, y2, hr2⟩ := st.val g4 b (by simp)
          obtain ⟨Ap, np, cp, p0, p1, p2, hrp⟩ := st.val g8 (joinT [a, b]) (by simp)
          obtain ⟨Aq, nq', cq, q0, q1, q2, hrq⟩ := st.val g10 (sumT [a, b]) (by simp)
          have l3 := st.lt g3 a (by simp)
          have l4 := st.lt g4 b (by simp)
          have l8 := st.lt g8 (joinT [a, b]) (by simp)
          have l10 := st.lt g10 (sumT [a, b]) (by simp)
          have hva := great_vars HG' a (by simp)
          have hvb := great_vars HG' b (by simp)
          have Hbig : Hid (a.vars.length + b.vars.length ≤ 1099511627776) := Lib.hid (by omega)
          have Hbig1 : Hid (a.vars.length ≤ 1099511627776) := Lib.hid (by omega)
          have Hva := Lib.hid hva
          have Htab1 := Lib.hid (Htab.out.below st.bel)
          clear hva hvb
          go_wp2_with fail
          go_region_held3 (fun w' => w'.cell? ⟨g8, 0, none⟩ = some (.bool (joinT [a, b]).never) ∧ w'.cell? ⟨g8, 1, none⟩ = some (.int .u8 (joinT [a, b]).c) ∧ w'.cell? ⟨g8, 2, none⟩ = some (.slice Ap np cp) ∧ w'.cell? ⟨g3, 0, none⟩ = some (.bool (a).never) ∧ w'.cell? ⟨g3, 1, none⟩ = some (.int .u8 (a).c) ∧ w'.cell? ⟨g3, 2, none⟩ = some (.slice A1 n1 c1) ∧ w'.cell? ⟨g4, 0, none⟩ = some (.bool (b).never) ∧ w'.cell? ⟨g4, 1, none⟩ = some (.int .u8 (b).c) ∧ w'.cell? ⟨g4, 2, none⟩ = some (.slice A2' n2' c2') ∧ w'.cell? ⟨g10, 0, none⟩ = some (.bool (sumT [a, b]).never) ∧ w'.cell? ⟨g10, 1, none⟩ = some (.int .u8 (sumT [a, b]).c) ∧ w'.cell? ⟨g10, 2, none⟩ = some (.slice Aq nq' cq))
            (first | go_keep | exact ⟨(hbB.cell (p := ⟨g8, 0, none⟩) l8).trans p0, (hbB.cell (p := ⟨g8, 1, none⟩) l8).trans p1, (hbB.cell (p := ⟨g8, 2, none⟩) l8).trans p2, (hbB.cell (p := ⟨g3, 0, none⟩) l3).trans x0, (hbB.cell (p := ⟨g3, 1, none⟩) l3).trans x1, (hbB.cell (p := ⟨g3, 2, none⟩) l3).trans x2, (hbB.cell (p := ⟨g4, 0, none⟩) l4).trans y0, (hbB.cell (p := ⟨g4, 1, none⟩) l4).trans y1, (hbB.cell (p := ⟨g4, 2, none⟩) l4).trans y2, (hbB.cell (p := ⟨g10, 0, none⟩) l10).trans q0, (hbB.cell (p := ⟨g10, 1, none⟩) l10).trans q1, (hbB.cell (p := ⟨g10, 2, none⟩) l10).trans q2⟩ | exact ⟨(hbC.cell (p := ⟨g8, 0, none⟩) l8).trans p0, (hbC.cell (p := ⟨g8, 1, none⟩) l8).trans p1, (hbC.cell (p := ⟨g8, 2, none⟩) l8).trans p2, (hbC.cell (p := ⟨g3, 0, none⟩) l3).trans x0, (hbC.cell (p := ⟨g3, 1, none⟩) l3).trans x1, (hbC.cell (p := ⟨g3, 2, none⟩) l3).trans x2, (hbC.cell (p := ⟨g4, 0, none⟩) l4).trans y0, (hbC.cell (p := ⟨g4, 1, none⟩) l4).trans y1, (hbC.cell (p := ⟨g4, 2, none⟩) l4).trans y2, (hbC.cell (p := ⟨g10, 0, none⟩) l10).trans q0, (hbC.cell (p := ⟨g10, 1, none⟩) l10).trans q1, (hbC.cell (p := ⟨g10, 2, none⟩) l10).trans q2⟩ | exact ⟨(hbD.cell (p := ⟨g8, 0, none⟩) l8).trans p0, (hbD.cell (p := ⟨g8, 1, none⟩) l8).trans p1, (hbD.cell (p := ⟨g8, 2, none⟩) l8).trans p2, (hbD.cell (p := ⟨g3, 0, none⟩) l3).trans x0, (hbD.cell (p := ⟨g3, 1, none⟩) l3).trans x1, (hbD.cell (p := ⟨g3, 2, none⟩) l3).trans x2, (hbD.cell (p := ⟨g4, 0, none⟩) l4).trans y0, (hbD.cell (p := ⟨g4, 1, none⟩) l4).trans y1, (hbD.cell (p := ⟨g4, 2, none⟩) l4).trans y2, (hbD.cell (p := ⟨g10, 0, none⟩) l10).trans q0, (hbD.cell (p := ⟨g10, 1, none⟩) l10).trans q1, (hbD.cell (p := ⟨g10, 2, none⟩) l10).trans q2⟩ | exact ⟨(hbE.cell (p := ⟨g8, 0, none⟩) l8).trans p0, (hbE.cell (p := ⟨g8, 1, none⟩) l8).trans p1, (hbE.cell (p := ⟨g8, 2, none⟩) l8).trans p2, (hbE.cell (p := ⟨g3, 0, none⟩) l3).trans x0, (hbE.cell (p := ⟨g3, 1, none⟩) l3).trans x1, (hbE.cell (p := ⟨g3, 2, none⟩) l3).trans x2, (hbE.cell (p := ⟨g4, 0, none⟩) l4).trans y0, (hbE.cell (p := ⟨g4, 1, none⟩) l4).trans y1, (hbE.cell (p := ⟨g4, 2, none⟩) l4).trans y2, (hbE.cell (p := ⟨g10, 0, none⟩) l10).trans q0, (hbE.cell (p := ⟨g10, 1, none⟩) l10).trans q1, (hbE.cell (p := ⟨g10, 2, none⟩) l10).trans q2⟩ | exact ⟨(hbF.cell (p := ⟨g8, 0, none⟩) l8).trans p0, (hbF.cell (p := ⟨g8, 1, none⟩) l8).trans p1, (hbF.cell (p := ⟨g8, 2, none⟩) l8).trans p2, (hbF.cell (p := ⟨g3, 0, none⟩) l3).trans x0, (hbF.cell (p := ⟨g3, 1, none⟩) l3).trans x1, (hbF.cell (p := ⟨g3, 2, none⟩) l3).trans x2, (hbF.cell (p := ⟨g4, 0, none⟩) l4).trans y0, (hbF.cell (p := ⟨g4, 1, none⟩) l4).trans y1, (hbF.cell (p := ⟨g4, 2, none⟩) l4).trans y2, (hbF.cell (p := ⟨g10, 0, none⟩) l10).trans q0, (hbF.cell (p := ⟨g10, 1, none⟩) l10).trans q1, (hbF.cell (p := ⟨g10, 2, none⟩) l10).trans q2⟩ | exact ⟨(hbG.cell (p := ⟨g8, 0, none⟩) l8).trans p0, (hbG.cell (p := ⟨g8, 1, none⟩) l8).trans p1, (hbG.cell (p := ⟨g8, 2, none⟩) l8).trans p2, (hbG.cell (p := ⟨g3, 0, none⟩) l3).trans x0, (hbG.cell (p := ⟨g3, 1, none⟩) l3).trans x1, (hbG.cell (p := ⟨g3, 2, none⟩) l3).trans x2, (hbG.cell (p := ⟨g4, 0, none⟩) l4).trans y0, (hbG.cell (p := ⟨g4, 1, none⟩) l4).trans y1, (hbG.cell (p := ⟨g4, 2, none⟩) l4).trans y2, (hbG.cell (p := ⟨g10, 0, none⟩) l10).trans q0, (hbG.cell (p := ⟨g10, 1, none⟩) l10).trans q1, (hbG.cell (p := ⟨g10, 2, none⟩) l10).trans q2⟩)
            ((first | (go_at_call 39; refine (refJoin_t (.agg #[.bool (a).never, .int .u8 (a).c, .slice A1 n1 c1]) (.agg #[.bool (b).never, .int .u8 (b).c, .slice A2' n2' c2']) a b _ w11.heap.size w11.heap.size (by exact ⟨A1, n1, c1, rfl, hr1⟩) (by exact ⟨A2', n2', c2', rfl, hr2⟩) (by exact Nat.le_refl _) (by exact Nat.le_refl _) Hbig.out).mono ?_; rintro e w12 ⟨Aj, nj, cj, rfl, hrj, hb12⟩; have hbB : Below w11.heap.size w11 w12 := ((Below.refl _ _).drew).trans hb12) | (go_at_call_of 38 (Value.agg #[Value.bool (joinT [a, b]).never, Value.int IntKind.u8 (joinT [a, b]).c, Value.slice Ap np cp]); refine (refSame_at (.agg #[.bool (joinT [a, b]).never, .int .u8 (joinT [a, b]).c, .slice Ap np cp]) (.agg #[.bool (rJoin a b).never, .int .u8 (rJoin a b).c, .slice Aj nj cj]) (joinT [a, b]) (rJoin a b) true ((sameB_iff _ _).2 (rJoin_two Hma.out Hmb.out).symm) w12 w11.heap.size w12.heap.size ⟨Ap, np, cp, rfl, hrp.below hbB⟩ ⟨Aj, nj, cj, rfl, hrj⟩ hbB.size (Nat.le_refl _)).mono ?_; rintro e w13 ⟨rfl, hb13⟩; have hbC : Below w11.heap.size w11 w13 := hbB.trans (hb13.mono hbB.size)) | (go_at_call 40; refine (refSum_t (.agg #[.bool (a).never, .int .u8 (a).c, .slice A1 n1 c1]) (.agg #[.bool (b).never, .int .u8 (b).c, .slice A2' n2' c2']) a b w13 w11.heap.size w11.heap.size ⟨A1, n1, c1, rfl, hr1.below hbC⟩ ⟨A2', n2', c2', rfl, hr2.below hbC⟩ hbC.size hbC.size).mono ?_; rintro e w14 ⟨As, ns, cs, rfl, hrs, hb14⟩; have hbD : Below w11.heap.size w11 w14 := hbC.trans (hb14.mono hbC.size)) | (go_at_call_of 38 (Value.agg #[Value.bool (sumT [a, b]).never, Value.int IntKind.u8 (sumT [a, b]).c, Value.slice Aq nq' cq]); refine (refSame_at (.agg #[.bool (sumT [a, b]).never, .int .u8 (sumT [a, b]).c, .slice Aq nq' cq]) (.agg #[.bool (rSum a b).never, .int .u8 (rSum a b).c, .slice As ns cs]) (sumT [a, b]) (rSum a b) true ((sameB_iff _ _).2 (rSum_two Hma.out Hmb.out).symm) w14 w11.heap.size w14.heap.size ⟨Aq, nq', cq, rfl, hrq.below hbD⟩ ⟨As, ns, cs, rfl, hrs⟩ hbD.size (Nat.le_refl _)).mono ?_; rintro e w15 ⟨rfl, hb15⟩; have hbE : Below w11.heap.size w11 w15 := hbD.trans (hb15.mono hbD.size)) | (go_at_call 33; refine (text_at_t (.agg #[.bool (a).never, .int .u8 (a).c, .slice A1 n1 c1]) a Hma.out w15 w11.heap.size ⟨A1, n1, c1, rfl, hr1.below hbE⟩ hbE.size (Htab1.out.below hbE) Hbig1.out).mono ?_; rintro e w16 ⟨rfl, hb16⟩; have hbF : Below w11.heap.size w11 w16 := hbE.trans (hb16.mono hbE.size)) | (go_at_call 41; refine (refText_at (.agg #[.bool (a).never, .int .u8 (a).c, .slice A1 n1 c1]) a Hma.out w16 w11.heap.size ⟨A1, n1, c1, rfl, hr1.below hbF⟩ hbF.size Hbig1.out).mono ?_; rintro e w17 ⟨rfl, hb17⟩; have hbG : Below w11.heap.size w11 w17 := hbF.trans (hb17.mono hbF.size))))
          replace st := st.below hbG
          replace hmu := hmu.below hbG hmu.lt
          clear hr1 hr2 hrp hrq hrj hrs hb12 hb13 hb14 hb15 hb16 hb17 hbB hbC hbD hbE hbF hbG x0 x1 x2 y0 y1 y2 p0 p1 p2 q0 q1 q2 l3 l4 l8 l10 Htab1
          have m0 : w17.cell? ⟨g5, 0, none⟩ = some (.int .i64 V) := hmu.cell 0
          have m1 : w17.cell? ⟨g5, 1, none⟩ = some (.int .u8 C) := hmu.cell 1
          go_wp2_with fail
          refine (refIs_at C V true Hib.out w17).mono ?_; rintro e w18 ⟨rfl, hbx⟩
          replace st := st.below hbx
          replace hmu := hmu.below hbx hmu.lt
          clear hbx m0 m1
          have m0 : w18.cell? ⟨g5, 0, none⟩ = some (.int .i64 V) := hmu.cell 0
          have m1 : w18.cell? ⟨g5, 1, none⟩ = some (.int .u8 C) := hmu.cell 1
          obtain ⟨A1, n1, c1, x0, x1, x2, hr1⟩ := st.val g3 a (by simp)
          obtain ⟨Ap, np, cp, p0, p1, p2, hrp⟩ := st.val g12 (scaleT C V a) (by simp)
          have l3 := st.lt g3 a (by simp)
          have l12 := st.lt g12 (scaleT C V a) (by simp)
          have l5 : g5 < w18.heap.size := hmu.lt
          have hva2 := Hva.out
          have Hbig2 : Hid (a.vars.length ≤ 1000000) := Lib.hid (by omega)
          clear hva2
          go_wp2_with fail
          go_region_held3 (fun w' => w'.cell? ⟨g12, 0, none⟩ = some (.bool (scaleT C V a).never) ∧ w'.cell? ⟨g12, 1, none⟩ = some (.int .u8 (scaleT C V a).c) ∧ w'.cell? ⟨g12, 2, none⟩ = some (.slice Ap np cp) ∧ w'.cell? ⟨g5, 0, none⟩ = some (.int .i64 V) ∧ w'.cell? ⟨g5, 1, none⟩ = some (.int .u8 C) ∧ w'.cell? ⟨g3, 0, none⟩ = some (.bool (a).never) ∧ w'.cell? ⟨g3, 1, none⟩ = some (.int .u8 (a).c) ∧ w'.cell? ⟨g3, 2, none⟩ = some (.slice A1 n1 c1))
            (first | go_keep | exact ⟨(hbB.cell (p := ⟨g12, 0, none⟩) l12).trans p0, (hbB.cell (p := ⟨g12, 1, none⟩) l12).trans p1, (hbB.cell (p := ⟨g12, 2, none⟩) l12).trans p2, (hbB.cell (p := ⟨g5, 0, none⟩) l5).trans m0, (hbB.cell (p := ⟨g5, 1, none⟩) l5).trans m1, (hbB.cell (p := ⟨g3, 0, none⟩) l3).trans x0, (hbB.cell (p := ⟨g3, 1, none⟩) l3).trans x1, (hbB.cell (p := ⟨g3, 2, none⟩) l3).trans x2⟩ | exact ⟨(hbC.cell (p := ⟨g12, 0, none⟩) l12).trans p0, (hbC.cell (p := ⟨g12, 1, none⟩) l12).trans p1, (hbC.cell (p := ⟨g12, 2, none⟩) l12).trans p2, (hbC.cell (p := ⟨g5, 0, none⟩) l5).trans m0, (hbC.cell (p := ⟨g5, 1, none⟩) l5).trans m1, (hbC.cell (p := ⟨g3, 0, none⟩) l3).trans x0, (hbC.cell (p := ⟨g3, 1, none⟩) l3).trans x1, (hbC.cell (p := ⟨g3, 2, none⟩) l3).trans x2⟩ | exact ⟨(hbD.cell (p := ⟨g12, 0, none⟩) l12).trans p0, (hbD.cell (p := ⟨g12, 1, none⟩) l12).trans p1, (hbD.cell (p := ⟨g12, 2, none⟩) l12).trans p2, (hbD.cell (p := ⟨g5, 0, none⟩) l5).trans m0, (hbD.cell (p := ⟨g5, 1, none⟩) l5).trans m1, (hbD.cell (p := ⟨g3, 0, none⟩) l3).trans x0, (hbD.cell (p := ⟨g3, 1, none⟩) l3).trans x1, (hbD.cell (p := ⟨g3, 2, none⟩) l3).trans x2⟩)
            ((first | (go_at_call 42; refine (refScale_t C V (.agg #[.bool (a).never, .int .u8 (a).c, .slice A1 n1 c1]) a _ w18.heap.size (by exact ⟨A1, n1, c1, rfl, hr1⟩) (by exact Nat.le_refl _) Hbig2.out).mono ?_; rintro e w20 ⟨Aj, nj, cj, rfl, hrj, hb12⟩; have hbB : Below w18.heap.size w18 w20 := ((Below.refl _ _).drew).trans hb12) | (go_at_call 38; refine (refSame_at (.agg #[.bool (scaleT C V a).never, .int .u8 (scaleT C V a).c, .slice Ap np cp]) (.agg #[.bool (rScale C V a).never, .int .u8 (rScale C V a).c, .slice Aj nj cj]) (scaleT C V a) (rScale C V a) true ((sameB_iff _ _).2 (rScale_eq Hib.out Hma.out).symm) w20 w18.heap.size w20.heap.size ⟨Ap, np, cp, rfl, hrp.below hbB⟩ ⟨Aj, nj, cj, rfl, hrj⟩ hbB.size (Nat.le_refl _)).mono ?_; rintro e w21 ⟨rfl, hb13⟩; have hbC : Below w18.heap.size w18 w21 := hbB.trans (hb13.mono hbB.size)) | (go_at_call 32; refine (works_any w21).mono ?_; rintro e w22 ⟨rfl, hb14⟩; have hbD : Below w18.heap.size w18 w22 := hbC.trans (hb14.mono hbC.size))))
          go_wp2_with fail
          go_ret
          exact ⟨rfl, (st.below hbD).bel⟩
  ·
    go_wp2_with fail
    refine (works_any _).mono ?_; rintro e w3 ⟨rfl, hbx⟩
    go_wp2_with fail
    go_ret
    exact ⟨rfl, (st.below hbx).bel⟩

theorem walk_termOps (w : World) (htab : Tab w) (v1 : Value) (h1 : TermIn w v1) (v2 : Value) (h2 : TermIn w v2) (v3 : Value) (h3 : MuIn v3) :
    Calls Tryd.prog 10 #[v1, v2, v3] w fun e w' => e = .returned (.bool true) ∧ Below w.heap.size w w' := by
  obtain ⟨a, ⟨A, n, c, rfl, hr⟩, _⟩ := h1
  obtain ⟨b, ⟨A2, n2, c2, rfl, hr2⟩, _⟩ := h2
  obtain ⟨V, C, rfl, _⟩ := h3
  exact walkA_termOps A n c a A2 n2 c2 b V C w hr hr2 htab

/-! ### the row's step -/
namespace termOps
set_option maxRecDepth 100000 in
theorem lifted (os : Os) (started : os.Started) (H : Type) (enc : TypeId × Value → H) :
    ReturnsInHanded {} Tryd.checked os 10 .any (fun w args => (Rows.termOpsSpec.pre enc Tryd.prog Tryd.f10 [] false w args ∧ laidMetH Tryd.prog laid3 w) ∧ sizedMet enc Tryd.prog Tryd.f10 (OpenSpec.ofChange Rows.termOpsSpec) false w args) (Rows.termOpsSpec.post enc Tryd.prog Tryd.f10 false true false false) := by
  refine returnsInHanded_of_change_and (C := Tryd.checked) (X := fun w _ => laidMetH Tryd.prog laid3 w) (fun _ _ _ hh h => h.of_heap hh) own started (by kernel_rfl) Tryd.func10
    (ChangeSpec.witness_shaped (enc := enc) (C := Tryd.checked) (os := os) (X := fun w _ => laidMetH Tryd.prog laid3 w) false (World.doorLaid Tryd.prog 400 os) #[.agg #[.bool false, .int .u8 0, .slice none 0 0], .agg #[.bool false, .int .u8 0, .slice none 0 0], .agg #[.int .i64 0, .int .u8 0]] 8 rfl (World.shaped_of_RefB (by kernel_rfl) (by kernel_rfl)) (by kernel_rfl) (by kernel_rfl) (by kernel_rfl) (door_met os _)) ?_
  intro W base args ds gs before hval0 hW hcnd hsz0 hL _
  have hsz : (DataW.weightsEach Tryd.prog (Tryd.f10.params.toList ++ Rows.termOpsSpec.plain.varTypes Tryd.prog) (ds ++ gs)).all (· ≤ reachBytes) = true := hsz0
  have hval : ∀ (j : Nat) t v, Tryd.f10.params[j]? = some t → args[j]? = some v → Value.okWide Tryd.prog W .any base t v := hval0
  have hW' := hW
  obtain ⟨p, q, hA0, hV, rfl, hfz, hnd⟩ := hW
  have hA : DataW.TrodAll enc Tryd.prog W 0 (fun _ => true) true Tryd.f10.params.toList args.toList ds p := hA0
  rw [Tryd.params10] at hA hval hsz
  obtain ⟨v0, vs0, d0, ds0, p0, q0, hargs, rfl, rfl, h0, r_0⟩ := trodAll_cons hA
  obtain ⟨v1, vs1, d1, ds1, p1, q1, rfl, rfl, rfl, h1, r_1⟩ := trodAll_cons r_0
  obtain ⟨v2, vs2, d2, ds2, p2, q2, rfl, rfl, rfl, h2, r_2⟩ := trodAll_cons r_1
  obtain ⟨rfl, rfl, rfl⟩ := trodAll_nil r_2
  obtain rfl : args = #[v0, v1, v2] := by cases args; simp_all
  obtain ⟨rfl, rfl⟩ := trodVars_none hV
  have w0 := rd_term (hval 0 25 v0 rfl rfl) h0
  have w1 := rd_term (hval 1 25 v1 rfl rfl) h1
  have w2 := rd_mu (hval 2 31 v2 rfl rfl) h2
  refine (walk_termOps (w := W) (tab_of_laid hL) v0 w0 v1 w1 v2 w2).mono fun e W' ⟨he, bel⟩ => ?_
  subst he
  exact ⟨_, rfl, law_post laidOut (by kernel_rfl) rfl rfl Tryd.underlying4 hW' rfl rfl rfl bel⟩
theorem over : Rows.termOpsRow.holds Tryd.pinned (OpenSpec.ofChange Rows.termOpsSpec) :=
  OpenClaim.holds_of_wide 10 Tryd.f10 rfl rfl rfl rfl rfl rfl rfl ⟨rfl, rfl, rfl, rfl, rfl⟩ rfl rfl rfl rfl rfl (by kernel_rfl) Tryd.func10 (by kernel_rfl)
    (of_decide_eq_true (by kernel_rfl)) (by unfold Func.isWrapper; first | (rw [if_pos (by decide +kernel)]; kernel_rfl) | (rw [if_neg (by decide +kernel)]; exact ⟨rfl, rfl⟩))
    (fun os started H enc _ => lifted os started H enc)
theorem card : Rows.TermOpsCardSaid :=
  Claim7.holds_tied_plain_at .later [] [.data, .data, .data] true Rows.termOpsCard.stood.harness false
    over (fun _ h => by cases h) (by kernel_rfl) (fun _ h => by cases h) termOps_row_tie rfl ⟨rfl, rfl⟩ (by kernel_rfl) rfl
    (fun f fn hf hfn => by
      obtain rfl : f = 10 := Option.some.inj ((show Tryd.prog.funcNamed "usufruct/usufructlaw02.TermOps" = some 10 by kernel_rfl).symm.trans hf) |>.symm
      obtain rfl : fn = Tryd.f10 := (Option.some.inj (Tryd.func10.symm.trans hfn)).symm
      exact ⟨by kernel_rfl, fun j t ht => by
        rw [Tryd.params10] at ht
        have hm : t ∈ [25, 31] := by simpa using Array.mem_of_getElem? ht
        have hall : ([25, 31].all fun u => !Tryd.prog.wantsStandIn u) = true := by kernel_rfl
        exact (show Tryd.prog.wantsStandIn t = false by simpa using List.all_eq_true.1 hall t hm)⟩)
    (by kernel_rfl)
/-- the statement -/
theorem proved : Rows.TermOpsCardSaid := card
#print axioms proved
end termOps
end Go.Proofs.YtbccnfgceabopaaDoor
