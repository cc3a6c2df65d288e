/- TermCloses holds for every input: what is joined, summed, scaled may be, and texts tell terms apart. Conditions: the variables that the row lists are laid as the program's text lays them. -/
import Derived.Test.YtbccnfgceabopaaDoorLawU
import Derived.Test.YtbccnfgceabopaaDoorRefI
import Derived.Test.YtbccnfgceabopaaDoorTextI
import Derived.Test.YtbccnfgceabopaaDoorRowD
import Derived.BigQuiet
import Derived.Lib.QuietBelow
namespace Go.Proofs.YtbccnfgceabopaaDoor
set_option linter.unusedVariables false
set_option linter.unusedSimpArgs false
open Go.ChangeShapes Go.WideShapes Go.ChangeAt Go.RowKit

theorem may_at (v : Value) (t : TermD) (x : Int) (hx : mayE t = x) (w : World) (B : Nat) (hv : TermV w B v t) (hB : B ≤ w.heap.size) :
    Calls Tryd.prog 35 #[v] w fun e w' => e = .returned (.int .i64 x) ∧ Below w.heap.size w w' := by
  rw [← hx]; exact may_any v t w B hv hB
theorem is_at (c v : Int) (x : Int) (hx : isE c v = x) (w : World) :
    Calls Tryd.prog 36 #[.agg #[.int .i64 v, .int .u8 c]] w fun e w' => e = .returned (.int .i64 x) ∧ Below w.heap.size w w' := by
  rw [← hx]; exact is_any c v w
theorem same_at (v1 v2 : Value) (a b : TermD) (x : Bool) (hx : sameB a b = x) (w : World) (B B' : Nat) (h1 : TermV w B v1 a) (h2 : TermV w B' v2 b) (hB : B ≤ w.heap.size) (hB' : B' ≤ w.heap.size) :
    Calls Tryd.prog 37 #[v1, v2] w fun e w' => e = .returned (.bool x) ∧ Below w.heap.size w w' := by
  rw [← hx]; exact same_any v1 v2 a b w B B' h1 h2 hB hB'
theorem text_at_t (v : Value) (t : TermD) (ht : mayB t = true) (w : World) (B : Nat) (hv : TermV w B v t) (hB : B ≤ w.heap.size) (htab : Tab w) (hbig : t.vars.length ≤ 1099511627776) :
    Calls Tryd.prog 33 #[v] w fun e w' => e = .returned (.string (textT t)) ∧ Below w.heap.size w w' := by
  refine text_any_t v t w B hv hB htab hbig fun v hv => ?_
  rcases (may_iff t).1 ht with h | h
  · rw [h.2.2] at hv; simp at hv
  · have := h.2.2.2.2.2 v hv; omega
theorem scale_any_t (c v : Int) (tv : Value) (t : TermD) (w : World) (B : Nat) (hv : TermV w B tv t) (hB : B ≤ w.heap.size) (hbig : t.vars.length ≤ 1099511627776) :
    Calls Tryd.prog 31 #[.agg #[.int .i64 v, .int .u8 c], tv] w (RetTE (if isB c v && mayB t then scaleT c v t else zeroT) (if isB c v && mayB t then 0 else 2) w) := by
  cases h : (isB c v && mayB t)
  · exact scaleT_no c v tv t w B hv hB h
  · rw [Bool.and_eq_true] at h
    exact scaleT_yes c v tv t w B hv hB h.1 h.2 hbig

theorem text_same {a b : TermD} (ha : mayB a = true) (hb : mayB b = true) : ((textT a).toList == (textT b).toList) = sameB a b := by
  rw [str_eq]
  by_cases h : a = b
  · subst h
    simp [(sameB_iff a a).2 rfl]
  · have h1 : ¬ textT a = textT b := fun e => h (text_inj ha hb e)
    have h2 : sameB a b = false := by
      cases hs : sameB a b
      · rfl
      · exact absurd ((sameB_iff a b).1 hs) h
    rw [h2]; simp [h1]

set_option maxHeartbeats 4000000 in
set_option maxRecDepth 100000 in
theorem walkA_termCloses (A : Option Addr) (n c : Nat) (a : TermD) (A2 : Option Addr) (n2 c2 : Nat) (b : TermD) (V C : Int) (w : World)
    (hr : RdI .i64 w w.heap.size A n c a.vars) (hr2 : RdI .i64 w w.heap.size A2 n2 c2 b.vars) (htab : Tab w) :
    Calls Tryd.prog 11 #[.agg #[.bool a.never, .int .u8 a.c, .slice A n c], .agg #[.bool b.never, .int .u8 b.c, .slice A2 n2 c2], .agg #[.int .i64 V, .int .u8 C]] w fun e w' => e = .returned (.bool true) ∧ Below w.heap.size w w' := by
  have st1 := (St.start w).new a hr
  have st2 := st1.new b (st1.rd hr2)
  have st := st2.alloc (Obj.cells #[.int .i64 V, .int .u8 C] 31)
  have hmu := blk_new ((w.alloc (Obj.cells #[.bool a.never, .int .u8 a.c, .slice A n c] 25)).alloc (Obj.cells #[.bool b.never, .int .u8 b.c, .slice A2 n2 c2] 25)) #[.int .i64 V, .int .u8 C] 31
  rw [World.size_alloc, World.size_alloc] at hmu
  rw [World.size_alloc] at st
  have hz : (((w.alloc (Obj.cells #[.bool a.never, .int .u8 a.c, .slice A n c] 25)).alloc (Obj.cells #[.bool b.never, .int .u8 b.c, .slice A2 n2 c2] 25)).alloc (Obj.cells #[.int .i64 V, .int .u8 C] 31)).heap.size = w.heap.size + 1 + 1 + 1 := by simp
  have hr1 := st.rd hr
  have hr3 := st.rd hr2
  obtain ⟨G, hG⟩ : ∃ G, greatB [a, b] = G := ⟨_, rfl⟩
  have hgr := great2_any hr1 hr3
  rw [hG] at hgr
  have HG := Lib.hid hG
  have Hgr := Lib.hid hgr
  have Hst := Lib.hid st
  have Hmu := Lib.hid hmu
  have Htab := Lib.hid htab
  clear hG hgr hr st hr1 hr2 hr3 hmu st1 st2 htab
  go_enter Tryd.func11, Tryd.ntmps11
  go_wp2_with fail
  rw [← hz]
  refine Hgr.out.mono ?_; rintro e w2 ⟨rfl, hb2⟩
  have st := Hst.out.below hb2
  have hmu := Hmu.out.below hb2 Hmu.out.lt
  clear Hst hb2 Hgr hz Hmu
  generalize w.heap.size = g3 at st hmu ⊢
  cases G
  · generalize hg4 : g3 + 1 = g4 at st hmu ⊢
    generalize hg5 : g4 + 1 = g5 at hmu ⊢
    clear hg4 hg5
    have HG' := HG.out
    obtain ⟨A1, n1, c1, x0, x1, x2, hr1⟩ := st.val g3 a (by simp)
    go_wp2_with fail
    refine (may_any (.agg #[.bool (a).never, .int .u8 (a).c, .slice A1 n1 c1]) a w2 _ ⟨A1, n1, c1, rfl, hr1⟩ (Nat.le_refl _)).mono ?_; rintro e w3 ⟨rfl, hb3⟩
    replace st := st.below hb3
    replace hmu := hmu.below hb3 hmu.lt
    clear hb3 x0 x1 x2 hr1
    cases hma : mayB a
    · rw [mayE_no hma]
      clear hma
      go_wp2_with fail
      refine (works_any _).mono ?_; rintro e w4 ⟨rfl, hbx⟩
      go_wp2_with fail
      go_ret
      exact ⟨rfl, (st.below hbx).bel⟩
    · rw [mayE_yes hma]
      have Hma := Lib.hid hma
      clear hma
      obtain ⟨A2', n2', c2', y0, y1, y2, hr2⟩ := st.val g4 b (by simp)
      go_wp2_with fail
      refine (may_any (.agg #[.bool (b).never, .int .u8 (b).c, .slice A2' n2' c2']) b w3 _ ⟨A2', n2', c2', rfl, hr2⟩ (Nat.le_refl _)).mono ?_; rintro e w3' ⟨rfl, hb3⟩
      replace st := st.below hb3
      replace hmu := hmu.below hb3 hmu.lt
      clear hb3 y0 y1 y2 hr2
      cases hmb : mayB b
      · rw [mayE_no hmb]
        clear hmb
        go_wp2_with fail
        refine (works_any _).mono ?_; rintro e w4 ⟨rfl, hbx⟩
        go_wp2_with fail
        go_ret
        exact ⟨rfl, (st.below hbx).bel⟩
      · rw [mayE_yes hmb]
        have Hmb := Lib.hid hmb
        clear hmb
        have m0 : w3'.cell? ⟨g5, 0, none⟩ = some (.int .i64 V) := hmu.cell 0
        have m1 : w3'.cell? ⟨g5, 1, none⟩ = some (.int .u8 C) := hmu.cell 1
        go_wp2_with fail
        refine (is_any C V w3').mono ?_; rintro e w4 ⟨rfl, hb4⟩
        replace st := st.below hb4
        replace hmu := hmu.below hb4 hmu.lt
        clear hb4 m0 m1
        cases hib : isB C V
        · rw [isE_no hib]
          clear hib
          go_wp2_with fail
          refine (works_any _).mono ?_; rintro e w5 ⟨rfl, hbx⟩
          go_wp2_with fail
          go_ret
          exact ⟨rfl, (st.below hbx).bel⟩
        · rw [isE_yes hib]
          have Hib := Lib.hid hib
          clear hib
          have Hsc : Hid ((isB C V && mayB a) = true) := Lib.hid (by rw [Hib.out, Hma.out]; rfl)
          have Hall : Hid (allMay [a, b] = true) := Lib.hid (by simp [allMay, Hma.out, Hmb.out])
          have Hmj := Lib.hid (may_join Hma.out Hmb.out)
          have Hms := Lib.hid (may_sum Hma.out Hmb.out)
          have Hmz := Lib.hid (may_scale Hib.out Hma.out)
          obtain ⟨A1, n1, c1, x0, x1, x2, hr1⟩ := st.val g3 a (by simp)
          obtain ⟨A2', n2', c2', y0, y1, y2, hr2⟩ := st.val g4 b (by simp)
          have l3 := st.lt g3 a (by simp)
          have l4 := st.lt g4 b (by simp)
          have l5 : g5 < w4.heap.size := hmu.lt
          have m0 : w4.cell? ⟨g5, 0, none⟩ = some (.int .i64 V) := hmu.cell 0
          have m1 : w4.cell? ⟨g5, 1, none⟩ = some (.int .u8 C) := hmu.cell 1
          go_wp2_with fail
          refine (join2_any hr1 hr2 HG').mono ?_
          rintro e w5 ⟨A5, n5, c5, rfl, hr5, hbx⟩
          rw [Hall.out] at hr5 ⊢
          simp only [if_true] at hr5 ⊢
          replace st := st.below hbx
          replace hmu := hmu.below hbx hmu.lt
          clear hbx
          clear x0 x1 x2 y0 y1 y2 m0 m1 l3 l4 l5 hr1 hr2
          obtain ⟨A1, n1, c1, x0, x1, x2, hr1⟩ := st.val g3 a (by simp)
          obtain ⟨A2', n2', c2', y0, y1, y2, hr2⟩ := st.val g4 b (by simp)
          have l3 := st.lt g3 a (by simp)
          have l4 := st.lt g4 b (by simp)
          have l5 : g5 < w5.heap.size := hmu.lt
          have m0 : w5.cell? ⟨g5, 0, none⟩ = some (.int .i64 V) := hmu.cell 0
          have m1 : w5.cell? ⟨g5, 1, none⟩ = some (.int .u8 C) := hmu.cell 1
          go_wp2_with fail
          replace st := st.new (joinT [a, b]) hr5
          replace hmu := hmu.below (below_box (Obj.cells #[.bool (joinT [a, b]).never, .int .u8 (joinT [a, b]).c, .slice A5 n5 c5] 25)) hmu.lt
          have hz6 : (w5.alloc (Obj.cells #[.bool (joinT [a, b]).never, .int .u8 (joinT [a, b]).c, .slice A5 n5 c5] 25)).heap.size = w5.heap.size + 1 := by simp
          replace hr1 := hr1.fresh (below_box (Obj.cells #[.bool (joinT [a, b]).never, .int .u8 (joinT [a, b]).c, .slice A5 n5 c5] 25)) (Nat.le_refl _)
          replace hr2 := hr2.fresh (below_box (Obj.cells #[.bool (joinT [a, b]).never, .int .u8 (joinT [a, b]).c, .slice A5 n5 c5] 25)) (Nat.le_refl _)
          clear x0 x1 x2 y0 y1 y2 l3 l4 m0 m1 l5
          generalize w5.alloc (Obj.cells #[.bool (joinT [a, b]).never, .int .u8 (joinT [a, b]).c, .slice A5 n5 c5] 25) = w6 at st hmu hz6 hr1 hr2 ⊢
          try rw [← hz6]
          generalize w5.heap.size = g8 at st hz6 ⊢
          clear hr5 hz6
          refine (sum2_any hr1 hr2 HG').mono ?_
          rintro e w7 ⟨A7, n7, c7, rfl, hr5, hbx⟩
          rw [Hall.out] at hr5 ⊢
          simp only [if_true] at hr5 ⊢
          replace st := st.below hbx
          replace hmu := hmu.below hbx hmu.lt
          clear hbx
          clear hr1 hr2
          obtain ⟨A1, n1, c1, x0, x1, x2, hr1⟩ := st.val g3 a (by simp)
          obtain ⟨A2', n2', c2', y0, y1, y2, hr2⟩ := st.val g4 b (by simp)
          have l3 := st.lt g3 a (by simp)
          have l4 := st.lt g4 b (by simp)
          have l5 : g5 < w7.heap.size := hmu.lt
          have m0 : w7.cell? ⟨g5, 0, none⟩ = some (.int .i64 V) := hmu.cell 0
          have m1 : w7.cell? ⟨g5, 1, none⟩ = some (.int .u8 C) := hmu.cell 1
          go_wp2_with fail
          replace st := st.new (sumT [a, b]) hr5
          replace hmu := hmu.below (below_box (Obj.cells #[.bool (sumT [a, b]).never, .int .u8 (sumT [a, b]).c, .slice A7 n7 c7] 25)) hmu.lt
          have hz6 : (w7.alloc (Obj.cells #[.bool (sumT [a, b]).never, .int .u8 (sumT [a, b]).c, .slice A7 n7 c7] 25)).heap.size = w7.heap.size + 1 := by simp
          replace hr1 := hr1.fresh (below_box (Obj.cells #[.bool (sumT [a, b]).never, .int .u8 (sumT [a, b]).c, .slice A7 n7 c7] 25)) (Nat.le_refl _)
          replace hr2 := hr2.fresh (below_box (Obj.cells #[.bool (sumT [a, b]).never, .int .u8 (sumT [a, b]).c, .slice A7 n7 c7] 25)) (Nat.le_refl _)
          clear x0 x1 x2 y0 y1 y2 l3 l4 m0 m1 l5
          generalize w7.alloc (Obj.cells #[.bool (sumT [a, b]).never, .int .u8 (sumT [a, b]).c, .slice A7 n7 c7] 25) = w8 at st hmu hz6 hr1 hr2 ⊢
          try rw [← hz6]
          generalize w7.heap.size = g10 at st hz6 ⊢
          clear hr5 hz6
          refine (scale_any_t C V (.agg #[.bool (a).never, .int .u8 (a).c, .slice A1 n1 c1]) a w8 _ ⟨A1, n1, c1, rfl, hr1⟩ (Nat.le_refl _) (Nat.le_trans (great_vars HG' a (by simp)) (by omega))).mono ?_
          rintro e w9 ⟨A9, n9, c9, rfl, hr5, hbx⟩
          rw [Hsc.out] at hr5 ⊢
          simp only [if_true] at hr5 ⊢
          replace st := st.below hbx
          replace hmu := hmu.below hbx hmu.lt
          clear hbx
          clear hr1 hr2
          obtain ⟨A1, n1, c1, x0, x1, x2, hr1⟩ := st.val g8 (joinT [a, b]) (by simp)
          have l8 := st.lt g8 (joinT [a, b]) (by simp)
          go_wp2_with fail
          replace st := st.new (scaleT C V a) hr5
          replace hmu := hmu.below (below_box (Obj.cells #[.bool (scaleT C V a).never, .int .u8 (scaleT C V a).c, .slice A9 n9 c9] 25)) hmu.lt
          replace hr1 := hr1.fresh (below_box (Obj.cells #[.bool (scaleT C V a).never, .int .u8 (scaleT C V a).c, .slice A9 n9 c9] 25)) (Nat.le_refl _)
          clear x0 x1 x2 l8
          generalize w9.alloc (Obj.cells #[.bool (scaleT C V a).never, .int .u8 (scaleT C V a).c, .slice A9 n9 c9] 25) = w10 at st hmu hr1 ⊢
          generalize w9.heap.size = g12 at st ⊢
          clear hr5
          refine (may_at (.agg #[.bool (joinT [a, b]).never, .int .u8 (joinT [a, b]).c, .slice A1 n1 c1]) (joinT [a, b]) 0 (mayE_yes Hmj.out) w10 _ ⟨A1, n1, c1, rfl, hr1⟩ (Nat.le_refl _)).mono ?_; rintro e w11 ⟨rfl, hbx⟩
          replace st := st.below hbx
          replace hmu := hmu.below hbx hmu.lt
          clear hbx hr1
          obtain ⟨A3, n3, c3, x0, x1, x2, hr1⟩ := st.val g10 (sumT [a, b]) (by simp)
          go_wp2_with fail
          refine (may_at (.agg #[.bool (sumT [a, b]).never, .int .u8 (sumT [a, b]).c, .slice A3 n3 c3]) (sumT [a, b]) 0 (mayE_yes Hms.out) w11 _ ⟨A3, n3, c3, rfl, hr1⟩ (Nat.le_refl _)).mono ?_; rintro e w12 ⟨rfl, hbx⟩
          replace st := st.below hbx
          replace hmu := hmu.below hbx hmu.lt
          clear hbx x0 x1 x2 hr1
          obtain ⟨A3, n3, c3, x0, x1, x2, hr1⟩ := st.val g12 (scaleT C V a) (by simp)
          go_wp2_with fail
          refine (may_at (.agg #[.bool (scaleT C V a).never, .int .u8 (scaleT C V a).c, .slice A3 n3 c3]) (scaleT C V a) 0 (mayE_yes Hmz.out) w12 _ ⟨A3, n3, c3, rfl, hr1⟩ (Nat.le_refl _)).mono ?_; rintro e w13 ⟨rfl, hbx⟩
          replace st := st.below hbx
          replace hmu := hmu.below hbx hmu.lt
          clear hbx x0 x1 x2 hr1
          obtain ⟨X, hX⟩ : ∃ X, sameB a b = X := ⟨_, rfl⟩
          obtain ⟨Y, hY⟩ : ∃ Y, sameB (joinT [a, b]) (scaleT C V a) = Y := ⟨_, rfl⟩
          have hT1 : ((textT a).toList == (textT b).toList) = X := by rw [← hX]; exact text_same Hma.out Hmb.out
          have hT2 : ((textT (joinT [a, b])).toList == (textT (scaleT C V a)).toList) = Y := by rw [← hY]; exact text_same Hmj.out Hmz.out
          have HX := Lib.hid hX
          have HY := Lib.hid hY
          have hva := great_vars HG' a (by simp)
          have hvb := great_vars HG' b (by simp)
          have Hba : Hid (a.vars.length ≤ 1099511627776) := Lib.hid (by omega)
          have Hbb : Hid (b.vars.length ≤ 1099511627776) := Lib.hid (by omega)
          have Hbj : Hid ((joinT [a, b]).vars.length ≤ 1099511627776) := Lib.hid (Nat.le_trans (join_vlen a b) (by omega))
          have Hbz : Hid ((scaleT C V a).vars.length ≤ 1099511627776) := Lib.hid (Nat.le_trans (scale_vlen C V a) (by omega))
          have Htab1 := Lib.hid (Htab.out.below st.bel)
          clear hX hY hva hvb
          obtain ⟨A1, n1, c1, x0, x1, x2, hr1⟩ := st.val g3 a (by simp)
          obtain ⟨A2', n2', c2', y0, y1, y2, hr2⟩ := st.val g4 b (by simp)
          obtain ⟨Ap, np, cp, p0, p1, p2, hrp⟩ := st.val g8 (joinT [a, b]) (by simp)
          obtain ⟨Aq, nq', cq, q0, q1, q2, hrq⟩ := st.val g12 (scaleT C V a) (by simp)
          have kx0 := fun d os => cell_regrown x0 d os
          have kx1 := fun d os => cell_regrown x1 d os
          have kx2 := fun d os => cell_regrown x2 d os
          have ky0 := fun d os => cell_regrown y0 d os
          have ky1 := fun d os => cell_regrown y1 d os
          have ky2 := fun d os => cell_regrown y2 d os
          have kp0 := fun d os => cell_regrown p0 d os
          have kp1 := fun d os => cell_regrown p1 d os
          have kp2 := fun d os => cell_regrown p2 d os
          have kq0 := fun d os => cell_regrown q0 d os
          have kq1 := fun d os => cell_regrown q1 d os
          have kq2 := fun d os => cell_regrown q2 d os
          clear x0 x1 x2 y0 y1 y2 p0 p1 p2 q0 q1 q2
          go_wp2_with fail
          refine wp_region_quiet_below (by kernel_rfl) (by kernel_rfl) ?_
          repeat (go_big_quiet_step ((first | (go_at_call_of 33 (Value.agg #[Value.bool (a).never, Value.int IntKind.u8 (a).c, Value.slice A1 n1 c1]); exact Calls.regrown_of (text_at_t (.agg #[.bool (a).never, .int .u8 (a).c, .slice A1 n1 c1]) (a) Hma.out _ w13.heap.size ⟨A1, n1, c1, rfl, hr1.below (below_regrown _ _ _)⟩ (below_regrown _ _ _).size (Htab1.out.below (below_regrown _ _ _)) Hba.out)) | (go_at_call_of 33 (Value.agg #[Value.bool (b).never, Value.int IntKind.u8 (b).c, Value.slice A2' n2' c2']); exact Calls.regrown_of (text_at_t (.agg #[.bool (b).never, .int .u8 (b).c, .slice A2' n2' c2']) (b) Hmb.out _ w13.heap.size ⟨A2', n2', c2', rfl, hr2.below (below_regrown _ _ _)⟩ (below_regrown _ _ _).size (Htab1.out.below (below_regrown _ _ _)) Hbb.out)) | (go_at_call_of 33 (Value.agg #[Value.bool (joinT [a, b]).never, Value.int IntKind.u8 (joinT [a, b]).c, Value.slice Ap np cp]); exact Calls.regrown_of (text_at_t (.agg #[.bool (joinT [a, b]).never, .int .u8 (joinT [a, b]).c, .slice Ap np cp]) (joinT [a, b]) Hmj.out _ w13.heap.size ⟨Ap, np, cp, rfl, hrp.below (below_regrown _ _ _)⟩ (below_regrown _ _ _).size (Htab1.out.below (below_regrown _ _ _)) Hbj.out)) | (go_at_call_of 33 (Value.agg #[Value.bool (scaleT C V a).never, Value.int IntKind.u8 (scaleT C V a).c, Value.slice Aq nq' cq]); exact Calls.regrown_of (text_at_t (.agg #[.bool (scaleT C V a).never, .int .u8 (scaleT C V a).c, .slice Aq nq' cq]) (scaleT C V a) Hmz.out _ w13.heap.size ⟨Aq, nq', cq, rfl, hrq.below (below_regrown _ _ _)⟩ (below_regrown _ _ _).size (Htab1.out.below (below_regrown _ _ _)) Hbz.out)) | (go_at_call_of 37 (Value.agg #[Value.bool (b).never, Value.int IntKind.u8 (b).c, Value.slice A2' n2' c2']); exact Calls.regrown_of (same_at (.agg #[.bool (a).never, .int .u8 (a).c, .slice A1 n1 c1]) (.agg #[.bool (b).never, .int .u8 (b).c, .slice A2' n2' c2']) a b X HX.out _ w13.heap.size w13.heap.size ⟨A1, n1, c1, rfl, hr1.below (below_regrown _ _ _)⟩ ⟨A2', n2', c2', rfl, hr2.below (below_regrown _ _ _)⟩ (below_regrown _ _ _).size (below_regrown _ _ _).size)) | (go_at_call_of 37 (Value.agg #[Value.bool (scaleT C V a).never, Value.int IntKind.u8 (scaleT C V a).c, Value.slice Aq nq' cq]); exact Calls.regrown_of (same_at (.agg #[.bool (joinT [a, b]).never, .int .u8 (joinT [a, b]).c, .slice Ap np cp]) (.agg #[.bool (scaleT C V a).never, .int .u8 (scaleT C V a).c, .slice Aq nq' cq]) (joinT [a, b]) (scaleT C V a) Y HY.out _ w13.heap.size w13.heap.size ⟨Ap, np, cp, rfl, hrp.below (below_regrown _ _ _)⟩ ⟨Aq, nq', cq, rfl, hrq.below (below_regrown _ _ _)⟩ (below_regrown _ _ _).size (below_regrown _ _ _).size)) | (go_at_call 32; exact Calls.regrown_of (works_any _)))))
          refine wpQuiet_nil ?_
          intro _ hw'
          obtain ⟨⟨dq, osq⟩, hw''⟩ := hw'
          subst hw''
          go_wp2_with fail
          go_ret
          exact ⟨rfl, (st.below (below_regrown _ _ _)).bel⟩
  ·
    go_wp2_with fail
    refine (works_any _).mono ?_; rintro e w3 ⟨rfl, hbx⟩
    go_wp2_with fail
    go_ret
    exact ⟨rfl, (st.below hbx).bel⟩

theorem walk_termCloses (w : World) (htab : Tab w) (v1 : Value) (h1 : TermIn w v1) (v2 : Value) (h2 : TermIn w v2) (v3 : Value) (h3 : MuIn v3) :
    Calls Tryd.prog 11 #[v1, v2, v3] w fun e w' => e = .returned (.bool true) ∧ Below w.heap.size w w' := by
  obtain ⟨a, ⟨A, n, c, rfl, hr⟩, _⟩ := h1
  obtain ⟨b, ⟨A2, n2, c2, rfl, hr2⟩, _⟩ := h2
  obtain ⟨V, C, rfl, _⟩ := h3
  exact walkA_termCloses A n c a A2 n2 c2 b V C w hr hr2 htab

/-! ### the row's step -/
namespace termCloses
set_option maxRecDepth 100000 in
theorem lifted (os : Os) (started : os.Started) (H : Type) (enc : TypeId × Value → H) :
    ReturnsInHanded {} Tryd.checked os 11 .any (fun w args => (Rows.termClosesSpec.pre enc Tryd.prog Tryd.f11 [] false w args ∧ laidMetH Tryd.prog laid3 w) ∧ sizedMet enc Tryd.prog Tryd.f11 (OpenSpec.ofChange Rows.termClosesSpec) false w args) (Rows.termClosesSpec.post enc Tryd.prog Tryd.f11 false true false false) := by
  refine returnsInHanded_of_change_and (C := Tryd.checked) (X := fun w _ => laidMetH Tryd.prog laid3 w) (fun _ _ _ hh h => h.of_heap hh) own started (by kernel_rfl) Tryd.func11
    (ChangeSpec.witness_shaped (enc := enc) (C := Tryd.checked) (os := os) (X := fun w _ => laidMetH Tryd.prog laid3 w) false (World.doorLaid Tryd.prog 400 os) #[.agg #[.bool false, .int .u8 0, .slice none 0 0], .agg #[.bool false, .int .u8 0, .slice none 0 0], .agg #[.int .i64 0, .int .u8 0]] 8 rfl (World.shaped_of_RefB (by kernel_rfl) (by kernel_rfl)) (by kernel_rfl) (by kernel_rfl) (by kernel_rfl) (door_met os _)) ?_
  intro W base args ds gs before hval0 hW hcnd hsz0 hL _
  have hsz : (DataW.weightsEach Tryd.prog (Tryd.f11.params.toList ++ Rows.termClosesSpec.plain.varTypes Tryd.prog) (ds ++ gs)).all (· ≤ reachBytes) = true := hsz0
  have hval : ∀ (j : Nat) t v, Tryd.f11.params[j]? = some t → args[j]? = some v → Value.okWide Tryd.prog W .any base t v := hval0
  have hW' := hW
  obtain ⟨p, q, hA0, hV, rfl, hfz, hnd⟩ := hW
  have hA : DataW.TrodAll enc Tryd.prog W 0 (fun _ => true) true Tryd.f11.params.toList args.toList ds p := hA0
  rw [Tryd.params11] at hA hval hsz
  obtain ⟨v0, vs0, d0, ds0, p0, q0, hargs, rfl, rfl, h0, r_0⟩ := trodAll_cons hA
  obtain ⟨v1, vs1, d1, ds1, p1, q1, rfl, rfl, rfl, h1, r_1⟩ := trodAll_cons r_0
  obtain ⟨v2, vs2, d2, ds2, p2, q2, rfl, rfl, rfl, h2, r_2⟩ := trodAll_cons r_1
  obtain ⟨rfl, rfl, rfl⟩ := trodAll_nil r_2
  obtain rfl : args = #[v0, v1, v2] := by cases args; simp_all
  obtain ⟨rfl, rfl⟩ := trodVars_none hV
  have w0 := rd_term (hval 0 25 v0 rfl rfl) h0
  have w1 := rd_term (hval 1 25 v1 rfl rfl) h1
  have w2 := rd_mu (hval 2 31 v2 rfl rfl) h2
  refine (walk_termCloses (w := W) (tab_of_laid hL) v0 w0 v1 w1 v2 w2).mono fun e W' ⟨he, bel⟩ => ?_
  subst he
  exact ⟨_, rfl, law_post laidOut (by kernel_rfl) rfl rfl Tryd.underlying4 hW' rfl rfl rfl bel⟩
theorem over : Rows.termClosesRow.holds Tryd.pinned (OpenSpec.ofChange Rows.termClosesSpec) :=
  OpenClaim.holds_of_wide 11 Tryd.f11 rfl rfl rfl rfl rfl rfl rfl ⟨rfl, rfl, rfl, rfl, rfl⟩ rfl rfl rfl rfl rfl (by kernel_rfl) Tryd.func11 (by kernel_rfl)
    (of_decide_eq_true (by kernel_rfl)) (by unfold Func.isWrapper; first | (rw [if_pos (by decide +kernel)]; kernel_rfl) | (rw [if_neg (by decide +kernel)]; exact ⟨rfl, rfl⟩))
    (fun os started H enc _ => lifted os started H enc)
theorem card : Rows.TermClosesCardSaid :=
  Claim7.holds_tied_plain_at .later [] [.data, .data, .data] true Rows.termClosesCard.stood.harness false
    over (fun _ h => by cases h) (by kernel_rfl) (fun _ h => by cases h) termCloses_row_tie rfl ⟨rfl, rfl⟩ (by kernel_rfl) rfl
    (fun f fn hf hfn => by
      obtain rfl : f = 11 := Option.some.inj ((show Tryd.prog.funcNamed "usufruct/usufructlaw02.TermCloses" = some 11 by kernel_rfl).symm.trans hf) |>.symm
      obtain rfl : fn = Tryd.f11 := (Option.some.inj (Tryd.func11.symm.trans hfn)).symm
      exact ⟨by kernel_rfl, fun j t ht => by
        rw [Tryd.params11] at ht
        have hm : t ∈ [25, 31] := by simpa using Array.mem_of_getElem? ht
        have hall : ([25, 31].all fun u => !Tryd.prog.wantsStandIn u) = true := by kernel_rfl
        exact (show Tryd.prog.wantsStandIn t = false by simpa using List.all_eq_true.1 hall t hm)⟩)
    (by kernel_rfl)
/-- the statement -/
theorem proved : Rows.TermClosesCardSaid := card
#print axioms proved
end termCloses
end Go.Proofs.YtbccnfgceabopaaDoor
